/- Texts joined: KnE KnF. -/
import Derived.Test.YtbpmafpmlapekaaGreatJ28
import Derived.Test.YtbpmafpmlapekaaGreatJ24
namespace Go.Proofs.YtbpmafpmlapekaaGreat
/-- a text put among rising ones, once -/
def putT : List ByteArray → ByteArray → List ByteArray
  | [], n => [n]
  | x :: l, n => if x < n then x :: putT l n else if x = n then x :: l else n :: x :: l
theorem putT_mem : ∀ (l : List ByteArray) (n m : ByteArray), m ∈ putT l n ↔ m = n ∨ m ∈ l := by
  intro l
  induction l with
  | nil => intro n m; simp [putT]
  | cons x l ih =>
    intro n m
    rw [putT]
    split
    · simp only [List.mem_cons, ih]
      constructor
      · rintro (h | h | h) <;> simp [h]
      · rintro (h | h | h) <;> simp [h]
    · split
      · rename_i e
        subst e
        simp
      · simp
abbrev upT (l : List ByteArray) : Prop := l.Pairwise (· < ·)
theorem putT_up : ∀ (l : List ByteArray) (n : ByteArray), upT l → upT (putT l n) := by
  intro l
  induction l with
  | nil => intro n _; simp [putT]
  | cons x l ih =>
    intro n h
    obtain ⟨h1, h2⟩ := List.pairwise_cons.1 h
    rw [putT]
    split
    · rename_i c
      refine List.pairwise_cons.2 ⟨fun z hz => ?_, ih n h2⟩
      rcases (putT_mem _ _ _).1 hz with rfl | hz
      · exact c
      · exact h1 z hz
    · split
      · exact h
      · refine List.pairwise_cons.2 ⟨fun z hz => ?_, h⟩
        rcases List.mem_cons.1 hz with rfl | hz
        · grind
        · have := h1 z hz; grind
/-- two rising lists with the same texts are one -/
theorem upT_uniq : ∀ {l m : List ByteArray}, upT l → upT m → (∀ s, s ∈ l ↔ s ∈ m) → l = m := by
  intro l
  induction l with
  | nil =>
    intro m _ _ h
    cases m with
    | nil => rfl
    | cons y m => have := (h y).2 (by simp); simp at this
  | cons x l ih =>
    intro m hl hm h
    cases m with
    | nil => have := (h x).1 (by simp); simp at this
    | cons y m =>
      obtain ⟨a1, a2⟩ := List.pairwise_cons.1 hl
      obtain ⟨b1, b2⟩ := List.pairwise_cons.1 hm
      have e : x = y := by
        rcases List.mem_cons.1 ((h x).1 (by simp)) with q | q
        · exact q
        · rcases List.mem_cons.1 ((h y).2 (by simp)) with z | z
          · exact z.symm
          · have := b1 x q; have := a1 y z; grind
      subst e
      rw [ih a2 b2 (fun s => ?_)]
      constructor
      · intro q
        have := a1 s q
        rcases List.mem_cons.1 ((h s).1 (by simp [q])) with z | z
        · subst z; grind
        · exact z
      · intro q
        have := b1 s q
        rcases List.mem_cons.1 ((h s).2 (by simp [q])) with z | z
        · subst z; grind
        · exact z
def edg1T (e : List ByteArray) (r : Rg) : List ByteArray := if rgR r then (if r.op then putT e r.lo else putT (putT e r.lo) r.hi) else e
def edgT (e : List ByteArray) (l : List Rg) : List ByteArray := l.foldl edg1T e
theorem edg1T_up {e : List ByteArray} {r : Rg} (h : upT e) : upT (edg1T e r) := by
  unfold edg1T; split
  · split
    · exact putT_up _ _ h
    · exact putT_up _ _ (putT_up _ _ h)
  · exact h
theorem edgT_up : ∀ (l : List Rg) (e : List ByteArray), upT e → upT (edgT e l) := by
  intro l
  induction l with
  | nil => intro e h; exact h
  | cons r l ih => intro e h; exact ih _ (edg1T_up h)
/-- an edge of a right range -/
def isEdge (r : Rg) (m : ByteArray) : Prop := rgR r = true ∧ (m = r.lo ∨ r.op = false ∧ m = r.hi)
theorem edgT_mem : ∀ (l : List Rg) (e : List ByteArray) (m : ByteArray), m ∈ edgT e l ↔ m ∈ e ∨ ∃ r ∈ l, isEdge r m := by
  intro l
  induction l with
  | nil => intro e m; simp [edgT]
  | cons r l ih =>
    intro e m
    show m ∈ edgT (edg1T e r) l ↔ _
    rw [ih]
    have h1 : m ∈ edg1T e r ↔ m ∈ e ∨ isEdge r m := by
      unfold edg1T isEdge
      by_cases c : rgR r = true
      · rw [if_pos c]
        by_cases o : r.op = true
        · rw [if_pos o, putT_mem]
          simp [c, o, or_comm]
        · rw [if_neg o, putT_mem, putT_mem]
          have o' : r.op = false := by simpa using o
          simp only [c, o', true_and]
          constructor
          · rintro (h | h | h) <;> simp [h]
          · rintro (h | h | h) <;> simp [h]
      · rw [if_neg c]
        simp [c]
    rw [h1]
    simp only [List.mem_cons, exists_eq_or_imp, or_assoc]
theorem edgT_len : ∀ (l : List Rg) (e : List ByteArray), (edgT e l).length ≤ e.length + 2 * l.length := by
  have h1 : ∀ (l : List ByteArray) (n : ByteArray), (putT l n).length ≤ l.length + 1 := by
    intro l
    induction l with
    | nil => intro n; simp [putT]
    | cons x l ih =>
      intro n
      rw [putT]
      split
      · have := ih n; simp; omega
      · split <;> simp
  intro l
  induction l with
  | nil => intro e; simp [edgT]
  | cons r l ih =>
    intro e
    show (edgT (edg1T e r) l).length ≤ _
    have h2 := ih (edg1T e r)
    have h3 : (edg1T e r).length ≤ e.length + 2 := by
      unfold edg1T
      have a := h1 (putT e r.lo) r.hi
      have b := h1 e r.lo
      split
      · split <;> omega
      · omega
    rw [List.length_cons]; omega
abbrev emB : ByteArray := ⟨#[]⟩
theorem emB_le (s : ByteArray) : emB ≤ s := by
  show cmpB emB s ≤ 0
  unfold cmpB
  cases s.data.toList with
  | nil => decide
  | cons x l => simp [cmpL]
/-! ### right knowledge -/
/-- what is known of a text -/
def getK (k : List Pc) (s : ByteArray) : List Kn := match k with
  | [] => []
  | p :: l => if rgHas p.rg s then p.set else getK l s
theorem getK_nil (s : ByteArray) : getK [] s = [] := rfl
theorem getK_in {p : Pc} {l : List Pc} {s : ByteArray} (h : rgHas p.rg s = true) : getK (p :: l) s = p.set := by rw [getK, if_pos h]
theorem getK_out {p : Pc} {l : List Pc} {s : ByteArray} (h : ¬ rgHas p.rg s = true) : getK (p :: l) s = getK l s := by rw [getK, if_neg h]
theorem rgHas_iff {r : Rg} (h : rgR r = true) (s : ByteArray) : rgHas r s = true ↔ r.lo ≤ s ∧ (r.op = true ∨ s < r.hi) := by
  rw [rgHas_of h]; simp
theorem rgHas_lo {r : Rg} (h : rgR r = true) : rgHas r r.lo = true := by
  rw [rgHas_iff h]
  refine ⟨by grind, ?_⟩
  rcases rgR_lo h with q | q
  · exact .inl q
  · exact .inr q
/-- pieces in order, each right; two side by side may know the same -/
def pcW (p : Pc) : Prop := rgR p.rg = true ∧ p.set ≠ [] ∧ knsOk p.set
theorem pcsOk_nil : pcsOk [] := fun i hi => by simp at hi
theorem pcsOk_cons (p : Pc) (l : List Pc) : pcsOk (p :: l) ↔ pcW p ∧ (∀ q, l.head? = some q → p.rg.op = false ∧ p.rg.hi ≤ q.rg.lo ∧ ¬ (p.rg.hi = q.rg.lo ∧ p.set = q.set)) ∧ pcsOk l := by
  constructor
  · intro h
    have h0 := h 0 (by simp) (by simp)
    refine ⟨⟨h0.1, h0.2.1, h0.2.2.1⟩, fun q hq => ?_, fun i hi hi' => ?_⟩
    · cases l with
      | nil => cases hq
      | cons z l =>
        cases hq
        exact (h 1 (by simp) (by simp)).2.2.2 (by omega)
    · have h1 := h (i + 1) (by simpa using hi) (by simpa using hi)
      simp only [List.getElem_cons_succ, Nat.add_sub_cancel] at h1
      refine ⟨h1.1, h1.2.1, h1.2.2.1, fun h0 => ?_⟩
      have h2 := h1.2.2.2 (by omega)
      obtain ⟨j, rfl⟩ : ∃ j, i = j + 1 := ⟨i - 1, by omega⟩
      exact h2
  · rintro ⟨⟨h1, h2, h2'⟩, h3, h4⟩ i hi hi'
    cases i with
    | zero => exact ⟨h1, h2, h2', fun q => absurd q (Nat.lt_irrefl _)⟩
    | succ i =>
      have h5 := h4 i (by simpa using hi) (by simpa using hi)
      simp only [List.getElem_cons_succ, Nat.add_sub_cancel]
      refine ⟨h5.1, h5.2.1, h5.2.2.1, fun _ => ?_⟩
      cases i with
      | zero =>
        cases l with
        | nil => simp at hi
        | cons z l => exact h3 z rfl
      | succ i =>
        exact h5.2.2.2 (by omega)
theorem pcsOk_low {p : Pc} {l : List Pc} (h : pcsOk (p :: l)) {s : ByteArray} (hs : getK l s ≠ []) : p.rg.op = false ∧ p.rg.hi ≤ s := by
  induction l generalizing p with
  | nil => exact absurd rfl hs
  | cons q l ih =>
    obtain ⟨_, h2, h3⟩ := (pcsOk_cons _ _).1 h
    obtain ⟨a, b, _⟩ := h2 q rfl
    obtain ⟨⟨hq, _, _⟩, _, _⟩ := (pcsOk_cons _ _).1 h3
    refine ⟨a, ?_⟩
    by_cases c : rgHas q.rg s = true
    · have := ((rgHas_iff hq s).1 c).1
      grind
    · rw [getK_out c] at hs
      obtain ⟨_, d⟩ := ih h3 hs
      rcases rgR_lo hq with z | z
      · have := (ih h3 hs).1; rw [z] at this; cases this
      · grind
theorem getK_lo {p : Pc} {l : List Pc} (h : pcsOk (p :: l)) {s : ByteArray} (hs : getK (p :: l) s ≠ []) : p.rg.lo ≤ s := by
  obtain ⟨⟨hp, _, _⟩, _, _⟩ := (pcsOk_cons _ _).1 h
  by_cases c : rgHas p.rg s = true
  · exact ((rgHas_iff hp s).1 c).1
  · rw [getK_out c] at hs
    obtain ⟨a, b⟩ := pcsOk_low h hs
    rcases rgR_lo hp with z | z
    · rw [z] at a; cases a
    · grind
theorem getK_first {p : Pc} {l : List Pc} (h : pcsOk (p :: l)) : getK (p :: l) p.rg.lo = p.set ∧ p.set ≠ [] := by
  obtain ⟨⟨hp, h2, _⟩, _, _⟩ := (pcsOk_cons _ _).1 h
  exact ⟨getK_in (rgHas_lo hp), h2⟩
/-- where a piece ends, another thing is known -/
theorem getK_end {p : Pc} {l : List Pc} (h : pcsOk (p :: l)) (ho : p.rg.op = false) : getK (p :: l) p.rg.hi ≠ p.set := by
  obtain ⟨⟨hp, h2, _⟩, h3, h4⟩ := (pcsOk_cons _ _).1 h
  have c : ¬ rgHas p.rg p.rg.hi = true := fun q => by
    rcases ((rgHas_iff hp _).1 q).2 with z | z
    · rw [ho] at z; cases z
    · grind
  rw [getK_out c]
  cases l with
  | nil => exact fun e => h2 e.symm
  | cons q l =>
    obtain ⟨_, b, d⟩ := h3 q rfl
    intro e
    have hne : getK (q :: l) p.rg.hi ≠ [] := by rw [e]; exact h2
    have := getK_lo h4 hne
    have e2 : p.rg.hi = q.rg.lo := by grind
    rw [e2, (getK_first h4).1] at e
    exact d ⟨e2, e.symm⟩
theorem pcsOk_uniq : ∀ {l m : List Pc}, pcsOk l → pcsOk m → (∀ s, getK l s = getK m s) → l = m := by
  intro l
  induction l with
  | nil =>
    intro m _ hm h
    cases m with
    | nil => rfl
    | cons q m =>
      obtain ⟨a, b⟩ := getK_first hm
      exact absurd ((h _).trans a).symm b
  | cons p l ih =>
    intro m hl hm h
    cases m with
    | nil =>
      obtain ⟨a, b⟩ := getK_first hl
      exact absurd (a.symm.trans (h _)) b
    | cons q m =>
      obtain ⟨a1, a2⟩ := getK_first hl
      obtain ⟨b1, b2⟩ := getK_first hm
      obtain ⟨⟨hp, _, _⟩, _, hl'⟩ := (pcsOk_cons _ _).1 hl
      obtain ⟨⟨hq, _, _⟩, _, hm'⟩ := (pcsOk_cons _ _).1 hm
      have e1 : p.rg.lo = q.rg.lo := by
        have x := getK_lo hm (s := p.rg.lo) (by rw [← h, a1]; exact a2)
        have y := getK_lo hl (s := q.rg.lo) (by rw [h, b1]; exact b2)
        grind
      have e2 : p.set = q.set := by rw [← a1, ← b1, h, e1]
      have inn : ∀ {r r' : Pc} {l l' : List Pc}, pcsOk (r :: l) → pcsOk (r' :: l') → rgR r.rg = true → rgR r'.rg = true → r.rg.lo = r'.rg.lo → r.set = r'.set → (∀ s, getK (r :: l) s = getK (r' :: l') s) → r.rg.op = false → r'.rg.op = false ∧ r'.rg.hi ≤ r.rg.hi := by
        intro r r' l l' h1 h2 hr hr' z1 z2 hg ho
        have hE := getK_end h1 ho
        rw [hg, z2] at hE
        have hlt : r.rg.lo < r.rg.hi := by
          rcases rgR_lo hr with q | q
          · rw [ho] at q; cases q
          · exact q
        have hno : ¬ rgHas r'.rg r.rg.hi = true := fun c => hE (getK_in c)
        rw [rgHas_iff hr'] at hno
        have : r'.rg.op = false := by
          rw [← Bool.not_eq_true]; intro c; exact hno ⟨by grind, .inl c⟩
        refine ⟨this, ?_⟩
        by_cases c : r.rg.hi < r'.rg.hi
        · exact absurd ⟨by grind, .inr c⟩ hno
        · grind
      have e3 : p.rg.op = q.rg.op := by
        cases o : p.rg.op with
        | false => exact (inn hl hm hp hq e1 e2 h o).1.symm
        | true =>
          cases o' : q.rg.op with
          | true => rfl
          | false =>
            have := (inn hm hl hq hp e1.symm e2.symm (fun s => (h s).symm) o').1
            rw [o] at this; cases this
      have e4 : p.rg.hi = q.rg.hi := by
        cases o : p.rg.op with
        | false =>
          have x := (inn hl hm hp hq e1 e2 h o).2
          have y := (inn hm hl hq hp e1.symm e2.symm (fun s => (h s).symm) (e3 ▸ o)).2
          grind
        | true =>
          have x := (rgR_iff _).1 hp
          have y := (rgR_iff _).1 hq
          rw [← e3, o] at y
          rw [o] at x
          simp at x y
          rw [x.2.2, y.2.2]
      have e : p = q := by
        obtain ⟨⟨lo, hi, op⟩, st⟩ := p
        obtain ⟨⟨lo', hi', op'⟩, st'⟩ := q
        simp only at e1 e2 e3 e4
        rw [e1, e2, e3, e4]
      subst e
      rw [ih hl' hm' (fun s => ?_)]
      by_cases c : rgHas p.rg s = true
      · have no : ∀ {t : List Pc}, pcsOk (p :: t) → getK t s = [] := fun {t} ht => by
          refine Classical.byContradiction fun z => ?_
          obtain ⟨x, y⟩ := pcsOk_low ht z
          rcases ((rgHas_iff hp s).1 c).2 with w | w
          · rw [x] at w; cases w
          · grind
        rw [no hl, no hm]
      · have := h s
        rwa [getK_out c, getK_out c] at this
end Go.Proofs.YtbpmafpmlapekaaGreat
namespace Go.Proofs.YtbpmafpmlapekaaGreat
/-- merged: what touches and knows the same -/
def tchB (p q : Pc) : Bool := !p.rg.op && (decide (p.rg.hi = q.rg.lo) && decide (p.set = q.set))
def mgT : Pc → List Pc → List Pc
  | c, [] => [c]
  | c, p :: l => if tchB c p then mgT ⟨⟨c.rg.lo, p.rg.hi, p.rg.op⟩, c.set⟩ l else c :: mgT p l
def mergeK : List Pc → List Pc
  | [] => []
  | p :: l => mgT p l
theorem mgT_head : ∀ (l : List Pc) (c : Pc), ∃ z t, mgT c l = z :: t ∧ z.rg.lo = c.rg.lo ∧ z.set = c.set := by
  intro l
  induction l with
  | nil => intro c; exact ⟨c, [], rfl, rfl, rfl⟩
  | cons p l ih =>
    intro c
    rw [mgT]
    split
    · obtain ⟨z, t, h1, h2, h3⟩ := ih ⟨⟨c.rg.lo, p.rg.hi, p.rg.op⟩, c.set⟩
      exact ⟨z, t, h1, h2, h3⟩
    · exact ⟨c, _, rfl, rfl, rfl⟩
/-- one behind the other -/
def Beh (p q : Pc) : Prop := p.rg.op = false ∧ p.rg.hi ≤ q.rg.lo
theorem mgT_ok : ∀ (l : List Pc) (c : Pc), (c :: l).Pairwise Beh → (∀ p ∈ c :: l, pcW p) → pcsOk (mgT c l) ∧ ∀ s, getK (mgT c l) s = getK (c :: l) s := by
  intro l
  induction l with
  | nil =>
    intro c _ h
    exact ⟨(pcsOk_cons c []).2 ⟨h c (by simp), fun q hq => by simp at hq, pcsOk_nil⟩, fun _ => rfl⟩
  | cons p l ih =>
    intro c hs h
    have hc := h c (by simp)
    have hp := h p (by simp)
    obtain ⟨s1, s2⟩ := List.pairwise_cons.1 hs
    obtain ⟨t1, t2⟩ := s1 p (by simp)
    obtain ⟨s4, s5⟩ := List.pairwise_cons.1 s2
    have clt : c.rg.lo < c.rg.hi := by
      rcases rgR_lo hc.1 with q | q
      · rw [t1] at q; cases q
      · exact q
    rw [mgT]
    by_cases g : tchB c p = true
    · rw [if_pos g]
      unfold tchB at g
      simp only [Bool.and_eq_true, Bool.not_eq_true', decide_eq_true_eq] at g
      obtain ⟨_, g2, g3⟩ := g
      have r1 := (rgR_iff _).1 hc.1
      have r2 := (rgR_iff _).1 hp.1
      have hm : rgR ⟨c.rg.lo, p.rg.hi, p.rg.op⟩ = true := (rgR_iff _).2 ⟨r1.1, r2.2.1, by
        cases o : p.rg.op with
        | true =>
          rw [o] at r2
          simpa using r2.2.2
        | false =>
          rcases rgR_lo hp.1 with q | q
          · rw [o] at q; cases q
          · rw [if_neg (by simp), o_lt]
            simp only
            grind⟩
      have := ih ⟨⟨c.rg.lo, p.rg.hi, p.rg.op⟩, c.set⟩ (List.pairwise_cons.2 ⟨fun z hz => s4 z hz, s5⟩) (fun z hz => by
        rcases List.mem_cons.1 hz with rfl | hz
        · exact ⟨hm, hc.2⟩
        · exact h z (by simp [hz]))
      refine ⟨this.1, fun s => ?_⟩
      rw [this.2 s, getK, getK, getK]
      have e : rgHas ⟨c.rg.lo, p.rg.hi, p.rg.op⟩ s = (rgHas c.rg s || rgHas p.rg s) := by
        rw [Bool.eq_iff_iff, Bool.or_eq_true, rgHas_iff hm, rgHas_iff hc.1, rgHas_iff hp.1]
        simp only
        rcases rgR_lo hp.1 with q | q
        · simp only [q, t1]
          constructor
          · rintro ⟨a, _⟩
            by_cases z : s < c.rg.hi
            · exact .inl ⟨a, .inr z⟩
            · exact .inr ⟨by grind, .inl trivial⟩
          · rintro (⟨a, _⟩ | ⟨a, _⟩)
            · exact ⟨a, .inl trivial⟩
            · exact ⟨by grind, .inl trivial⟩
        · constructor
          · rintro ⟨a, b⟩
            by_cases z : s < c.rg.hi
            · exact .inl ⟨a, .inr z⟩
            · exact .inr ⟨by grind, b⟩
          · rintro (⟨a, b⟩ | ⟨a, b⟩)
            · refine ⟨a, .inr ?_⟩
              rcases b with b | b
              · rw [t1] at b; cases b
              · grind
            · exact ⟨by grind, b⟩
      rw [e]
      cases rgHas c.rg s with
      | true => simp
      | false =>
        cases rgHas p.rg s with
        | true => simp [g3]
        | false => simp
    · rw [if_neg g]
      have := ih p s2 (fun z hz => h z (List.mem_cons_of_mem _ hz))
      obtain ⟨z, t, e1, e2, e3⟩ := mgT_head l p
      refine ⟨(pcsOk_cons _ _).2 ⟨hc, fun q hq => ?_, this.1⟩, fun s => ?_⟩
      · rw [e1] at hq
        cases hq
        refine ⟨t1, by rw [e2]; exact t2, fun ⟨q1, q2⟩ => g ?_⟩
        unfold tchB
        rw [e2] at q1
        rw [e3] at q2
        simp [t1, q1, q2]
      · rw [getK, this.2 s, getK.eq_def (c :: p :: l)]
theorem mergeK_ok {l : List Pc} (hs : l.Pairwise Beh) (h : ∀ p ∈ l, pcW p) : pcsOk (mergeK l) ∧ ∀ s, getK (mergeK l) s = getK l s := by
  cases l with
  | nil => exact ⟨pcsOk_nil, fun _ => rfl⟩
  | cons x l => exact mgT_ok l x hs h
/-- the stretches between edges, each with what is known there -/
def nextR (s : ByteArray) : List ByteArray → Rg
  | [] => ⟨s, emB, true⟩
  | t :: _ => ⟨s, t, false⟩
def segT (f : ByteArray → List Kn) : List ByteArray → List Pc
  | [] => []
  | e :: E => (if (f e).length = 0 then [] else [⟨nextR e E, f e⟩]) ++ segT f E
def bldK (f : ByteArray → List Kn) (E : List ByteArray) : List Pc := mergeK (segT f E)
def edgOk (E : List ByteArray) : Prop := ∀ m ∈ E, m.size ≤ 17
theorem nextR_ok {e : ByteArray} {E : List ByteArray} (h : upT (e :: E)) (ho : edgOk (e :: E)) : rgR (nextR e E) = true := by
  cases E with
  | nil => exact (rgR_iff _).2 ⟨ho e (by simp), by show (0 : Nat) ≤ 17; decide, by simp [nextR]; rfl⟩
  | cons t E =>
    refine (rgR_iff _).2 ⟨ho e (by simp), ho t (by simp), ?_⟩
    have := (List.pairwise_cons.1 h).1 t (by simp)
    simp only [nextR]
    exact this
theorem segT_low (f : ByteArray → List Kn) (hf : ∀ s, knsOk (f s)) : ∀ (E : List ByteArray), upT E → edgOk E → ∀ p ∈ segT f E, pcW p ∧ p.rg.lo ∈ E := by
  intro E
  induction E with
  | nil => intro _ _ p hp; simp [segT] at hp
  | cons e E ih =>
    intro h ho p hp
    rw [segT, List.mem_append] at hp
    rcases hp with hp | hp
    · split at hp
      · simp at hp
      · rename_i c
        have hp : p = ⟨nextR e E, f e⟩ := by simpa using hp
        subst hp
        refine ⟨⟨nextR_ok h ho, fun q => c (by simp only at q; rw [q]; rfl), hf e⟩, ?_⟩
        have : (nextR e E).lo = e := by cases E <;> rfl
        simp [this]
    · have := ih (List.pairwise_cons.1 h).2 (fun m hm => ho m (List.mem_cons_of_mem _ hm)) p hp
      exact ⟨this.1, List.mem_cons_of_mem _ this.2⟩
theorem segT_beh (f : ByteArray → List Kn) (hf : ∀ s, knsOk (f s)) : ∀ (E : List ByteArray), upT E → edgOk E → (segT f E).Pairwise Beh := by
  intro E
  induction E with
  | nil => intro _ _; exact List.Pairwise.nil
  | cons e E ih =>
    intro h ho
    have h2 := (List.pairwise_cons.1 h).2
    have ho2 : edgOk E := fun m hm => ho m (List.mem_cons_of_mem _ hm)
    have h3 := ih h2 ho2
    rw [segT]
    split
    · exact h3
    · refine List.pairwise_cons.2 ⟨fun z hz => ?_, h3⟩
      have h4 := (segT_low f hf E h2 ho2 z hz).2
      cases E with
      | nil => simp at h4
      | cons t E =>
        refine ⟨rfl, ?_⟩
        show t ≤ z.rg.lo
        rcases List.mem_cons.1 h4 with q | q
        · rw [q]; grind
        · have := (List.pairwise_cons.1 h2).1 _ q; grind
/-- what is said turns at edges alone -/
def CstT (f : ByteArray → List Kn) (E : List ByteArray) : Prop := ∀ e n, e ≤ n → (∀ m ∈ E, m ≤ e ∨ n < m) → f e = f n
theorem getK_none {l : List Pc} {s : ByteArray} (h : ∀ p ∈ l, pcW p ∧ s < p.rg.lo) : getK l s = [] := by
  induction l with
  | nil => rfl
  | cons p l ih =>
    obtain ⟨a, b⟩ := h p (by simp)
    rw [getK_out (fun c => by have := ((rgHas_iff a.1 s).1 c).1; grind)]
    exact ih (fun q hq => h q (List.mem_cons_of_mem _ hq))
theorem segT_get {f : ByteArray → List Kn} {M : List ByteArray} (hf : ∀ s, knsOk (f s)) (hc : CstT f M) : ∀ (E : List ByteArray) (e : ByteArray), upT (e :: E) → edgOk (e :: E) → (∀ m ∈ M, m ≤ e ∨ m ∈ E) → ∀ s, e ≤ s → getK (segT f (e :: E)) s = f s := by
  intro E
  induction E with
  | nil =>
    intro e h ho hM s hs
    have he : f e = f s := hc e s hs (fun m hm => by rcases hM m hm with q | q; · exact .inl q
                                                     · simp at q)
    rw [segT, segT, List.append_nil, ← he]
    split
    · rename_i q
      rw [getK_nil, List.eq_nil_of_length_eq_zero q]
    · exact getK_in ((rgHas_iff (nextR_ok h ho) s).2 ⟨hs, .inl rfl⟩)
  | cons t E ih =>
    intro e h ho hM s hs
    obtain ⟨h1, h2⟩ := List.pairwise_cons.1 h
    have h3 := h1 t (by simp)
    have ho2 : edgOk (t :: E) := fun m hm => ho m (List.mem_cons_of_mem _ hm)
    obtain ⟨h4, _⟩ := List.pairwise_cons.1 h2
    by_cases c : s < t
    · have he : f e = f s := hc e s hs (fun m hm => by
        rcases hM m hm with q | q
        · exact .inl q
        · rcases List.mem_cons.1 q with rfl | q
          · exact .inr c
          · have := h4 m q; exact .inr (by grind))
      have hno : getK (segT f (t :: E)) s = [] := getK_none (fun p hp => by
        obtain ⟨a, b⟩ := segT_low f hf _ h2 ho2 p hp
        refine ⟨a, ?_⟩
        rcases List.mem_cons.1 b with q | q
        · rw [q]; exact c
        · have := h4 _ q; grind)
      rw [segT, ← he]
      split
      · rename_i q
        rw [List.nil_append, hno, List.eq_nil_of_length_eq_zero q]
      · exact getK_in ((rgHas_iff (nextR_ok h ho) s).2 ⟨hs, .inr c⟩)
    · have := ih t h2 ho2 (fun m hm => by
        rcases hM m hm with q | q
        · exact .inl (by grind)
        · rcases List.mem_cons.1 q with rfl | q
          · exact .inl (by grind)
          · exact .inr q) s (by grind)
      rw [segT]
      split
      · exact this
      · refine (getK_out (fun q => ?_)).trans this
        rcases ((rgHas_iff (nextR_ok h ho) s).1 q).2 with z | z
        · cases z
        · exact c z
/-- built by edges, it is right, and knows what was asked for -/
theorem bldK_ok {f : ByteArray → List Kn} (hf : ∀ s, knsOk (f s)) {E : List ByteArray} (hup : upT E) (ho : edgOk E) (h0 : emB ∈ E) (hc : CstT f E) : pcsOk (bldK f E) ∧ ∀ s, getK (bldK f E) s = f s := by
  have h1 := mergeK_ok (segT_beh f hf E hup ho) (fun p hp => (segT_low f hf E hup ho p hp).1)
  refine ⟨h1.1, fun s => (h1.2 s).trans ?_⟩
  cases E with
  | nil => simp at h0
  | cons e E =>
    have he : e = emB := by
      rcases List.mem_cons.1 h0 with q | q
      · exact q.symm
      · have := (List.pairwise_cons.1 hup).1 _ q
        have := emB_le e
        grind
    exact segT_get hf hc E e hup ho (fun m hm => by
      rcases List.mem_cons.1 hm with rfl | hm
      · exact .inl (by grind)
      · exact .inr hm) s (by rw [he]; exact emB_le s)
theorem bldK_eq {f : ByteArray → List Kn} (hf : ∀ s, knsOk (f s)) {E : List ByteArray} (hup : upT E) (ho : edgOk E) (h0 : emB ∈ E) (hc : CstT f E) {k : List Pc} (hk : pcsOk k) (hg : ∀ s, getK k s = f s) : bldK f E = k :=
  have h := bldK_ok hf hup ho h0 hc
  pcsOk_uniq h.1 hk (fun s => (h.2 s).trans (hg s).symm)
theorem segT_len (f : ByteArray → List Kn) : ∀ E : List ByteArray, (segT f E).length ≤ E.length := by
  intro E
  induction E with
  | nil => simp [segT]
  | cons e E ih =>
    rw [segT, List.length_append, List.length_cons]
    have : (if (f e).length = 0 then [] else [(⟨nextR e E, f e⟩ : Pc)]).length ≤ 1 := by split <;> simp
    omega
theorem mgT_len : ∀ (l : List Pc) (c : Pc), (mgT c l).length ≤ l.length + 1 := by
  intro l
  induction l with
  | nil => intro c; simp [mgT]
  | cons r l ih =>
    intro c
    rw [mgT]
    split
    · have := ih ⟨⟨c.rg.lo, r.rg.hi, r.rg.op⟩, c.set⟩; simp; omega
    · have := ih r; simp; omega
theorem bldK_len (f : ByteArray → List Kn) (E : List ByteArray) : (bldK f E).length ≤ E.length := by
  have h1 := segT_len f E
  unfold bldK
  cases h : segT f E with
  | nil => exact Nat.zero_le _
  | cons c l =>
    rw [h] at h1
    exact Nat.le_trans (mgT_len l c) h1
end Go.Proofs.YtbpmafpmlapekaaGreat
