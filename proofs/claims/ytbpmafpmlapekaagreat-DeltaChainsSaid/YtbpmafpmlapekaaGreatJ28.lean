/- Texts joined: RgO. -/
import Derived.Test.YtbpmafpmlapekaaGreatJ18
import Derived.Test.YtbpmafpmlapekaaGreatJ12
import Derived.Test.YtbpmafpmlapekaaGreatJ27
namespace Go.Proofs.YtbpmafpmlapekaaGreat
/-- what a range has -/
def rgHas (r : Rg) (s : ByteArray) : Bool := rgR r && (decide (r.lo ≤ s) && (r.op || decide (s < r.hi)))
/-- which of two right ones ends ahead -/
def endR (a b : Rg) : Int := if a.op && b.op then 0 else if a.op then 1 else if b.op then -1 else cmpB a.hi b.hi
def ofF (out : List Rg) (r : Rg) : List Rg := match out.reverse with
  | [] => [r]
  | x :: z => if x.op = false ∧ cmpB x.hi r.lo < 0 then out ++ [r] else if endR x r < 0 then z.reverse ++ [⟨x.lo, r.hi, r.op⟩] else out
def ltR (x y : Rg) : Bool := decide (cmpB x.lo y.lo < 0)
theorem rgR_lo {r : Rg} (h : rgR r = true) : r.op = true ∨ r.lo < r.hi := by
  obtain ⟨_, _, h⟩ := (rgR_iff r).1 h
  cases ho : r.op with
  | true => exact .inl rfl
  | false => rw [ho] at h; exact .inr ((o_lt _ _).1 (by simpa using h))
/-- the chain: each right, and behind the one ahead of it; of a list that is turned round -/
inductive Chn : List Rg → Prop
  | nil : Chn []
  | one {x} : rgR x = true → Chn [x]
  | cons {x y z} : rgR x = true → y.op = false → y.hi < x.lo → Chn (y :: z) → Chn (x :: y :: z)
theorem Chn.tail {x : Rg} {z : List Rg} (h : Chn (x :: z)) : Chn z := by
  cases h with
  | one _ => exact .nil
  | cons _ _ _ h => exact h
theorem Chn.head {x : Rg} {z : List Rg} (h : Chn (x :: z)) : rgR x = true := by
  cases h with
  | one h => exact h
  | cons h _ _ _ => exact h
theorem Chn.ok : ∀ {l : List Rg}, Chn l → rgsOk l.reverse := by
  intro l h
  induction h with
  | nil => intro i hi; simp at hi
  | one h =>
    intro i hi
    have : i = 0 := by simp at hi; omega
    subst this
    exact ⟨h, fun h => absurd h (by omega)⟩
  | @cons x y z hx ho hl hc ih =>
    have e : (x :: y :: z).reverse = (y :: z).reverse ++ [x] := by simp
    rw [e]
    intro i hi
    rw [List.length_append] at hi
    rcases Nat.lt_or_ge i (y :: z).reverse.length with q | q
    · have := ih i q
      refine ⟨?_, fun h0 => ?_⟩
      · rw [List.getElem_append_left q]; exact this.1
      · rw [List.getElem_append_left q, List.getElem_append_left (by omega)]; exact this.2 h0
    · have hi' : i = (y :: z).reverse.length := by simp at hi ⊢; simp at q; omega
      subst hi'
      refine ⟨?_, fun h0 => ?_⟩
      · rw [List.getElem_append_right (Nat.le_refl _)]; simpa using hx
      · rw [List.getElem_append_right (Nat.le_refl _), List.getElem_append_left (by omega)]
        simp only [List.length_reverse, List.length_cons, List.getElem_reverse, Nat.sub_self, List.getElem_cons_zero]
        exact ⟨by simpa using ho, (o_lt _ _).2 (by simpa using hl)⟩
/-- all ends that are there stand ahead of what comes, but for the last one's -/
theorem Chn.ahead : ∀ {x : Rg} {z : List Rg}, Chn (x :: z) → ∀ y ∈ z, y.op = false ∧ y.hi < x.lo := by
  intro x z h
  induction z generalizing x with
  | nil => intro y hy; cases hy
  | cons w z ih =>
    cases h with
    | cons hx ho hl hc =>
      intro y hy
      rcases List.mem_cons.1 hy with e | e
      · subst e; exact ⟨ho, hl⟩
      · obtain ⟨h1, h2⟩ := ih hc y e
        rcases rgR_lo hc.head with q | q
        · rw [ho] at q; cases q
        · exact ⟨h1, by grind⟩
def anyR (l : List Rg) (s : ByteArray) : Bool := l.any fun r => rgHas r s
theorem rgHas_of {r : Rg} (h : rgR r = true) (s : ByteArray) : rgHas r s = (decide (r.lo ≤ s) && (r.op || decide (s < r.hi))) := by
  unfold rgHas; rw [h]; rfl
theorem ofF_spec (Z : List Rg) (r : Rg) (h : Chn Z) (hr : rgR r = true) (hs : ∀ x ∈ Z, x.lo ≤ r.lo) :
    Chn (ofF Z.reverse r).reverse ∧ (∀ x ∈ (ofF Z.reverse r).reverse, x.lo ≤ r.lo) ∧ ∀ s, anyR (ofF Z.reverse r).reverse s = (anyR Z s || rgHas r s) := by
  unfold ofF
  rw [List.reverse_reverse]
  cases Z with
  | nil =>
    refine ⟨.one hr, fun x hx => ?_, fun s => ?_⟩
    · simp at hx; subst hx; grind
    · simp [anyR]
  | cons x z =>
    have hx := h.head
    have hxl := hs x List.mem_cons_self
    simp only
    split
    · rename_i hc
      simp only [List.reverse_append, List.reverse_reverse, List.reverse_cons, List.reverse_nil, List.nil_append, List.singleton_append]
      refine ⟨.cons hr hc.1 hc.2 h, fun y hy => ?_, fun s => ?_⟩
      · rcases List.mem_cons.1 hy with e | e
        · subst e; grind
        · exact hs y e
      · simp only [anyR, List.any_cons]; rw [Bool.or_comm]
    · rename_i hc
      have hE : endR x r = (if x.op && r.op then 0 else if x.op then 1 else if r.op then -1 else cmpB x.hi r.hi) := rfl
      have hc' : x.op = true ∨ r.lo ≤ x.hi := by
        cases ho : x.op with
        | true => exact .inl rfl
        | false =>
          refine .inr ?_
          rw [ho] at hc
          have : ¬ x.hi < r.lo := fun q => hc ⟨rfl, q⟩
          grind
      have hxr := rgR_lo hx
      have hrr := rgR_lo hr
      split
      · rename_i hd
        have hxo : x.op = false := by
          cases ho : x.op with
          | false => rfl
          | true => rw [hE, ho] at hd; simp at hd; split at hd <;> omega
        have hro : r.op = true ∨ x.hi < r.hi := by
          cases ho : r.op with
          | true => exact .inl rfl
          | false => rw [hE, hxo, ho] at hd; exact .inr ((o_lt _ _).1 (by simpa using hd))
        have hN : rgR ⟨x.lo, r.hi, r.op⟩ = true := by
          rw [rgR_iff]
          obtain ⟨a1, a2, a3⟩ := (rgR_iff x).1 hx
          obtain ⟨b1, b2, b3⟩ := (rgR_iff r).1 hr
          refine ⟨a1, b2, ?_⟩
          simp only
          cases ho : r.op with
          | true => rw [ho] at b3; simpa using b3
          | false =>
            rw [ho] at b3
            simp only [Bool.false_eq_true, if_false] at b3 ⊢
            rw [o_lt] at b3 ⊢
            grind
        simp only [List.reverse_append, List.reverse_reverse, List.reverse_cons, List.reverse_nil, List.nil_append, List.singleton_append]
        refine ⟨?_, fun y hy => ?_, fun s => ?_⟩
        · cases h with
          | one _ => exact .one hN
          | cons _ ho hl hc => exact .cons hN ho hl hc
        · rcases List.mem_cons.1 hy with e | e
          · subst e; exact hxl
          · exact hs y (List.mem_cons_of_mem _ e)
        · simp only [anyR, List.any_cons]
          rw [rgHas_of hN, rgHas_of hx, rgHas_of hr]
          simp only
          rw [Bool.eq_iff_iff]
          simp only [Bool.or_eq_true, Bool.and_eq_true, decide_eq_true_eq, hxo, Bool.false_eq_true, false_or]
          grind
      · rename_i hd
        have hxo : x.op = true ∨ (r.op = false ∧ r.hi ≤ x.hi) := by
          cases ho : x.op with
          | true => exact .inl rfl
          | false =>
            rw [hE, ho] at hd
            cases hp : r.op with
            | true => rw [hp] at hd; simp at hd
            | false => rw [hp] at hd; refine .inr ⟨rfl, ?_⟩; simp only [Bool.false_and, Bool.false_eq_true, if_false] at hd; rw [o_lt] at hd; grind
        rw [List.reverse_reverse]
        refine ⟨h, hs, fun s => ?_⟩
        simp only [anyR, List.any_cons]
        rw [rgHas_of hx, rgHas_of hr, Bool.eq_iff_iff]
        simp only [Bool.or_eq_true, Bool.and_eq_true, decide_eq_true_eq]
        grind
theorem of_spec : ∀ (L Z : List Rg), Chn Z → (∀ r ∈ L, rgR r = true) → L.Pairwise (fun x y => x.lo ≤ y.lo) → (∀ x ∈ Z, ∀ r ∈ L, x.lo ≤ r.lo) →
    Chn (L.foldl ofF Z.reverse).reverse ∧ ∀ s, anyR (L.foldl ofF Z.reverse).reverse s = (anyR Z s || anyR L s) := by
  intro L
  induction L with
  | nil => intro Z h _ _ _; simp [h, anyR]
  | cons r L ih =>
    intro Z h hR hS hZ
    obtain ⟨p1, p2⟩ := List.pairwise_cons.1 hS
    obtain ⟨h1, h2, h3⟩ := ofF_spec Z r h (hR r List.mem_cons_self) (fun x hx => hZ x hx r List.mem_cons_self)
    have h4 := ih (ofF Z.reverse r).reverse h1 (fun x hx => hR x (List.mem_cons_of_mem _ hx)) p2 (fun x hx y hy => by have := h2 x hx; have := p1 y hy; grind)
    rw [List.reverse_reverse] at h4
    refine ⟨h4.1, fun s => ?_⟩
    rw [List.foldl_cons, h4.2 s, h3 s]
    simp only [anyR, List.any_cons, Bool.or_assoc]
theorem anyR_rev (l : List Rg) (s : ByteArray) : anyR l.reverse s = anyR l s := by unfold anyR; rw [List.any_reverse]
/-- the right list of ranges -/
def rgOfS (l : List Rg) : List Rg := l.foldl ofF []
theorem rgOfS_ok {L : List Rg} (hR : ∀ r ∈ L, rgR r = true) (hS : L.Pairwise (fun x y => x.lo ≤ y.lo)) : rgsOk (rgOfS L) ∧ ∀ s, anyR (rgOfS L) s = anyR L s := by
  have h := of_spec L [] .nil hR hS (fun x hx => by cases hx)
  refine ⟨?_, fun s => ?_⟩
  · have := h.1.ok; rw [List.reverse_reverse] at this; exact this
  · have := h.2 s; rw [anyR_rev] at this; rw [rgOfS]; exact this.trans (by simp [anyR])
theorem ofF_len (out : List Rg) (r : Rg) : (ofF out r).length ≤ out.length + 1 := by
  unfold ofF
  split
  · simp
  · rename_i x z h
    have e : out.length = z.length + 1 := by rw [← List.length_reverse, h]; rfl
    split
    · simp
    · split
      · simp; omega
      · omega
theorem of_len : ∀ (L out : List Rg), (L.foldl ofF out).length ≤ out.length + L.length := by
  intro L
  induction L with
  | nil => intro out; simp
  | cons r L ih => intro out; rw [List.foldl_cons, List.length_cons]; have := ih (ofF out r); have := ofF_len out r; omega
/-- where a text stands in a right list: the first range that does not end ahead of it -/
theorem find_ex {l : List Rg} (h : rgsOk l) (s : ByteArray) : ∃ p, p ≤ l.length ∧ ∀ j (hj : j < l.length), ((l[j].op = true ∨ s < l[j].hi) ↔ p ≤ j) := by
  have up : ∀ j (hj : j + 1 < l.length), (l[j].op = true ∨ s < l[j].hi) → (l[j + 1].op = true ∨ s < l[j + 1].hi) := by
    intro j hj hs
    have h1 := (h (j + 1) hj).2 (by omega)
    have h2 := rgR_lo (h (j + 1) hj).1
    simp only [Nat.add_sub_cancel] at h1
    rw [o_lt] at h1
    grind
  have hB : ∀ n, n ≤ l.length → ∃ p, p ≤ n ∧ ∀ j (hj : j < l.length), j < n → ((l[j].op = true ∨ s < l[j].hi) ↔ p ≤ j) := by
    intro n
    induction n with
    | zero => intro _; exact ⟨0, Nat.le_refl _, fun j _ h => absurd h (Nat.not_lt_zero _)⟩
    | succ n ih =>
      intro hn
      obtain ⟨p, hp, hq⟩ := ih (by omega)
      by_cases hb : l[n].op = true ∨ s < l[n].hi
      · refine ⟨p, by omega, fun j hj hjn => ?_⟩
        rcases Nat.lt_or_ge j n with q | q
        · exact hq j hj q
        · obtain rfl : j = n := by omega
          exact ⟨fun _ => by omega, fun _ => hb⟩
      · refine ⟨n + 1, by omega, fun j hj hjn => ?_⟩
        rcases Nat.lt_or_ge j n with q | q
        · refine ⟨fun hx => ?_, fun hx => by omega⟩
          exfalso
          have : ∀ d, j + d ≤ n → ∃ hd : j + d < l.length, (l[j + d].op = true ∨ s < l[j + d].hi) := by
            intro d
            induction d with
            | zero => intro _; exact ⟨hj, hx⟩
            | succ d ihd =>
              intro hd
              obtain ⟨h1, h2⟩ := ihd (by omega)
              exact ⟨by omega, up (j + d) (by omega) h2⟩
          obtain ⟨h1, h2⟩ := this (n - j) (by omega)
          have e : j + (n - j) = n := by omega
          simp only [e] at h2
          exact hb h2
        · obtain rfl : j = n := by omega
          exact ⟨fun hx => absurd hx hb, fun hx => by omega⟩
  obtain ⟨p, h1, h2⟩ := hB l.length (Nat.le_refl _)
  exact ⟨p, h1, fun j hj => h2 j hj hj⟩
/-- a right list has a text just if the range that stands there has it -/
theorem has_at {l : List Rg} (h : rgsOk l) {s : ByteArray} {p : Nat} (hp : ∀ j (hj : j < l.length), ((l[j].op = true ∨ s < l[j].hi) ↔ p ≤ j)) :
    anyR l s = (match l[p]? with | some r => rgHas r s | none => false) := by
  have ch : ∀ d j (hj : j + d + 1 < l.length), l[j].op = false ∧ l[j].hi < l[j + d + 1].lo := by
    intro d
    induction d with
    | zero => intro j hj; have := (h (j + 1) hj).2 (by omega); simp only [Nat.add_sub_cancel] at this; exact this
    | succ d ih =>
      intro j hj
      obtain ⟨a, b⟩ := ih j (by omega)
      have c := (h (j + d + 1 + 1) (by omega)).2 (by omega)
      have e := rgR_lo (h (j + d + 1) (by omega)).1
      simp only [Nat.add_sub_cancel] at c
      rw [o_lt] at c
      refine ⟨a, ?_⟩
      show l[j].hi < l[j + d + 1 + 1].lo
      grind
  rw [Bool.eq_iff_iff]
  unfold anyR
  rw [List.any_eq_true]
  constructor
  · rintro ⟨r, hr, hs⟩
    obtain ⟨j, hj, rfl⟩ := List.getElem_of_mem hr
    have hjr := (h j hj).1
    rw [rgHas_of hjr] at hs
    simp only [Bool.and_eq_true, Bool.or_eq_true, decide_eq_true_eq] at hs
    have hpj := (hp j hj).1 hs.2
    rcases Nat.lt_or_ge p j with q | q
    · exfalso
      have hpl : p < l.length := by omega
      have := (hp p hpl).2 (Nat.le_refl _)
      obtain ⟨d, rfl⟩ : ∃ d, j = p + d + 1 := ⟨j - p - 1, by omega⟩
      obtain ⟨a, b⟩ := ch d p hj
      grind
    · obtain rfl : p = j := by omega
      rw [List.getElem?_eq_getElem hj]
      simp only
      rw [rgHas_of hjr]
      simp only [Bool.and_eq_true, Bool.or_eq_true, decide_eq_true_eq]
      exact hs
  · intro hs
    rcases Nat.lt_or_ge p l.length with q | q
    · rw [List.getElem?_eq_getElem q] at hs
      exact ⟨l[p], List.getElem_mem q, hs⟩
    · rw [List.getElem?_eq_none q] at hs; cases hs
theorem ltR_wo : SWo ltR := by
  refine ⟨fun x => ?_, fun x y z h1 h2 => ?_, fun x y z h1 h2 => ?_⟩ <;> simp only [ltR, decide_eq_true_eq, decide_eq_false_iff_not, o_lt] at * <;> grind
/-- the right list of ranges of any -/
def rgOf (l : List Rg) : List Rg := rgOfS (srtS ltR (l.filter rgR))
theorem rgOf_spec (l : List Rg) : rgsOk (rgOf l) ∧ ∀ s, anyR (rgOf l) s = anyR l s := by
  have hS := (srtS_spec ltR_wo (l.filter rgR)).1
  obtain ⟨h1, h2⟩ := rgOfS_ok (L := srtS ltR (l.filter rgR)) (fun r hr => (List.mem_filter.1 ((srtS_mem ltR_wo).1 hr)).2)
    (hS.imp fun {x y} h => by simp only [ltR, decide_eq_false_iff_not, o_lt] at h; grind)
  refine ⟨h1, fun s => (h2 s).trans ?_⟩
  unfold anyR
  rw [Bool.eq_iff_iff, List.any_eq_true, List.any_eq_true]
  constructor
  · rintro ⟨r, hr, hs⟩
    exact ⟨r, (List.mem_filter.1 ((srtS_mem ltR_wo).1 hr)).1, hs⟩
  · rintro ⟨r, hr, hs⟩
    refine ⟨r, (srtS_mem ltR_wo).2 (List.mem_filter.2 ⟨hr, ?_⟩), hs⟩
    unfold rgHas at hs
    exact (Bool.and_eq_true _ _ ▸ hs).1
theorem rgOf_len (l : List Rg) : (rgOf l).length ≤ l.length := by
  have h1 := of_len (srtS ltR (l.filter rgR)) []
  have h2 := List.length_filter_le rgR l
  rw [srtS_len] at h1
  simp only [List.length_nil] at h1
  unfold rgOf rgOfS
  omega
end Go.Proofs.YtbpmafpmlapekaaGreat
