/- Texts joined: Ord RnO. -/
import Derived.Test.YtbpmafpmlapekaaGreatJ12
import Derived.Test.YtbpmafpmlapekaaGreatJ17
namespace Go.Proofs.YtbpmafpmlapekaaGreat
theorem oL_anti : ∀ (a b : List UInt8), cmpL b a = - cmpL a b ∧ (cmpL a b = 0 → a = b) := by
  intro a
  induction a with
  | nil => intro b; cases b <;> simp [cmpL]
  | cons x a ih =>
    intro b
    cases b with
    | nil => simp [cmpL]
    | cons y b =>
      obtain ⟨h1, h2⟩ := ih b
      simp only [cmpL]
      refine ⟨?_, ?_⟩
      · rcases Nat.lt_trichotomy x.toNat y.toNat with q | q | q
        · rw [if_neg (by omega), if_pos q, if_pos q]; rfl
        · rw [if_neg (by omega), if_neg (by omega), if_neg (by omega), if_neg (by omega)]; exact h1
        · rw [if_pos q, if_neg (by omega), if_pos q]
      · split
        · intro h; omega
        · split
          · intro h; omega
          · intro h
            rw [h2 h, UInt8.toNat_inj.1 (show x.toNat = y.toNat by omega)]
theorem oL_lt : ∀ (a b c : List UInt8), cmpL a a = 0 ∧ (cmpL a b ≤ 0 → cmpL b c ≤ 0 → cmpL a c ≤ 0) := by
  intro a
  induction a with
  | nil => intro b c; cases b <;> cases c <;> simp [cmpL]
  | cons x a ih =>
    intro b c
    refine ⟨by simp [cmpL, (ih a a).1], ?_⟩
    cases b with
    | nil => cases c <;> simp [cmpL]
    | cons y b =>
      cases c with
      | nil => simp [cmpL]
      | cons z c =>
        obtain ⟨_, h1⟩ := ih b c
        simp only [cmpL]
        intro q1 q2
        split at q1
        · split at q2
          · rw [if_pos (by omega)]; decide
          · split at q2
            · omega
            · rw [if_pos (by omega)]; decide
        · split at q1
          · omega
          · split at q2
            · rw [if_pos (by omega)]; decide
            · split at q2
              · omega
              · rw [if_neg (by omega), if_neg (by omega)]; exact h1 q1 q2
instance oLE : LE ByteArray := ⟨fun s t => cmpB s t ≤ 0⟩
instance oLT : LT ByteArray := ⟨fun s t => cmpB s t < 0⟩
instance oDlt (s t : ByteArray) : Decidable (s < t) := inferInstanceAs (Decidable (cmpB s t < 0))
instance oDle (s t : ByteArray) : Decidable (s ≤ t) := inferInstanceAs (Decidable (cmpB s t ≤ 0))
theorem o_anti (s t : ByteArray) : cmpB t s = - cmpB s t := (oL_anti _ _).1
theorem o_self (s : ByteArray) : cmpB s s = 0 := (oL_lt _ [] []).1
theorem o_eq (s t : ByteArray) : cmpB s t = 0 ↔ s = t := by
  refine ⟨fun h => ?_, fun h => h ▸ o_self s⟩
  have := (oL_anti s.data.toList t.data.toList).2 h
  exact ByteArray.ext (Array.toList_inj.1 this)
theorem o_le (s t : ByteArray) : cmpB s t ≤ 0 ↔ s ≤ t := Iff.rfl
theorem o_lt (s t : ByteArray) : cmpB s t < 0 ↔ s < t := Iff.rfl
theorem o_gt (s t : ByteArray) : cmpB s t > 0 ↔ t < s := by rw [← o_lt, o_anti]; omega
theorem o_ge (s t : ByteArray) : cmpB s t ≥ 0 ↔ t ≤ s := by rw [← o_le, o_anti]; omega
instance oLin : Std.IsLinearOrder ByteArray where
  le_refl a := (o_le _ _).1 (Int.le_of_eq (o_self a))
  le_trans a b c h1 h2 := (oL_lt _ _ _).2 h1 h2
  le_antisymm a b h1 h2 := (o_eq a b).1 (Int.le_antisymm h1 (by have := (o_le b a).2 h2; rw [o_anti] at this; omega))
  le_total a b := by rw [← o_le, ← o_le, o_anti a b]; omega
instance oLaw : Std.LawfulOrderLT ByteArray where
  lt_iff a b := by rw [← o_le, ← o_le, ← o_lt, o_anti a b]; omega
end Go.Proofs.YtbpmafpmlapekaaGreat
namespace Go.Proofs.YtbpmafpmlapekaaGreat
/-- a list has a count -/
def hasR (l : List Rn) (n : Int) : Prop := ∃ r ∈ l, rnR r = true ∧ r.fr ≤ n ∧ n ≤ r.to
theorem hasR_nil (n : Int) : ¬ hasR [] n := fun ⟨_, h, _⟩ => by cases h
theorem hasR_cons (x : Rn) (l : List Rn) (n : Int) : hasR (x :: l) n ↔ (rnR x = true ∧ x.fr ≤ n ∧ n ≤ x.to) ∨ hasR l n := by
  constructor
  · rintro ⟨r, hr, h⟩
    rcases List.mem_cons.1 hr with rfl | hr
    · exact .inl h
    · exact .inr ⟨r, hr, h⟩
  · rintro (h | ⟨r, hr, h⟩)
    · exact ⟨x, List.mem_cons_self, h⟩
    · exact ⟨r, List.mem_cons_of_mem _ hr, h⟩
theorem hasR_app (l m : List Rn) (n : Int) : hasR (l ++ m) n ↔ hasR l n ∨ hasR m n := by
  induction l with
  | nil => simp [hasR_nil]
  | cons x l ih => rw [List.cons_append, hasR_cons, hasR_cons, ih, or_assoc]
theorem hasR_perm {l m : List Rn} (h : ∀ r, r ∈ l ↔ r ∈ m) (n : Int) : hasR l n ↔ hasR m n :=
  ⟨fun ⟨r, hr, q⟩ => ⟨r, (h r).1 hr, q⟩, fun ⟨r, hr, q⟩ => ⟨r, (h r).2 hr, q⟩⟩
theorem hasR_filter (l : List Rn) (n : Int) : hasR (l.filter rnR) n ↔ hasR l n :=
  ⟨fun ⟨r, hr, q⟩ => ⟨r, (List.mem_filter.1 hr).1, q⟩, fun ⟨r, hr, q⟩ => ⟨r, List.mem_filter.2 ⟨hr, q.1⟩, q⟩⟩
theorem hasR_pos {l : List Rn} {n : Int} (h : hasR l n) : 1 ≤ n ∧ n ≤ 1099511627776 := by
  obtain ⟨r, _, h1, h2, h3⟩ := h
  have := (rnR_iff r).1 h1
  omega
theorem rnsOk_nil : rnsOk [] := fun i hi => by simp at hi
theorem rnsOk_cons (x : Rn) (l : List Rn) : rnsOk (x :: l) ↔ rnR x = true ∧ (∀ y, l.head? = some y → x.to + 2 ≤ y.fr) ∧ rnsOk l := by
  constructor
  · intro h
    refine ⟨(h 0 (by simp) (by simp)).1, fun y hy => ?_, fun i hi hi' => ?_⟩
    · cases l with
      | nil => cases hy
      | cons z l =>
        cases hy
        have := (h 1 (by simp) (by simp)).2 (by omega)
        simpa using this
    · have h1 := h (i + 1) (by simpa using hi) (by simpa using hi)
      simp only [List.getElem_cons_succ, Nat.add_sub_cancel] at h1
      refine ⟨h1.1, fun h0 => ?_⟩
      have h2 := h1.2 (by omega)
      obtain ⟨j, rfl⟩ : ∃ j, i = j + 1 := ⟨i - 1, by omega⟩
      simpa using h2
  · rintro ⟨h1, h2, h3⟩ i hi hi'
    cases i with
    | zero => exact ⟨h1, fun q => absurd q (Nat.lt_irrefl _)⟩
    | succ i =>
      have h4 := h3 i (by simpa using hi) (by simpa using hi)
      simp only [List.getElem_cons_succ, Nat.add_sub_cancel]
      refine ⟨h4.1, fun _ => ?_⟩
      cases i with
      | zero =>
        cases l with
        | nil => simp at hi
        | cons z l => exact h2 z rfl
      | succ i =>
        have := h4.2 (by omega)
        simpa using this
theorem rnsOk_low {x : Rn} {l : List Rn} (h : rnsOk (x :: l)) {n : Int} (hn : hasR l n) : x.to + 2 ≤ n := by
  induction l generalizing x with
  | nil => exact absurd hn (hasR_nil n)
  | cons y l ih =>
    obtain ⟨h1, h2, h3⟩ := (rnsOk_cons _ _).1 h
    have h4 := h2 y rfl
    have h5 := (rnR_iff y).1 ((rnsOk_cons _ _).1 h3).1
    rcases (hasR_cons _ _ _).1 hn with q | q
    · omega
    · have := ih h3 q
      omega
theorem rnsOk_uniq : ∀ {l m : List Rn}, rnsOk l → rnsOk m → (∀ n, hasR l n ↔ hasR m n) → l = m := by
  intro l
  induction l with
  | nil =>
    intro m _ hm h
    cases m with
    | nil => rfl
    | cons y m =>
      have hy := ((rnsOk_cons _ _).1 hm).1
      have hy' := (rnR_iff y).1 hy
      exact absurd ((h y.fr).2 ((hasR_cons _ _ _).2 (.inl ⟨hy, by omega, by omega⟩))) (hasR_nil _)
  | cons x l ih =>
    intro m hl hm h
    obtain ⟨hx, _, hl'⟩ := (rnsOk_cons _ _).1 hl
    have hx' := (rnR_iff x).1 hx
    cases m with
    | nil => exact absurd ((h x.fr).1 ((hasR_cons _ _ _).2 (.inl ⟨hx, by omega, by omega⟩))) (hasR_nil _)
    | cons y m =>
      obtain ⟨hy, _, hm'⟩ := (rnsOk_cons _ _).1 hm
      have hy' := (rnR_iff y).1 hy
      have lowl : ∀ n, hasR (x :: l) n → x.fr ≤ n ∧ (n ≤ x.to ∨ x.to + 2 ≤ n) := fun n hn => by
        rcases (hasR_cons _ _ _).1 hn with q | q
        · omega
        · have := rnsOk_low hl q; omega
      have lowm : ∀ n, hasR (y :: m) n → y.fr ≤ n ∧ (n ≤ y.to ∨ y.to + 2 ≤ n) := fun n hn => by
        rcases (hasR_cons _ _ _).1 hn with q | q
        · omega
        · have := rnsOk_low hm q; omega
      have inl : ∀ n, x.fr ≤ n → n ≤ x.to → hasR (x :: l) n := fun n a b => (hasR_cons _ _ _).2 (.inl ⟨hx, a, b⟩)
      have inm : ∀ n, y.fr ≤ n → n ≤ y.to → hasR (y :: m) n := fun n a b => (hasR_cons _ _ _).2 (.inl ⟨hy, a, b⟩)
      have e1 : x.fr = y.fr := by
        have a := lowm _ ((h x.fr).1 (inl _ (by omega) (by omega)))
        have b := lowl _ ((h y.fr).2 (inm _ (by omega) (by omega)))
        omega
      have e2 : x.to = y.to := by
        rcases Int.lt_trichotomy x.to y.to with q | q | q
        · have := lowl _ ((h (x.to + 1)).2 (inm _ (by omega) (by omega))); omega
        · exact q
        · have := lowm _ ((h (y.to + 1)).1 (inl _ (by omega) (by omega))); omega
      have e : x = y := by cases x; cases y; simp only at e1 e2; rw [e1, e2]
      subst e
      rw [ih hl' hm' (fun n => ?_)]
      constructor
      · intro q
        have := rnsOk_low hl q
        rcases (hasR_cons _ _ _).1 ((h n).1 ((hasR_cons _ _ _).2 (.inr q))) with z | z
        · omega
        · exact z
      · intro q
        have := rnsOk_low hm q
        rcases (hasR_cons _ _ _).1 ((h n).2 ((hasR_cons _ _ _).2 (.inr q))) with z | z
        · omega
        · exact z
/-! ### merged -/
def mgC : Rn → List Rn → List Rn
  | c, [] => [c]
  | c, r :: l => if r.fr - c.to < 2 then mgC ⟨c.fr, max c.to r.to⟩ l else c :: mgC r l
def mergeR : List Rn → List Rn
  | [] => []
  | x :: l => mgC x l
theorem mgC_head : ∀ (l : List Rn) (c : Rn), ∃ z t, mgC c l = z :: t ∧ z.fr = c.fr := by
  intro l
  induction l with
  | nil => intro c; exact ⟨c, [], rfl, rfl⟩
  | cons r l ih =>
    intro c
    rw [mgC]
    split
    · obtain ⟨z, t, h1, h2⟩ := ih ⟨c.fr, max c.to r.to⟩
      exact ⟨z, t, h1, h2⟩
    · exact ⟨c, _, rfl, rfl⟩
/-- rising by where they begin -/
def srtR (l : List Rn) : Prop := l.Pairwise (fun a b => a.fr ≤ b.fr)
theorem mgC_ok : ∀ (l : List Rn) (c : Rn), srtR (c :: l) → (∀ r ∈ c :: l, rnR r = true) → rnsOk (mgC c l) ∧ ∀ n, hasR (mgC c l) n ↔ hasR (c :: l) n := by
  intro l
  induction l with
  | nil =>
    intro c _ h
    exact ⟨(rnsOk_cons c []).2 ⟨h c (by simp), fun y hy => by simp at hy, rnsOk_nil⟩, fun n => Iff.rfl⟩
  | cons r l ih =>
    intro c hs h
    have hc := h c (by simp)
    have hr := h r (by simp)
    have hc' := (rnR_iff c).1 hc
    have hr' := (rnR_iff r).1 hr
    obtain ⟨s1, s2⟩ := List.pairwise_cons.1 hs
    have s3 := s1 r (by simp)
    obtain ⟨s4, s5⟩ := List.pairwise_cons.1 s2
    rw [mgC]
    split
    · rename_i g
      have hm : rnR ⟨c.fr, max c.to r.to⟩ = true := (rnR_iff _).2 (by simp only; omega)
      have := ih ⟨c.fr, max c.to r.to⟩ (List.pairwise_cons.2 ⟨fun z hz => s1 z (List.mem_cons_of_mem _ hz), s5⟩) (fun z hz => by
        rcases List.mem_cons.1 hz with rfl | hz
        · exact hm
        · exact h z (by simp [hz]))
      refine ⟨this.1, fun n => ?_⟩
      rw [this.2 n, hasR_cons, hasR_cons, hasR_cons]
      simp only [hm, hc, hr, true_and]
      constructor
      · rintro (q | q)
        · by_cases z : n ≤ c.to
          · exact .inl ⟨q.1, z⟩
          · exact .inr (.inl (by omega))
        · exact .inr (.inr q)
      · rintro (q | q | q)
        · exact .inl (by omega)
        · exact .inl (by omega)
        · exact .inr q
    · rename_i g
      have := ih r s2 (fun z hz => h z (List.mem_cons_of_mem _ hz))
      obtain ⟨z, t, e1, e2⟩ := mgC_head l r
      refine ⟨(rnsOk_cons _ _).2 ⟨hc, fun y hy => ?_, this.1⟩, fun n => ?_⟩
      · rw [e1] at hy
        cases hy
        omega
      · rw [hasR_cons, this.2 n, hasR_cons c]
theorem mergeR_ok {l : List Rn} (hs : srtR l) (h : ∀ r ∈ l, rnR r = true) : rnsOk (mergeR l) ∧ ∀ n, hasR (mergeR l) n ↔ hasR l n := by
  cases l with
  | nil => exact ⟨rnsOk_nil, fun n => Iff.rfl⟩
  | cons x l => exact mgC_ok l x hs h
theorem mgC_len : ∀ (l : List Rn) (c : Rn), (mgC c l).length ≤ l.length + 1 := by
  intro l
  induction l with
  | nil => intro c; simp [mgC]
  | cons r l ih =>
    intro c
    rw [mgC]
    split
    · have := ih ⟨c.fr, max c.to r.to⟩; simp; omega
    · have := ih r; simp; omega
theorem mergeR_len (l : List Rn) : (mergeR l).length ≤ l.length := by
  cases l with
  | nil => exact Nat.le_refl _
  | cons x l => exact mgC_len l x
/-! ### the right list of runs -/
def insF : List Rn → Rn → List Rn
  | [], x => [x]
  | y :: l, x => if x.fr ≤ y.fr then x :: y :: l else y :: insF l x
theorem insF_mem : ∀ (l : List Rn) (x r : Rn), r ∈ insF l x ↔ r = x ∨ r ∈ l := by
  intro l
  induction l with
  | nil => intro x r; simp [insF]
  | cons y l ih =>
    intro x r
    rw [insF]
    split
    · simp
    · simp only [List.mem_cons, ih]
      constructor
      · rintro (h | h | h) <;> simp [h]
      · rintro (h | h | h) <;> simp [h]
theorem insF_srt : ∀ (l : List Rn) (x : Rn), srtR l → srtR (insF l x) := by
  intro l
  induction l with
  | nil => intro x _; simp [insF, srtR]
  | cons y l ih =>
    intro x h
    obtain ⟨h1, h2⟩ := List.pairwise_cons.1 h
    rw [insF]
    split
    · rename_i g
      refine List.pairwise_cons.2 ⟨fun z hz => ?_, h⟩
      rcases List.mem_cons.1 hz with rfl | hz
      · exact g
      · have := h1 z hz; omega
    · refine List.pairwise_cons.2 ⟨fun z hz => ?_, ih x h2⟩
      rcases (insF_mem l x z).1 hz with rfl | hz
      · omega
      · exact h1 z hz
theorem insF_len : ∀ (l : List Rn) (x : Rn), (insF l x).length = l.length + 1 := by
  intro l
  induction l with
  | nil => intro x; rfl
  | cons y l ih => intro x; rw [insF]; split <;> simp [ih]
def srtF (l : List Rn) : List Rn := l.foldr (fun x a => insF a x) []
theorem srtF_mem : ∀ (l : List Rn) (r : Rn), r ∈ srtF l ↔ r ∈ l := by
  intro l
  induction l with
  | nil => intro _; rfl
  | cons x l ih => intro r; show r ∈ insF (srtF l) x ↔ _; rw [insF_mem, ih, List.mem_cons]
theorem srtF_srt : ∀ (l : List Rn), srtR (srtF l) := by
  intro l
  induction l with
  | nil => exact List.Pairwise.nil
  | cons x l ih => exact insF_srt _ _ ih
theorem srtF_len : ∀ (l : List Rn), (srtF l).length = l.length := by
  intro l
  induction l with
  | nil => rfl
  | cons x l ih => show (insF (srtF l) x).length = _; rw [insF_len, ih]; rfl
def ofR (l : List Rn) : List Rn := mergeR (srtF (l.filter rnR))
theorem ofR_ok (l : List Rn) : rnsOk (ofR l) := (mergeR_ok (srtF_srt _) (fun _ hr => (List.mem_filter.1 ((srtF_mem _ _).1 hr)).2)).1
theorem ofR_has (l : List Rn) (n : Int) : hasR (ofR l) n ↔ hasR l n := by
  unfold ofR
  rw [(mergeR_ok (srtF_srt _) (fun _ hr => (List.mem_filter.1 ((srtF_mem _ _).1 hr)).2)).2 n, hasR_perm (srtF_mem _) n, hasR_filter]
theorem ofR_len (l : List Rn) : (ofR l).length ≤ l.length := by
  have h1 := mergeR_len (srtF (l.filter rnR))
  rw [srtF_len] at h1
  exact Nat.le_trans h1 (List.length_filter_le _ _)
/-- a right list that has just what a list has is its right list -/
theorem ofR_eq {l m : List Rn} (h : rnsOk m) (e : ∀ n, hasR m n ↔ hasR l n) : ofR l = m :=
  rnsOk_uniq (ofR_ok l) h (fun n => (ofR_has l n).trans (e n).symm)
theorem ofR_id {l : List Rn} (h : rnsOk l) : ofR l = l := ofR_eq h (fun _ => Iff.rfl)
theorem ofR_sorted {l s : List Rn} (hs : srtR s) (h : ∀ r, r ∈ s ↔ r ∈ l.filter rnR) : mergeR s = ofR l := by
  have := mergeR_ok hs (fun r hr => (List.mem_filter.1 ((h r).1 hr)).2)
  refine (ofR_eq this.1 (fun n => ?_)).symm
  rw [this.2 n, hasR_perm h n, hasR_filter]
theorem ofR_cong {l m : List Rn} (h : ∀ n, hasR l n ↔ hasR m n) : ofR l = ofR m := ofR_eq (ofR_ok m) (fun n => (ofR_has m n).trans (h n).symm)
end Go.Proofs.YtbpmafpmlapekaaGreat
