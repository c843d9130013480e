/- Texts joined: Stab. -/
import Derived.Test.YtbpmafpmlapekaaGreatJ01
namespace Go.Proofs.YtbpmafpmlapekaaGreat
/-- a strict weak order -/
structure SWo {α : Type} (lt : α → α → Bool) : Prop where
  irr : ∀ x, lt x x = false
  tr : ∀ x y z, lt x y = true → lt y z = true → lt x z = true
  ntr : ∀ x y z, lt x y = false → lt y z = false → lt x z = false
section
variable {α : Type} {lt : α → α → Bool}
def eqv (lt : α → α → Bool) (x y : α) : Bool := !lt x y && !lt y x
/-- nothing stands behind what it is less than -/
def Srt (lt : α → α → Bool) (l : List α) : Prop := l.Pairwise fun x y => lt y x = false
/-- N has the same as M, equals in the same order -/
def Alk (lt : α → α → Bool) (M N : List α) : Prop := ∀ x, N.filter (eqv lt x) = M.filter (eqv lt x)
theorem SWo.lt_of (h : SWo lt) {x y z : α} (h1 : lt x y = true) (h2 : lt z y = false) : lt x z = true := by
  cases hxz : lt x z with
  | true => rfl
  | false => have := h.ntr x z y hxz h2; rw [h1] at this; cases this
theorem SWo.lt_of' (h : SWo lt) {x y z : α} (h1 : lt x y = true) (h2 : lt x z = false) : lt z y = true := by
  cases hzy : lt z y with
  | true => rfl
  | false => have := h.ntr x z y h2 hzy; rw [h1] at this; cases this
theorem SWo.asym (h : SWo lt) {x y : α} (h1 : lt x y = true) : lt y x = false := by
  cases hyx : lt y x with
  | false => rfl
  | true => have := h.tr x y x h1 hyx; rw [h.irr] at this; cases this
theorem eqv_self (h : SWo lt) (x : α) : eqv lt x x = true := by simp [eqv, h.irr]
theorem eqv_congr (h : SWo lt) {x y z : α} (h1 : eqv lt x y = true) : eqv lt y z = eqv lt x z := by
  simp only [eqv, Bool.and_eq_true, Bool.not_eq_true'] at h1
  unfold eqv
  have e1 : lt y z = lt x z := by
    cases hb : lt y z with
    | true => exact (h.lt_of' hb h1.2).symm
    | false => exact (h.ntr x y z h1.1 hb).symm
  have e2 : lt z y = lt z x := by
    cases hb : lt z y with
    | true => exact (h.lt_of hb h1.1).symm
    | false => exact (h.ntr z y x hb h1.2).symm
  rw [e1, e2]
theorem Alk.refl (M : List α) : Alk lt M M := fun _ => rfl
theorem Alk.trans {M N O : List α} (h1 : Alk lt M N) (h2 : Alk lt N O) : Alk lt M O := fun x => (h2 x).trans (h1 x)
theorem Alk.symm {M N : List α} (h1 : Alk lt M N) : Alk lt N M := fun x => (h1 x).symm
theorem Alk.app {M N M' N' : List α} (h1 : Alk lt M N) (h2 : Alk lt M' N') : Alk lt (M ++ M') (N ++ N') := fun x => by
  rw [List.filter_append, List.filter_append, h1 x, h2 x]
theorem Alk.mem (h : SWo lt) {M N : List α} (h1 : Alk lt M N) {x : α} (hx : x ∈ N) : x ∈ M := by
  have : x ∈ N.filter (eqv lt x) := List.mem_filter.2 ⟨hx, eqv_self h x⟩
  rw [h1 x] at this
  exact (List.mem_filter.1 this).1
theorem Alk.mem' (h : SWo lt) {M N : List α} (h1 : Alk lt M N) {x : α} (hx : x ∈ M) : x ∈ N := h1.symm.mem h hx
/-- sorted, alike: the same -/
theorem Srt.uniq (h : SWo lt) : ∀ {M N : List α}, Srt lt M → Srt lt N → Alk lt M N → M = N := by
  intro M
  induction M with
  | nil =>
    intro N _ _ ha
    cases N with
    | nil => rfl
    | cons y N => exact absurd (ha.mem h List.mem_cons_self) (by simp)
  | cons x M ih =>
    intro N hM hN ha
    cases N with
    | nil => exact absurd (ha.mem' h (x := x) List.mem_cons_self) (by simp)
    | cons y N =>
      have hM' := List.pairwise_cons.1 hM
      have hN' := List.pairwise_cons.1 hN
      have hyM := ha.mem h (x := y) List.mem_cons_self
      have hxN := ha.mem' h (x := x) List.mem_cons_self
      have h1 : lt y x = false := by
        rcases List.mem_cons.1 hyM with e | e
        · rw [e]; exact h.irr x
        · exact hM'.1 y e
      have h2 : lt x y = false := by
        rcases List.mem_cons.1 hxN with e | e
        · rw [e]; exact h.irr y
        · exact hN'.1 x e
      have hE : eqv lt x y = true := by simp [eqv, h1, h2]
      have hx := ha x
      rw [List.filter_cons_of_pos hE, List.filter_cons_of_pos (eqv_self h x)] at hx
      injection hx with e1 e2
      subst e1
      rw [ih hM'.2 hN'.2 (fun z => ?_)]
      have hz := ha z
      rw [List.filter_cons, List.filter_cons] at hz
      split at hz
      · injection hz
      · exact hz
/-- what is put among others: behind the last one that it does not stand ahead of -/
def insS (lt : α → α → Bool) (x : α) : List α → List α → List α
  | [], r => x :: r
  | y :: l, r => if lt x y then insS lt x l (y :: r) else (y :: l).reverse ++ x :: r
def insT (lt : α → α → Bool) (p : List α) (x : α) : List α := insS lt x p.reverse []
def srtS (lt : α → α → Bool) (l : List α) : List α := l.foldl (insT lt) []
theorem insS_spec (h : SWo lt) (x : α) : ∀ (l r : List α), Srt lt (l.reverse ++ r) → (∀ y ∈ r, lt x y = true) → Srt lt (insS lt x l r) ∧ Alk lt (l.reverse ++ r ++ [x]) (insS lt x l r) := by
  intro l
  induction l with
  | nil =>
    intro r hs hr
    refine ⟨List.pairwise_cons.2 ⟨fun y hy => h.asym (hr y hy), by simpa [Srt] using hs⟩, fun z => ?_⟩
    simp only [insS, List.reverse_nil, List.nil_append, List.filter_append, List.filter_cons, List.filter_nil]
    split
    · rename_i hz
      have : r.filter (eqv lt z) = [] := by
        rw [List.filter_eq_nil_iff]
        intro y hy he
        rw [eqv_congr h hz |>.symm] at he
        simp [eqv, hr y hy] at he
      rw [this]; rfl
    · simp
  | cons y l ih =>
    intro r hs hr
    unfold insS
    split
    · rename_i hxy
      have := ih (y :: r) (by simpa using hs) (fun z hz => by
        rcases List.mem_cons.1 hz with e | e
        · rw [e]; exact hxy
        · exact hr z e)
      simpa using this
    · rename_i hxy
      have hxy : lt x y = false := by simpa using hxy
      have hlr : ∀ z ∈ (y :: l).reverse, lt x z = false := by
        intro z hz
        have hz' : z ∈ y :: l := List.mem_reverse.1 hz
        rcases List.mem_cons.1 hz' with e | e
        · rw [e]; exact hxy
        · have hs1 : Srt lt (l.reverse ++ [y]) := by
            have : Srt lt ((l.reverse ++ [y]) ++ r) := by simpa using hs
            exact (List.pairwise_append.1 this).1
          have hq := (List.pairwise_append.1 hs1).2.2 z (by simpa using e) y (by simp)
          exact h.ntr x y z hxy hq
      have hs' := List.pairwise_append.1 hs
      refine ⟨List.pairwise_append.2 ⟨hs'.1, List.pairwise_cons.2 ⟨fun z hz => h.asym (hr z hz), hs'.2.1⟩, fun a ha b hb => ?_⟩, fun z => ?_⟩
      · rcases List.mem_cons.1 hb with e | e
        · rw [e]; exact hlr a ha
        · exact hs'.2.2 a ha b e
      · simp only [List.filter_append, List.filter_cons, List.filter_nil, List.append_assoc]
        congr 1
        split
        · rename_i hz
          have : r.filter (eqv lt z) = [] := by
            rw [List.filter_eq_nil_iff]
            intro y hy he
            rw [eqv_congr h hz |>.symm] at he
            simp [eqv, hr y hy] at he
          rw [this]; rfl
        · simp
theorem insT_spec (h : SWo lt) {p : List α} (hp : Srt lt p) (x : α) : Srt lt (insT lt p x) ∧ Alk lt (p ++ [x]) (insT lt p x) := by
  have := insS_spec h x p.reverse [] (by simpa using hp) (fun y hy => by simp at hy)
  simpa [insT] using this
theorem srtS_spec (h : SWo lt) (l : List α) : Srt lt (srtS lt l) ∧ Alk lt l (srtS lt l) := by
  have key : ∀ (l p : List α), Srt lt p → Srt lt (l.foldl (insT lt) p) ∧ Alk lt (p ++ l) (l.foldl (insT lt) p) := by
    intro l
    induction l with
    | nil => intro p hp; exact ⟨hp, by simpa using Alk.refl p⟩
    | cons x l ih =>
      intro p hp
      obtain ⟨h1, h2⟩ := insT_spec h hp x
      obtain ⟨h3, h4⟩ := ih _ h1
      refine ⟨h3, Alk.trans ?_ h4⟩
      have := h2.app (Alk.refl l)
      simpa using this
  simpa [srtS] using key l [] List.Pairwise.nil
theorem srtS_of (h : SWo lt) {M N : List α} (h1 : Srt lt N) (h2 : Alk lt M N) : srtS lt M = N :=
  (srtS_spec h M).1.uniq h h1 ((srtS_spec h M).2.symm.trans h2)
theorem srtS_alk (h : SWo lt) {M N : List α} (h2 : Alk lt M N) : srtS lt M = srtS lt N :=
  srtS_of h (srtS_spec h N).1 (h2.trans (srtS_spec h N).2)
theorem srtS_id (h : SWo lt) {M : List α} (h1 : Srt lt M) : srtS lt M = M := srtS_of h h1 (Alk.refl M)
theorem srtS_srtS (h : SWo lt) (M N : List α) : srtS lt (srtS lt M ++ srtS lt N) = srtS lt (M ++ N) :=
  (srtS_alk h ((srtS_spec h M).2.app (srtS_spec h N).2)).symm
theorem srtS_mem (h : SWo lt) {M : List α} {x : α} : x ∈ srtS lt M ↔ x ∈ M := ⟨fun q => (srtS_spec h M).2.mem h q, fun q => (srtS_spec h M).2.mem' h q⟩
theorem insS_len (x : α) : ∀ (l r : List α), (insS lt x l r).length = l.length + 1 + r.length := by
  intro l
  induction l with
  | nil => intro r; simp [insS]; omega
  | cons y l ih =>
    intro r
    unfold insS
    split
    · rw [ih]; simp; omega
    · simp; omega
theorem srtS_len (l : List α) : (srtS lt l).length = l.length := by
  have : ∀ (l p : List α), (l.foldl (insT lt) p).length = p.length + l.length := by
    intro l
    induction l with
    | nil => intro p; rfl
    | cons x l ih =>
      intro p
      rw [List.foldl_cons, ih]
      unfold insT
      rw [insS_len]; simp; omega
  simpa [srtS] using this l []
/-- two sorted lists, cut in two each, the heads no greater than the other's tail: the heads merged, and the tails -/
theorem srtS_cut (h : SWo lt) {L1 L2 R1 R2 : List α} (hL : Srt lt (L1 ++ L2)) (hR : Srt lt (R1 ++ R2)) (h1 : ∀ x ∈ L1, ∀ y ∈ R2, lt y x = false) (h2 : ∀ x ∈ R1, ∀ y ∈ L2, lt x y = true) :
    srtS lt ((L1 ++ L2) ++ (R1 ++ R2)) = srtS lt (L1 ++ R1) ++ srtS lt (L2 ++ R2) := by
  have hL' := List.pairwise_append.1 hL
  have hR' := List.pairwise_append.1 hR
  refine srtS_of h (List.pairwise_append.2 ⟨(srtS_spec h _).1, (srtS_spec h _).1, fun a ha b hb => ?_⟩) ?_
  · rw [srtS_mem h] at ha hb
    rcases List.mem_append.1 ha with ha | ha <;> rcases List.mem_append.1 hb with hb | hb
    · exact hL'.2.2 a ha b hb
    · exact h1 a ha b hb
    · exact h.asym (h2 a ha b hb)
    · exact hR'.2.2 a ha b hb
  · refine Alk.trans (N := (L1 ++ R1) ++ (L2 ++ R2)) (fun x => ?_) ((srtS_spec h _).2.app (srtS_spec h _).2)
    simp only [List.filter_append, List.append_assoc]
    congr 1
    rw [← List.append_assoc, ← List.append_assoc]
    congr 1
    by_cases he : ∃ y ∈ R1, eqv lt x y = true
    · obtain ⟨y, hy, he⟩ := he
      have : L2.filter (eqv lt x) = [] := by
        rw [List.filter_eq_nil_iff]
        intro z hz hz2
        rw [eqv_congr h he |>.symm] at hz2
        simp [eqv, h2 y hy z hz] at hz2
      rw [this]; simp
    · have : R1.filter (eqv lt x) = [] := by
        rw [List.filter_eq_nil_iff]
        exact fun z hz hz2 => he ⟨z, hz, hz2⟩
      rw [this]; simp
/-- .. it is enough to look where they are cut -/
theorem srtS_cut_at (h : SWo lt) {L1 L2 R1 R2 : List α} (hL : Srt lt (L1 ++ L2)) (hR : Srt lt (R1 ++ R2)) (h1 : ∀ x y, L1.getLast? = some x → R2.head? = some y → lt y x = false) (h2 : ∀ x y, R1.getLast? = some x → L2.head? = some y → lt x y = true) :
    srtS lt ((L1 ++ L2) ++ (R1 ++ R2)) = srtS lt (L1 ++ R1) ++ srtS lt (L2 ++ R2) := by
  have hlast : ∀ {l : List α}, Srt lt l → ∀ x ∈ l, ∃ z, l.getLast? = some z ∧ lt z x = false := by
    intro l hl x hx
    rcases List.eq_nil_or_concat l with e | ⟨l', z, e⟩
    · subst e; simp at hx
    · rw [List.concat_eq_append] at e
      subst e
      refine ⟨z, by simp, ?_⟩
      rcases List.mem_append.1 hx with q | q
      · exact (List.pairwise_append.1 hl).2.2 x q z (by simp)
      · simp at q; subst q; exact h.irr x
  have hhead : ∀ {l : List α}, Srt lt l → ∀ x ∈ l, ∃ z, l.head? = some z ∧ lt x z = false := by
    intro l hl x hx
    cases l with
    | nil => simp at hx
    | cons z l =>
      refine ⟨z, rfl, ?_⟩
      rcases List.mem_cons.1 hx with q | q
      · subst q; exact h.irr x
      · exact (List.pairwise_cons.1 hl).1 x q
  have hL' := List.pairwise_append.1 hL
  have hR' := List.pairwise_append.1 hR
  refine srtS_cut h hL hR (fun x hx y hy => ?_) (fun x hx y hy => ?_)
  · obtain ⟨a, ha, ha2⟩ := hlast hL'.1 x hx
    obtain ⟨b, hb, hb2⟩ := hhead hR'.2.1 y hy
    exact h.ntr y b x hb2 (h.ntr b a x (h1 a b ha hb) ha2)
  · obtain ⟨a, ha, ha2⟩ := hlast hR'.1 x hx
    obtain ⟨b, hb, hb2⟩ := hhead hL'.2.1 y hy
    exact h.lt_of (h.lt_of' (h2 a b ha hb) ha2) hb2
end
end Go.Proofs.YtbpmafpmlapekaaGreat
