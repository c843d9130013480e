/- How many batches there are. -/
import Derived.Test.YtjohkaonokghbaaFits34
namespace Go.Proofs.Ytjohkaonokghbaa
open Go.RowKit
def cnt (s : Spl) : Nat := s.D.length + (s.c.map fun _ => 1).getD 0
/-- by a greater limit one is ahead -/
def ahead (p q : Int) (s u : Spl) : Prop := (s.c = none ∧ u.c = none ∧ s.D = [] ∧ u.D = []) ∨ (s.c ≠ none ∧ u.c ≠ none ∧ s.left ≤ p ∧ u.left ≤ q ∧ (u.D.length < s.D.length ∨ (u.D.length = s.D.length ∧ s.left ≤ u.left)))
theorem ahead_step {p q : Int} {s u : Spl} {x : It} (hpq : p ≤ q) (h : ahead p q s u) : ahead p q (splS p s x) (splS q u x) := by
  obtain ⟨D, c, left⟩ := s
  obtain ⟨D', c', left'⟩ := u
  have hx : 0 ≤ itN x := Int.natCast_nonneg _
  rcases h with ⟨h1, h2, h3, h4⟩ | ⟨h1, h2, h3, h4, h5⟩
  · simp only at h1 h2 h3 h4
    subst h1; subst h2; subst h3; subst h4
    refine .inr ⟨by simp [splS], by simp [splS], by simp [splS]; omega, by simp [splS]; omega, .inr ⟨rfl, by simp [splS]; omega⟩⟩
  · cases c with
    | none => exact absurd rfl h1
    | some c =>
      cases c' with
      | none => exact absurd rfl h2
      | some c' =>
        simp only at h3 h4 h5
        right
        simp only [splS]
        split <;> split <;> (refine ⟨by simp, by simp, by simp only; omega, by simp only; omega, ?_⟩; simp only [List.length_append, List.length_singleton]; omega)
theorem ahead_all {p q : Int} (hpq : p ≤ q) (l : List It) : ahead p q (splF p l) (splF q l) := by
  have key : ∀ (m : List It) (s u : Spl), ahead p q s u → ahead p q (m.foldl (splS p) s) (m.foldl (splS q) u) := by
    intro m
    induction m with
    | nil => intro s u h; exact h
    | cons x m ih => intro s u h; exact ih _ _ (ahead_step hpq h)
  exact key l _ _ (.inl ⟨rfl, rfl, rfl, rfl⟩)
theorem splR_mono {p q : Int} (hpq : p ≤ q) {l : List It} (hp : badE p l = 0) (hq : badE q l = 0) : (splR q l).length ≤ (splR p l).length := by
  have h := ahead_all hpq l
  rw [splR_ok hp, splR_ok hq]
  unfold closeAll
  generalize splF p l = s at *
  generalize splF q l = u at *
  obtain ⟨D, c, left⟩ := s
  obtain ⟨D', c', left'⟩ := u
  rcases h with ⟨h1, h2, h3, h4⟩ | ⟨h1, h2, h3, h4, h5⟩
  · simp only at h1 h2
    subst h1; subst h2; simp
  · cases c with
    | none => exact absurd rfl h1
    | some c =>
      cases c' with
      | none => exact absurd rfl h2
      | some c' => simp only at h5; simp; omega
theorem badE_zero {limit : Int} {l : List It} (h : ∀ x ∈ l, splOk limit x) : badE limit l = 0 := by
  induction l with
  | nil => rfl
  | cons x l ih =>
    obtain ⟨h1, h2⟩ := h x (by simp)
    unfold badE
    rw [if_neg (by simp [h1]), if_neg (by omega)]
    exact ih fun y hy => h y (by simp [hy])
/-- all fit in one -/
theorem splF_one (l : List It) : ∀ (limit : Int), (sizes l : Int) ≤ limit → l ≠ [] → splF limit l = ⟨[], some l, limit - sizes l⟩ := by
  have key : ∀ (m : List It) (c : List It) (left limit : Int), (sizes m : Int) ≤ left → m.foldl (splS limit) ⟨[], some c, left⟩ = ⟨[], some (c ++ m), left - sizes m⟩ := by
    intro m
    induction m with
    | nil => intro c left limit _; simp [sizes]
    | cons x m ih =>
      intro c left limit h
      have hs : sizes (x :: m) = (itB x).length + sizes m := by simp [sizes]
      rw [hs] at h
      rw [List.foldl_cons, splS_no (by push_cast at h; omega), ih _ _ _ (by unfold itN; push_cast at h; omega), hs]
      simp only [List.append_assoc, List.singleton_append, Spl.mk.injEq, true_and]
      unfold itN; push_cast; omega
  intro limit h hne
  cases l with
  | nil => exact absurd rfl hne
  | cons x m =>
    have hs : sizes (x :: m) = (itB x).length + sizes m := by simp [sizes]
    rw [hs] at h
    show m.foldl (splS limit) (splS limit ⟨[], none, -1⟩ x) = _
    have : splS limit ⟨[], none, -1⟩ x = ⟨[], some [x], limit - itN x⟩ := rfl
    rw [this, key m [x] _ limit (by unfold itN; push_cast at h; omega), hs]
    simp only [List.singleton_append, Spl.mk.injEq, true_and]
    unfold itN; push_cast; omega
theorem splR_one {l : List It} (hb : badE (sizes l) l = 0) : (splR (sizes l) l).length = 1 := by
  rw [splR_ok hb]
  by_cases hne : l = []
  · subst hne; rfl
  · rw [splF_one l _ (Int.le_refl _) hne]; rfl
theorem itN_le_sizes {l : List It} {x : It} (h : x ∈ l) : itN x ≤ (sizes l : Nat) := by
  induction l with
  | nil => cases h
  | cons y l ih =>
    have hs : sizes (y :: l) = (itB y).length + sizes l := by simp [sizes]
    rw [hs]
    rcases List.mem_cons.1 h with rfl | h
    · unfold itN; push_cast; omega
    · have := ih h; push_cast; omega
/-- the greatest item's size -/
def mostN (l : List It) : Int := l.foldl (fun m x => if itN x > m then itN x else m) 0
theorem mostN_snoc (l : List It) (x : It) : mostN (l ++ [x]) = if itN x > mostN l then itN x else mostN l := by unfold mostN; rw [List.foldl_append]; rfl
theorem mostN_ge (l : List It) : 0 ≤ mostN l ∧ mostN l ≤ 200 ∧ ∀ x ∈ l, itN x ≤ mostN l := by
  have key : ∀ (m : List It) (s : Int), 0 ≤ s → s ≤ 200 → s ≤ m.foldl (fun m x => if itN x > m then itN x else m) s ∧ m.foldl (fun m x => if itN x > m then itN x else m) s ≤ 200 ∧ ∀ x ∈ m, itN x ≤ m.foldl (fun m x => if itN x > m then itN x else m) s := by
    intro m
    induction m with
    | nil => intro s _ h; exact ⟨Int.le_refl _, h, by simp⟩
    | cons x m ih =>
      intro s h1 h2
      have hb := itB_len x
      have hx : itN x ≤ 200 := by unfold itN; omega
      rw [List.foldl_cons]
      obtain ⟨q1, q2, q3⟩ := ih (if itN x > s then itN x else s) (by split <;> omega) (by split <;> omega)
      refine ⟨?_, q2, fun y hy => ?_⟩
      · refine Int.le_trans ?_ q1; split <;> omega
      · rcases List.mem_cons.1 hy with rfl | hy
        · refine Int.le_trans ?_ q1; split <;> omega
        · exact q3 y hy
  obtain ⟨q1, q2, q3⟩ := key l 0 (by omega) (by omega)
  exact ⟨q1, q2, q3⟩
end Go.Proofs.Ytjohkaonokghbaa
