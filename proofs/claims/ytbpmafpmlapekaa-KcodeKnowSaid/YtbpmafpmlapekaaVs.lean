/- Sets made right by a table: slices.Clone, vset.fill, table.set, Of, Same; counts.Of at right lists. -/
import Derived.Test.YtbpmafpmlapekaaKcR
namespace Go.Proofs.Ytbpmafpmlapekaa
open Go.RowKit
/-! ### plainly -/
def tabAt (s : List Kn) (r : Nat) : List Rn := s.flatMap fun k => if k.rep = (r : Int) + 1 then k.runs else []
def tabOf (s : List Kn) : List (List Rn) := (List.range 16).map (tabAt s)
def setFrom (cOf : List Rn → List Rn) : Nat → List (List Rn) → List Kn
  | _, [] => []
  | i, l :: T => (if (cOf l).length = 0 then [] else [⟨(i : Int) + 1, cOf l⟩]) ++ setFrom cOf (i + 1) T
def vsOf (cOf : List Rn → List Rn) (s : List Kn) : List Kn := setFrom cOf 0 (tabOf s)
theorem tabOf_len (s : List Kn) : (tabOf s).length = 16 := by simp [tabOf]
theorem tabAt_snoc (l : List Kn) (k : Kn) (r : Nat) : tabAt (l ++ [k]) r = tabAt l r ++ (if k.rep = (r : Int) + 1 then k.runs else []) := by simp [tabAt]
theorem tabOf_get (s : List Kn) {r : Nat} (h : r < 16) : (tabOf s)[r]? = some (tabAt s r) := by simp [tabOf, h]
theorem tabOf_in (l : List Kn) (k : Kn) {r : Nat} (h : r < 16) (hk : k.rep = (r : Int) + 1) : tabOf (l ++ [k]) = (tabOf l).set r (tabAt l r ++ k.runs) := by
  apply List.ext_getElem?
  intro i
  rw [List.getElem?_set, tabOf_len]
  by_cases hi : i < 16
  · rw [tabOf_get _ hi, tabAt_snoc]
    by_cases h1 : r = i
    · subst h1; rw [if_pos rfl, if_pos h, if_pos hk]
    · rw [if_neg h1, tabOf_get _ hi, if_neg (by omega), List.append_nil]
  · rw [List.getElem?_eq_none (by rw [tabOf_len]; omega)]
    rw [if_neg (by omega), List.getElem?_eq_none (by rw [tabOf_len]; omega)]
theorem tabOf_out (l : List Kn) (k : Kn) (hk : ¬ (1 ≤ k.rep ∧ k.rep ≤ 16)) : tabOf (l ++ [k]) = tabOf l := by
  apply List.ext_getElem?
  intro i
  by_cases hi : i < 16
  · rw [tabOf_get _ hi, tabOf_get _ hi, tabAt_snoc, if_neg (by omega), List.append_nil]
  · rw [List.getElem?_eq_none (by rw [tabOf_len]; omega), List.getElem?_eq_none (by rw [tabOf_len]; omega)]
theorem tabAt_len : ∀ (s : List Kn) (r : Nat), (tabAt s r).length ≤ (s.flatMap Kn.runs).length := by
  intro s
  induction s with
  | nil => intro r; simp [tabAt]
  | cons k s ih =>
    intro r
    have := ih r
    unfold tabAt at this ⊢
    rw [List.flatMap_cons, List.flatMap_cons, List.length_append, List.length_append]
    have h2 : (if k.rep = (r : Int) + 1 then k.runs else []).length ≤ k.runs.length := by split <;> simp
    omega
theorem mem_flat_len {s : List Kn} {k : Kn} (h : k ∈ s) : k.runs.length ≤ (s.flatMap Kn.runs).length := by
  induction s with
  | nil => cases h
  | cons x s ih =>
    rw [List.flatMap_cons, List.length_append]
    rcases List.mem_cons.1 h with q | q
    · subst q; omega
    · have := ih q; omega
/-- not too much in all -/
def knsTot (s : List Kn) : Prop := s.length ≤ 1000000000 ∧ (s.flatMap Kn.runs).length ≤ 1000000000
theorem knsTot.sz {s : List Kn} (h : knsTot s) : knsSz s := ⟨h.1, fun k hk => by
  have h2 := h.2
  have := mem_flat_len hk
  omega⟩
theorem setFrom_app (cOf : List Rn → List Rn) : ∀ (T U : List (List Rn)) (i : Nat), setFrom cOf i (T ++ U) = setFrom cOf i T ++ setFrom cOf (i + T.length) U := by
  intro T
  induction T with
  | nil => intro U i; rfl
  | cons l T ih => intro U i; simp only [List.cons_append, setFrom, ih, List.length_cons, List.append_assoc]; rw [show i + 1 + T.length = i + (T.length + 1) by omega]
/-- a right set is what its table says -/
theorem tabAt_right {s : List Kn} (h : knsOk s) : ∀ r, tabAt s r = [] ∨ ∃ k ∈ s, k.rep = (r : Int) + 1 ∧ tabAt s r = k.runs := by
  intro r
  induction s using snoc_ind with
  | h0 => exact .inl rfl
  | h1 l k ih =>
    have hl : knsOk l := fun i hi hi' => by
      have h1 := h i (by simp; omega) (by simp; omega)
      have e1 : (l ++ [k])[i]'(by simp; omega) = l[i] := List.getElem_append_left hi
      rw [e1] at h1
      refine ⟨h1.1, h1.2.1, h1.2.2.1, h1.2.2.2.1, fun q => ?_⟩
      have := h1.2.2.2.2 q
      rw [List.getElem_append_left (by omega)] at this
      exact this
    rw [tabAt_snoc]
    by_cases hk : k.rep = (r : Int) + 1
    · rw [if_pos hk]
      have hz : tabAt l r = [] := by
        rcases ih hl with q | ⟨k', hk', e1, e2⟩
        · exact q
        · exfalso
          obtain ⟨i, hi, rfl⟩ := List.getElem_of_mem hk'
          have hlt : ∀ (d i : Nat) (hi : i < l.length) (hd : i + d + 1 = l.length), l[i].rep < k.rep := by
            intro d
            induction d with
            | zero =>
              intro i hi hd
              have := (h (i + 1) (by simp; omega) (by simp; omega)).2.2.2.2 (by omega)
              simp only [Nat.add_sub_cancel] at this
              rw [List.getElem_append_left hi, List.getElem_append_right (by omega)] at this
              simpa using this
            | succ d ihd =>
              intro i hi hd
              have := (h (i + 1) (by simp; omega) (by simp; omega)).2.2.2.2 (by omega)
              simp only [Nat.add_sub_cancel] at this
              rw [List.getElem_append_left hi, List.getElem_append_left (by omega)] at this
              have := ihd (i + 1) (by omega) (by omega)
              omega
          have := hlt (l.length - 1 - i) i hi (by omega)
          omega
      rw [hz, List.nil_append]
      exact .inr ⟨k, by simp, hk, rfl⟩
    · rw [if_neg hk, List.append_nil]
      rcases ih hl with q | ⟨k', hk', e1, e2⟩
      · exact .inl q
      · exact .inr ⟨k', by simp [hk'], e1, e2⟩
theorem tab_rnsOk {s : List Kn} (h : knsOk s) : ∀ l ∈ tabOf s, rnsOk l := by
  intro l hl
  obtain ⟨r, _, rfl⟩ := List.mem_map.1 hl
  rcases tabAt_right h r with q | ⟨k, hk, _, q⟩
  · rw [q]; intro i hi; simp at hi
  · rw [q]
    obtain ⟨i, hi, rfl⟩ := List.getElem_of_mem hk
    exact (knsOk_get h hi).2.2.2
theorem take_snocK {α : Type} (l : List α) (k : Nat) (h : k < l.length) : l.take (k + 1) = l.take k ++ [l[k]] := by rw [List.take_succ_eq_append_getElem h]
theorem tabAt_take (s : List Kn) (z r : Nat) : (tabAt (s.take z) r).length ≤ (tabAt s r).length := by
  have : tabAt s r = tabAt (s.take z) r ++ tabAt (s.drop z) r := by
    unfold tabAt
    rw [← List.flatMap_append, List.take_append_drop]
  rw [this, List.length_append]; omega
end Go.Proofs.Ytbpmafpmlapekaa
