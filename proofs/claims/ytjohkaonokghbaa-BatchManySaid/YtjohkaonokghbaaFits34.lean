/- What batches keep to, and the law BatchFits, walked. -/
import Derived.Test.YtjohkaonokghbaaLaw34
namespace Go.Proofs.Ytjohkaonokghbaa
open Go.RowKit
structure FitI (limit : Int) (s : Spl) : Prop where
  old : ∀ c ∈ s.D, (sizes c : Int) ≤ limit ∧ c ≠ []
  now : ∀ c, s.c = some c → c ≠ [] ∧ (sizes c : Int) + s.left = limit ∧ 0 ≤ s.left
  adj : ∀ (i : Nat) (a b : List It), (s.D ++ s.c.toList)[i]? = some a → (s.D ++ s.c.toList)[i + 1]? = some b → limit < (sizes a : Int) + sizes (b.take 1)
  none1 : s.c = none → s.D = []
theorem fitI_step {limit : Int} {s : Spl} {x : It} (h : FitI limit s) (hx : splOk limit x) : FitI limit (splS limit s x) := by
  obtain ⟨D, c, left⟩ := s
  obtain ⟨q1, q2, q3, q4⟩ := h
  obtain ⟨hx1, hx2⟩ := hx
  cases c with
  | none =>
    have hD := q4 rfl
    simp only at hD
    subst hD
    refine ⟨by simp [splS], ?_, ?_, by simp [splS]⟩
    · intro c hc; simp only [splS] at hc ⊢; cases hc; rw [sizes_one]; unfold itN at hx2 ⊢; exact ⟨by simp, by omega, by omega⟩
    · intro i a b ha hb; simp [splS] at hb
  | some c =>
    obtain ⟨r1, r2, r3⟩ := q2 c rfl
    simp only at r2 r3 q1
    simp only [Option.toList] at q3
    unfold splS
    simp only
    split
    · rename_i hgt
      refine ⟨?_, ?_, ?_, by simp⟩
      · intro d hd; simp only [List.mem_append, List.mem_singleton] at hd
        rcases hd with hd | rfl
        · exact q1 d hd
        · exact ⟨by omega, r1⟩
      · intro d hd; cases hd; rw [sizes_one]; unfold itN at hx2 ⊢; exact ⟨by simp, by simp only; omega, by simp only; omega⟩
      · intro i a b ha hb
        simp only [Option.toList] at ha hb
        have hib : i + 1 ≤ (D ++ [c]).length := by
          have := (List.getElem?_eq_some_iff.1 hb).1; simp at this ⊢; omega
        rw [List.getElem?_append_left (by omega)] at ha
        by_cases he : i + 1 < (D ++ [c]).length
        · rw [List.getElem?_append_left he] at hb
          exact q3 i a b ha hb
        · have he : i + 1 = (D ++ [c]).length := by omega
          rw [he, List.getElem?_append_right (Nat.le_refl _)] at hb
          simp at hb; subst hb
          have hi : i = D.length := by simp at he; omega
          rw [hi, List.getElem?_append_right (Nat.le_refl _)] at ha
          simp at ha; subst ha
          simp only [List.take_succ_cons, List.take_zero, sizes_one]
          unfold itN at hgt; omega
    · rename_i hle
      refine ⟨q1, ?_, ?_, by simp⟩
      · intro d hd; cases hd; rw [sizes_snoc]; unfold itN at hle ⊢; exact ⟨by simp, by push_cast; omega, by simp only; omega⟩
      · intro i a b ha hb
        simp only [Option.toList] at ha hb
        have hib : i + 1 ≤ D.length := by
          have := (List.getElem?_eq_some_iff.1 hb).1; simp at this ⊢; omega
        rw [List.getElem?_append_left (by omega)] at ha
        by_cases he : i + 1 < D.length
        · rw [List.getElem?_append_left he] at hb
          exact q3 i a b (by rw [List.getElem?_append_left (by omega)]; exact ha) (by rw [List.getElem?_append_left he]; exact hb)
        · have he : i + 1 = D.length := by omega
          rw [he, List.getElem?_append_right (Nat.le_refl _)] at hb
          simp at hb; subst hb
          have := q3 i a c (by rw [List.getElem?_append_left (by omega)]; exact ha) (by rw [he, List.getElem?_append_right (Nat.le_refl _)]; simp)
          cases c with
          | nil => exact absurd rfl r1
          | cons y c => simpa using this
theorem fitI (limit : Int) (l : List It) (hall : ∀ x ∈ l, splOk limit x) : FitI limit (splF limit l) := by
  have key : ∀ (m : List It) (s : Spl), (∀ x ∈ m, splOk limit x) → FitI limit s → FitI limit (m.foldl (splS limit) s) := by
    intro m
    induction m with
    | nil => intro s _ h; exact h
    | cons x m ih => intro s hm h; exact ih _ (fun y hy => hm y (by simp [hy])) (fitI_step h (hm x (by simp)))
  exact key l _ hall ⟨by simp, by simp, by simp, by simp⟩
structure Fits (limit : Int) (l : List It) (S : List (List It)) : Prop where
  size : 0 ≤ limit → ∀ c ∈ S, (sizes c : Int) ≤ limit
  ne : ∀ c ∈ S, c = [] → l = []
  adj : ∀ (i : Nat) (a b : List It), S[i]? = some a → S[i + 1]? = some b → b ≠ [] ∧ limit < (sizes a : Int) + sizes (b.take 1)
theorem fits {limit : Int} {l : List It} (h : badE limit l = 0) : Fits limit l (splR limit l) := by
  have hF := fitI limit l (badE_ok h)
  have hl := splF_flat limit l
  rw [splR_ok h]
  unfold closeAll
  generalize splF limit l = s at *
  obtain ⟨D, c, left⟩ := s
  obtain ⟨q1, q2, q3, q4⟩ := hF
  simp only at q1 q2 q3 hl
  cases c with
  | none =>
    have := q4 rfl
    simp only at this
    subst this
    simp only [List.flatten_nil, Option.getD_none, List.append_nil] at hl
    refine ⟨fun h0 c hc => ?_, fun _ _ _ => hl.symm, fun i a b _ hb => by simp at hb⟩
    simp only [List.mem_singleton] at hc
    subst hc
    simpa [sizes] using h0
  | some c =>
    obtain ⟨r1, r2, r3⟩ := q2 c rfl
    simp only [Option.toList] at q3
    refine ⟨fun _ d hd => ?_, fun d hd he => ?_, fun i a b ha hb => ⟨?_, q3 i a b ha hb⟩⟩
    · simp only [List.mem_append, List.mem_singleton] at hd
      rcases hd with hd | rfl
      · exact (q1 d hd).1
      · omega
    · simp only [List.mem_append, List.mem_singleton] at hd
      rcases hd with hd | rfl
      · exact absurd he (q1 d hd).2
      · exact absurd he r1
    · have hd := List.mem_of_getElem? hb
      simp only [List.mem_append, List.mem_singleton] at hd
      rcases hd with hd | rfl
      · exact (q1 b hd).2
      · exact r1
end Go.Proofs.Ytjohkaonokghbaa
