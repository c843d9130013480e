/- Texts: with how many bytes two begin likewise; the program's key.Common and the references' Alike. -/
import Derived.Test.YtpndnlnjgnckdaaByt
namespace Go.Proofs.Ytpndnlnjgnckdaa
open Go.RowKit
/-- with how many bytes two texts begin likewise -/
def alikeL : List UInt8 → List UInt8 → Nat
  | x :: a, y :: b => if x = y then alikeL a b + 1 else 0
  | _, _ => 0
def alike (s t : ByteArray) : Nat := alikeL s.data.toList t.data.toList
theorem alikeL_le : ∀ (a b : List UInt8), alikeL a b ≤ a.length ∧ alikeL a b ≤ b.length := by
  intro a
  induction a with
  | nil => intro b; simp [alikeL]
  | cons x a ih =>
    intro b
    cases b with
    | nil => simp [alikeL]
    | cons y b =>
      unfold alikeL
      have := ih b
      split
      · simp; omega
      · simp
theorem alike_le (s t : ByteArray) : alike s t ≤ s.size ∧ alike s t ≤ t.size := by
  have := alikeL_le s.data.toList t.data.toList
  simpa [alike] using this
/-- what begins likewise, step by step -/
theorem alikeL_step : ∀ (a b : List UInt8) (k : Nat) (h1 : k < a.length) (h2 : k < b.length), k ≤ alikeL a b → (a[k] = b[k] → k + 1 ≤ alikeL a b) ∧ (a[k] ≠ b[k] → alikeL a b = k) := by
  intro a
  induction a with
  | nil => intro b k h1; simp at h1
  | cons x a ih =>
    intro b k h1 h2 hk
    cases b with
    | nil => simp at h2
    | cons y b =>
      unfold alikeL at hk ⊢
      by_cases hxy : x = y
      · rw [if_pos hxy] at hk ⊢
        cases k with
        | zero => exact ⟨fun _ => by omega, fun h => absurd hxy h⟩
        | succ k =>
          have := ih b k (by simpa using h1) (by simpa using h2) (by omega)
          simp only [List.getElem_cons_succ]
          exact ⟨fun h => by have := this.1 h; omega, fun h => by have := this.2 h; omega⟩
      · rw [if_neg hxy] at hk ⊢
        obtain rfl : k = 0 := by omega
        exact ⟨fun h => absurd h hxy, fun _ => rfl⟩
theorem alikeL_pre : ∀ (a b : List UInt8) (n : Nat), n ≤ a.length → (a.take n <+: b ↔ n ≤ alikeL a b) := by
  intro a
  induction a with
  | nil => intro b n hn; simp at hn; subst hn; simp
  | cons x a ih =>
    intro b n hn
    cases n with
    | zero => simp
    | succ n =>
      cases b with
      | nil => simp [alikeL]
      | cons y b =>
        rw [List.take_succ_cons, List.cons_prefix_cons]
        unfold alikeL
        rw [ih b n (by simpa using hn)]
        by_cases h : x = y
        · simp [h]
        · simp [h]
theorem alike_self (a : ByteArray) : alike a a = a.size := by
  unfold alike
  have : ∀ l : List UInt8, alikeL l l = l.length := by
    intro l
    induction l with
    | nil => rfl
    | cons x l ih => simp [alikeL, ih]
  rw [this, str_len]
def hasP (s p : ByteArray) : Bool := decide (p.data.toList <+: s.data.toList)
theorem extract_list (s : ByteArray) (n : Nat) : (s.extract 0 n).data.toList = s.data.toList.take n := by
  rw [ByteArray.data_extract, Array.toList_extract]
  simp [List.extract]
theorem hasP_take (a b : ByteArray) (n : Nat) (h : n ≤ a.size) : hasP b (a.extract 0 n) = decide (n ≤ alike a b) := by
  unfold hasP alike
  rw [extract_list]
  exact decide_eq_decide.2 (alikeL_pre _ _ n (by simpa using h))
theorem hasP_def (s p : ByteArray) : hasP s p = ((s.extract 0 p.size).toList == p.toList) := by
  unfold hasP
  rw [str_toList, str_toList, extract_list, Bool.eq_iff_iff, decide_eq_true_eq, beq_iff_eq, List.prefix_iff_eq_take]
  rw [str_len]
  exact eq_comm
section
set_option maxRecDepth 10000
set_option maxHeartbeats 4000000
end
end Go.Proofs.Ytpndnlnjgnckdaa
