/- Texts joined: Bp. -/
import Derived.Test.YtoiaegbmbhgdpaaGreatJ30
import Derived.Test.YtoiaegbmbhgdpaaGreatJ11
import Derived.Test.YtoiaegbmbhgdpaaGreatJ18
namespace Go.Proofs.YtoiaegbmbhgdpaaGreat
open Go.RowKit
def bitOf (n : Nat) : UInt8 := UInt8.ofNat (2 ^ (n % 8))
def hasBit (row : List UInt8) (n : Nat) : Bool := ((row[n / 8]?.getD 0) &&& bitOf n) != 0
theorem numI_le (n : Int) (h : okNum n) : (numI n).length ≤ 9 := by
  have h' := h
  unfold okNum at h'
  exact numI_len n (by omega)
section
variable {bits probes seed : Int} {row : List UInt8}
end
theorem numSt_zero {l l' : List UInt8} {e x : Int} (h : numSt l e = (x, l', 0)) : e = 0 := by
  unfold numSt at h
  split at h
  · rename_i he; simp at h; exact absurd h.2.2 he
  · omega
theorem within_zero {lo hi : Int} {l l' : List UInt8} {e x : Int} (h : withinSt lo hi l e = (x, l', 0)) : e = 0 ∧ lo ≤ x ∧ x ≤ hi ∧ numSt l e = (x, l', 0) := by
  unfold withinSt at h
  split at h
  · simp at h
  · rename_i hn
    refine ⟨numSt_zero h, ?_, ?_, h⟩
    · rw [h] at hn; simp at hn; omega
    · rw [h] at hn; simp at hn; omega
theorem text_zero {most : Int} {l l' : List UInt8} {e : Int} {s : List UInt8} (h : textSt most l e = (s, l', 0)) : ∃ x l1, withinSt 0 most l e = (x, l1, 0) ∧ s = l1.take x.toNat ∧ l' = l1.drop x.toNat ∧ 0 ≤ x ∧ x ≤ l1.length := by
  unfold textSt at h
  split at h
  · rename_i hn
    exact absurd (by have := congrArg (fun p => p.2.2) h; simpa using this) hn
  · rename_i hn
    split at h
    · simp at h
    · rename_i hx
      simp at h
      have hw : withinSt 0 most l e = ((withinSt 0 most l e).1, (withinSt 0 most l e).2.1, 0) := by
        exact Prod.ext rfl (Prod.ext rfl (by simpa using hn))
      have := within_zero hw
      exact ⟨_, _, hw, h.1.symm, h.2.symm, this.2.1, by omega⟩
theorem end_zero {l : List UInt8} {e : Int} (h : endSt l e = 0) : e = 0 ∧ l = [] := by
  unfold endSt at h
  split at h
  · omega
  · rename_i hn
    subst h
    refine ⟨rfl, ?_⟩
    cases l with
    | nil => rfl
    | cons a l => simp at hn
def topBad (bits : Int) (s : List UInt8) : Prop := 0 < bits.toNat % 8 ∧ 0 < (s.getD (s.length - 1) 0).toNat / 2 ^ (bits.toNat % 8)
theorem top_bit (x : UInt8) (j : Nat) (hj : j < 8) (h : 0 < x.toNat / 2 ^ j) : ∃ k, j ≤ k ∧ k < 8 ∧ (x &&& bitOf k != 0) = true := by
  have : ∀ j : Fin 8, ∀ x : Fin 256, 0 < x.val / 2 ^ j.val → ∃ k : Fin 8, j.val ≤ k.val ∧ (UInt8.ofNat x.val &&& bitOf k.val != 0) = true := by decide +kernel
  obtain ⟨k, h1, h2⟩ := this ⟨j, hj⟩ ⟨x.toNat, x.toNat_lt⟩ h
  exact ⟨k.val, h1, k.isLt, by simpa using h2⟩
theorem not_top {bits : Int} {row : List UInt8} (h1 : 1 ≤ bits) (hl : row.length = (bits.toNat + 7) / 8) (h : ∀ n, hasBit row n = true → (n : Int) < bits) : ¬ topBad bits row := by
  rintro ⟨ha, hb⟩
  obtain ⟨k, k1, k2, k3⟩ := top_bit _ _ (Nat.mod_lt _ (by decide)) hb
  have := h (8 * (row.length - 1) + k) (by
    unfold hasBit
    rw [show (8 * (row.length - 1) + k) / 8 = row.length - 1 by omega, show bitOf (8 * (row.length - 1) + k) = bitOf k by unfold bitOf; rw [show (8 * (row.length - 1) + k) % 8 = k % 8 by omega]]
    simpa using k3)
  omega
end Go.Proofs.YtoiaegbmbhgdpaaGreat
