/- What was put is read as it was; what is read was put just so: plain laws of the readers' steps. -/
import Derived.Test.YtnpognmpgddncaaParseLaw
namespace Go.Proofs.Ytnpognmpgddncaa
open Go.RowKit
theorem num_put {n : Int} (h : okNum n) (r : List UInt8) : numSt (numI n ++ r) 0 = (n, r, 0) := by
  unfold numSt numI
  obtain ⟨h1, h2⟩ := h
  rw [put_rd n.toNat r (by omega)]
  rw [if_neg (by simp), if_neg (by simp)]
  simp; omega
theorem within_put {n lo hi : Int} (h : okNum n) (h1 : lo ≤ n) (h2 : n ≤ hi) (r : List UInt8) : withinSt lo hi (numI n ++ r) 0 = (n, r, 0) := by
  unfold withinSt
  rw [num_put h]
  rw [if_neg]
  simp; omega
theorem text_put {s : ByteArray} {most : Int} (h : (s.size : Int) ≤ most) (h2 : s.size ≤ 281474976710656) (r : List UInt8) : textSt most (textB s ++ r) 0 = (s.data.toList, r, 0) := by
  have hw : withinSt 0 most (textB s ++ r) 0 = ((s.size : Int), s.data.toList ++ r, 0) := by
    have := within_put (n := (s.size : Int)) (lo := 0) (hi := most) ⟨by omega, by omega⟩ (by omega) h (s.data.toList ++ r)
    unfold numI at this
    rw [Int.toNat_natCast] at this
    rw [textB, List.append_assoc]; exact this
  unfold textSt
  rw [hw]
  have hl : s.data.toList.length = s.size := str_len s
  rw [if_neg (by simp), if_neg (by simp; omega), Int.toNat_natCast]
  rw [List.take_append_of_le_length (by omega), List.take_of_length_le (by omega), List.drop_append_of_le_length (by omega), List.drop_of_length_le (by omega)]
  rfl
theorem ba_eta (s : ByteArray) : (⟨s.data.toList.toArray⟩ : ByteArray) = s := by cases s; simp
/-! an error stays -/
theorem num_err {l : List UInt8} {e : Int} (h : e ≠ 0) : numSt l e = (0, l, e) := by unfold numSt; rw [if_pos h]
theorem within_err {lo hi : Int} {l : List UInt8} {e : Int} (h : e ≠ 0) : withinSt lo hi l e = (0, l, e) := by unfold withinSt; rw [num_err h, if_neg (fun q => h q.1)]
theorem text_err {most : Int} {l : List UInt8} {e : Int} (h : e ≠ 0) : textSt most l e = ([], l, e) := by
  unfold textSt; rw [within_err h, if_pos h]
/-! what was read without an error stands so in the bytes -/
theorem num_back {l : List UInt8} {e : Int} (h : (numSt l e).2.2 = 0) : e = 0 ∧ okNum (numSt l e).1 ∧ l = numI (numSt l e).1 ++ (numSt l e).2.1 := by
  by_cases he : e = 0
  · subst he
    unfold numSt at h ⊢
    rw [if_neg (by simp)] at h ⊢
    by_cases hr : (rdNum l).2.2 = 0
    · obtain ⟨h1, h2, h3, h4⟩ := rd_put hr
      rw [if_neg (by simp [hr])]
      refine ⟨rfl, ⟨by simp only; omega, by simp only; omega⟩, ?_⟩
      simp only [numI, Int.toNat_natCast]
      rw [h1, List.take_append_drop]
    · rw [if_pos hr] at h
      exact absurd h hr
  · rw [num_err he] at h; exact absurd h he
theorem within_back {lo hi : Int} {l : List UInt8} {e : Int} (h : (withinSt lo hi l e).2.2 = 0) : e = 0 ∧ okNum (withinSt lo hi l e).1 ∧ lo ≤ (withinSt lo hi l e).1 ∧ (withinSt lo hi l e).1 ≤ hi ∧ l = numI (withinSt lo hi l e).1 ++ (withinSt lo hi l e).2.1 := by
  unfold withinSt at h ⊢
  split at h
  · simp at h
  · rename_i hc
    rw [if_neg hc]
    obtain ⟨h1, h2, h3⟩ := num_back h
    exact ⟨h1, h2, by omega, by omega, h3⟩
theorem text_back {most : Int} {l : List UInt8} {e : Int} (h : (textSt most l e).2.2 = 0) : e = 0 ∧ ((textSt most l e).1.length : Int) ≤ most ∧ l = textB ⟨(textSt most l e).1.toArray⟩ ++ (textSt most l e).2.1 := by
  unfold textSt at h ⊢
  split at h
  · rename_i hc; exact absurd h hc
  · rename_i hc
    rw [if_neg hc]
    split at h
    · simp at h
    · rename_i hc2
      rw [if_neg hc2]
      have hc : (withinSt 0 most l e).2.2 = 0 := by simpa using hc
      obtain ⟨h1, h2, h3, h4, h5⟩ := within_back hc
      have hlen : ((withinSt 0 most l e).2.1.take (withinSt 0 most l e).1.toNat).length = (withinSt 0 most l e).1.toNat := by rw [List.length_take]; omega
      refine ⟨h1, by simp only; rw [hlen]; omega, ?_⟩
      simp only
      unfold textB
      have : (⟨((withinSt 0 most l e).2.1.take (withinSt 0 most l e).1.toNat).toArray⟩ : ByteArray).size = (withinSt 0 most l e).1.toNat := by
        show (((withinSt 0 most l e).2.1.take (withinSt 0 most l e).1.toNat).toArray).size = _
        rw [List.size_toArray]; exact hlen
      rw [this]
      simp only
      rw [List.append_assoc, List.take_append_drop]
      exact h5
theorem end_back {l : List UInt8} {e : Int} (h : endSt l e = 0) : l = [] ∧ e = 0 := by
  unfold endSt at h
  split at h
  · simp at h
  · rename_i hc
    subst h
    refine ⟨?_, rfl⟩
    have : l.length = 0 := by omega
    exact List.eq_nil_of_length_eq_zero this
end Go.Proofs.Ytnpognmpgddncaa
