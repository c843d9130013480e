/- What is read of bytes, and what is put: plain laws. -/
import Derived.Test.YtnpognmpgddncaaParse
import Derived.Test.YtnpognmpgddncaaVarintRef
namespace Go.Proofs.Ytnpognmpgddncaa
open Go.RowKit

theorem numB_leVal : ∀ (xs : List UInt8) (c : UInt8), (∀ x ∈ xs, 128 ≤ x.toNat) → c.toNat < 128 → (xs ≠ [] → c ≠ 0) → numB (leVal (xs ++ [c])) = xs ++ [c] := by
  intro xs
  induction xs with
  | nil =>
    intro c _ hc _
    have : leVal ([] ++ [c]) = c.toNat := by simp [leVal]; omega
    rw [this, numB_lt hc]; simp
  | cons x r ih =>
    intro c hx hc hne
    have hc0 := hne (by simp)
    have hr := ih c (fun y hy => hx y (by simp [hy])) hc (fun _ => hc0)
    have hxx := hx x (by simp)
    have hV : 0 < leVal (r ++ [c]) := by
      have h1 : ∀ r : List UInt8, 0 < c.toNat → 0 < leVal (r ++ [c]) := by
        intro r hp
        induction r with
        | nil => simp [leVal]; omega
        | cons y r ih => simp only [List.cons_append, leVal]; omega
      apply h1
      rcases Nat.eq_zero_or_pos c.toNat with h | h
      · exact absurd (UInt8.toNat_inj.1 (by simpa using h)) hc0
      · exact h
    have hval : leVal (x :: r ++ [c]) = x.toNat % 128 + 128 * leVal (r ++ [c]) := rfl
    have hlt := x.toNat_lt
    rw [hval, numB_ge (by omega)]
    rw [show (x.toNat % 128 + 128 * leVal (r ++ [c])) / 128 = leVal (r ++ [c]) by omega, hr]
    rw [show 128 + (x.toNat % 128 + 128 * leVal (r ++ [c])) % 128 = x.toNat by omega]
    simp

theorem rdNum_ok {l : List UInt8} (h : (rdNum l).2.2 = 0) : lead l < 8 ∧ lead l < l.length ∧ ¬ rdBad l ∧ (rdNum l).1 = leVal (l.take (lead l + 1)) ∧ (rdNum l).2.1 = lead l + 1 := by
  unfold rdNum at h ⊢
  by_cases h1 : 8 ≤ lead l
  · rw [if_pos h1] at h; simp at h
  · rw [if_neg h1] at h ⊢
    by_cases h2 : l.length ≤ lead l
    · rw [if_pos h2] at h; simp at h
    · rw [if_neg h2] at h ⊢
      by_cases h3 : rdBad l
      · rw [if_pos h3] at h; simp at h
      · rw [if_neg h3]; exact ⟨by omega, by omega, h3, rfl, rfl⟩

/-- what was read is put as it stood -/
theorem rd_put {l : List UInt8} (h : (rdNum l).2.2 = 0) : numB (rdNum l).1 = l.take (rdNum l).2.1 ∧ 0 < (rdNum l).2.1 ∧ (rdNum l).2.1 ≤ l.length ∧ (rdNum l).1 ≤ 281474976710656 := by
  obtain ⟨h8, hl, hb, e1, e2⟩ := rdNum_ok h
  rw [e1, e2]
  have ht : l.take (lead l + 1) = l.take (lead l) ++ [l[lead l]] := List.take_succ_eq_append_getElem hl
  refine ⟨?_, by omega, by omega, ?_⟩
  · rw [ht]
    refine numB_leVal _ _ ?_ (lead_at l hl) ?_
    · intro x hx
      obtain ⟨i, hi, rfl⟩ := List.getElem_of_mem hx
      rw [List.length_take] at hi
      rw [List.getElem_take]
      exact lead_before l i (by omega) (by omega)
    · intro hne h0
      refine hb (.inl ⟨?_, by rw [List.getElem?_eq_getElem hl, h0]⟩)
      rcases Nat.eq_zero_or_pos (lead l) with h | h
      · rw [h] at hne; simp at hne
      · exact h
  · rcases Nat.lt_or_ge 281474976710656 (leVal (l.take (lead l + 1))) with h | h
    · exact absurd (.inr h) hb
    · exact h

/-- what was put is read as it was -/
theorem numB_shape (n : Nat) : ∃ xs c, numB n = xs ++ [c] ∧ (∀ x ∈ xs, 128 ≤ x.toNat) ∧ c.toNat < 128 ∧ (xs ≠ [] → c ≠ 0) ∧ leVal (numB n) = n := by
  induction n using Nat.strongRecOn with
  | ind n ih =>
    by_cases h : n < 128
    · refine ⟨[], UInt8.ofNat n, by rw [numB_lt h]; rfl, by simp, by rw [UInt8.toNat_ofNat']; omega, by simp, ?_⟩
      rw [numB_lt h]; simp only [leVal, UInt8.toNat_ofNat']; omega
    · obtain ⟨xs, c, e, h1, h2, h3, h4⟩ := ih (n / 128) (by omega)
      refine ⟨UInt8.ofNat (128 + n % 128) :: xs, c, by rw [numB_ge h, e]; rfl, ?_, h2, ?_, ?_⟩
      · intro x hx
        rcases List.mem_cons.1 hx with rfl | hx
        · rw [UInt8.toNat_ofNat']; omega
        · exact h1 x hx
      · intro _
        by_cases hx : xs = []
        · subst hx
          intro hc
          subst hc
          rw [e] at h4
          simp [leVal] at h4
          omega
        · exact h3 hx
      · rw [numB_ge h]; simp only [leVal, h4, UInt8.toNat_ofNat']; omega

theorem lead_numB (n : Nat) (r : List UInt8) : lead (numB n ++ r) + 1 = (numB n).length := by
  obtain ⟨xs, c, e, h1, h2, h3, h4⟩ := numB_shape n
  rw [e]
  have : (xs ++ [c] ++ r).takeWhile (fun c => decide (128 ≤ c.toNat)) = xs := by
    rw [List.append_assoc, List.takeWhile_append_of_pos (by simpa using h1)]
    rw [List.cons_append, List.takeWhile_cons, if_neg (by simp; omega)]; simp
  unfold lead
  rw [this]; simp

theorem put_rd (n : Nat) (r : List UInt8) (hn : n ≤ 281474976710656) : rdNum (numB n ++ r) = (n, (numB n).length, 0) := by
  have hl := lead_numB n r
  have h8 := numB_len 7 n (by omega)
  obtain ⟨xs, c, e, h1, h2, h3, h4⟩ := numB_shape n
  have hlen : lead (numB n ++ r) = xs.length := by rw [e] at hl ⊢; simp at hl ⊢; exact hl
  unfold rdNum
  rw [if_neg (by omega), if_neg (by rw [List.length_append]; omega)]
  have ht : (numB n ++ r).take (lead (numB n ++ r) + 1) = numB n := by rw [hl]; simp
  rw [if_neg, ht, hl, h4]
  unfold rdBad
  rw [ht, h4]
  rintro (⟨h, h'⟩ | h)
  · rw [hlen] at h h'
    rw [e, List.getElem?_append_left (by simp), List.getElem?_append_right (by omega)] at h'
    simp at h'
    exact h3 (by intro hx; subst hx; simp at h) h'
  · omega
end Go.Proofs.Ytnpognmpgddncaa
