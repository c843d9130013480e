/- Texts joined: Parse. -/
import Derived.Test.YtoiaegbmbhgdpaaGreatJ11
namespace Go.Proofs.YtoiaegbmbhgdpaaGreat

def lead (l : List UInt8) : Nat := (l.takeWhile (fun c => decide (128 ≤ c.toNat))).length
def leVal : List UInt8 → Nat
  | [] => 0
  | c :: r => c.toNat % 128 + 128 * leVal r
def rdBad (l : List UInt8) : Prop := (0 < lead l ∧ l[lead l]? = some 0) ∨ 281474976710656 < leVal (l.take (lead l + 1))
instance (l : List UInt8) : Decidable (rdBad l) := by unfold rdBad; infer_instance
/-- the number that begins some bytes, how many it has, and what is wrong -/
def rdNum (l : List UInt8) : Nat × Nat × Int :=
  if 8 ≤ lead l then (0, 0, 11) else if l.length ≤ lead l then (0, 0, 10) else if rdBad l then (0, 0, 11) else (leVal (l.take (lead l + 1)), lead l + 1, 0)

theorem lead_le (l : List UInt8) : lead l ≤ l.length := by
  unfold lead; exact (List.takeWhile_sublist _).length_le
theorem lead_step : ∀ (l : List UInt8) (i : Nat) (h : i < l.length), i ≤ lead l → (128 ≤ l[i].toNat → i + 1 ≤ lead l) ∧ (l[i].toNat < 128 → lead l = i) := by
  intro l
  induction l with
  | nil => intro i h; simp at h
  | cons c r ih =>
    intro i h hi
    unfold lead at *
    rw [List.takeWhile_cons] at *
    cases i with
    | zero =>
      refine ⟨fun hc => ?_, fun hc => ?_⟩
      · simp at hc; simp [hc]
      · simp at hc; rw [if_neg (by simp; omega)]; rfl
    | succ i =>
      by_cases hc : 128 ≤ c.toNat
      · rw [if_pos (by simpa using hc)] at hi ⊢
        simp only [List.length_cons] at hi ⊢
        have := ih i (by simpa using h) (by omega)
        simp only [List.getElem_cons_succ]
        omega
      · rw [if_neg (by simpa using hc)] at hi; simp at hi
theorem lead_before : ∀ (l : List UInt8) (i : Nat) (h : i < l.length), i < lead l → 128 ≤ l[i].toNat := by
  intro l i h hi
  rcases Nat.lt_or_ge (l[i].toNat) 128 with h1 | h1
  · have := (lead_step l i h (by omega)).2 h1; omega
  · exact h1
theorem lead_at (l : List UInt8) (h : lead l < l.length) : l[lead l].toNat < 128 := by
  rcases Nat.lt_or_ge (l[lead l].toNat) 128 with h1 | h1
  · exact h1
  · have := (lead_step l (lead l) h (Nat.le_refl _)).1 h1; omega

theorem leVal_lt (l : List UInt8) : leVal l < 128 ^ l.length := by
  induction l with
  | nil => simp [leVal]
  | cons c r ih => simp only [leVal, List.length_cons, Nat.pow_succ]; omega

/-- a reader's state behind a call of Number -/
def numSt (l : List UInt8) (e : Int) : Int × List UInt8 × Int :=
  if e ≠ 0 then (0, l, e) else if (rdNum l).2.2 ≠ 0 then (0, l, (rdNum l).2.2) else ((rdNum l).1, l.drop (rdNum l).2.1, 0)
def withinSt (lo hi : Int) (l : List UInt8) (e : Int) : Int × List UInt8 × Int :=
  if (numSt l e).2.2 = 0 ∧ ((numSt l e).1 < lo ∨ hi < (numSt l e).1) then (0, l, 11) else numSt l e
def textSt (most : Int) (l : List UInt8) (e : Int) : List UInt8 × List UInt8 × Int :=
  if (withinSt 0 most l e).2.2 ≠ 0 then ([], (withinSt 0 most l e).2)
  else if (withinSt 0 most l e).2.1.length < (withinSt 0 most l e).1 then ([], l, 10)
  else ((withinSt 0 most l e).2.1.take (withinSt 0 most l e).1.toNat, (withinSt 0 most l e).2.1.drop (withinSt 0 most l e).1.toNat, 0)
def failSt (x : Int) (l : List UInt8) (e : Int) : List UInt8 × Int := if e = 0 then (l, x) else (l, e)
def endSt (l : List UInt8) (e : Int) : Int := if e = 0 ∧ 0 < l.length then 14 else e
end Go.Proofs.YtoiaegbmbhgdpaaGreat
namespace Go.Proofs.YtoiaegbmbhgdpaaGreat
open Go.RowKit

theorem numB_leVal : ∀ (xs : List UInt8) (c : UInt8), (∀ x ∈ xs, 128 ≤ x.toNat) → c.toNat < 128 → (xs ≠ [] → c ≠ 0) → numB (leVal (xs ++ [c])) = xs ++ [c] := by
  intro xs
  induction xs with
  | nil =>
    intro c _ hc _
    have : leVal ([] ++ [c]) = c.toNat := by simp [leVal]; omega
    rw [this, numB_lt hc]; simp
  | cons x r ih =>
    intro c hx hc hne
    have hc0 := hne (by simp)
    have hr := ih c (fun y hy => hx y (by simp [hy])) hc (fun _ => hc0)
    have hxx := hx x (by simp)
    have hV : 0 < leVal (r ++ [c]) := by
      have h1 : ∀ r : List UInt8, 0 < c.toNat → 0 < leVal (r ++ [c]) := by
        intro r hp
        induction r with
        | nil => simp [leVal]; omega
        | cons y r ih => simp only [List.cons_append, leVal]; omega
      apply h1
      rcases Nat.eq_zero_or_pos c.toNat with h | h
      · exact absurd (UInt8.toNat_inj.1 (by simpa using h)) hc0
      · exact h
    have hval : leVal (x :: r ++ [c]) = x.toNat % 128 + 128 * leVal (r ++ [c]) := rfl
    have hlt := x.toNat_lt
    rw [hval, numB_ge (by omega)]
    rw [show (x.toNat % 128 + 128 * leVal (r ++ [c])) / 128 = leVal (r ++ [c]) by omega, hr]
    rw [show 128 + (x.toNat % 128 + 128 * leVal (r ++ [c])) % 128 = x.toNat by omega]
    simp

theorem rdNum_ok {l : List UInt8} (h : (rdNum l).2.2 = 0) : lead l < 8 ∧ lead l < l.length ∧ ¬ rdBad l ∧ (rdNum l).1 = leVal (l.take (lead l + 1)) ∧ (rdNum l).2.1 = lead l + 1 := by
  unfold rdNum at h ⊢
  by_cases h1 : 8 ≤ lead l
  · rw [if_pos h1] at h; simp at h
  · rw [if_neg h1] at h ⊢
    by_cases h2 : l.length ≤ lead l
    · rw [if_pos h2] at h; simp at h
    · rw [if_neg h2] at h ⊢
      by_cases h3 : rdBad l
      · rw [if_pos h3] at h; simp at h
      · rw [if_neg h3]; exact ⟨by omega, by omega, h3, rfl, rfl⟩

/-- what was read is put as it stood -/
theorem rd_put {l : List UInt8} (h : (rdNum l).2.2 = 0) : numB (rdNum l).1 = l.take (rdNum l).2.1 ∧ 0 < (rdNum l).2.1 ∧ (rdNum l).2.1 ≤ l.length ∧ (rdNum l).1 ≤ 281474976710656 := by
  obtain ⟨h8, hl, hb, e1, e2⟩ := rdNum_ok h
  rw [e1, e2]
  have ht : l.take (lead l + 1) = l.take (lead l) ++ [l[lead l]] := List.take_succ_eq_append_getElem hl
  refine ⟨?_, by omega, by omega, ?_⟩
  · rw [ht]
    refine numB_leVal _ _ ?_ (lead_at l hl) ?_
    · intro x hx
      obtain ⟨i, hi, rfl⟩ := List.getElem_of_mem hx
      rw [List.length_take] at hi
      rw [List.getElem_take]
      exact lead_before l i (by omega) (by omega)
    · intro hne h0
      refine hb (.inl ⟨?_, by rw [List.getElem?_eq_getElem hl, h0]⟩)
      rcases Nat.eq_zero_or_pos (lead l) with h | h
      · rw [h] at hne; simp at hne
      · exact h
  · rcases Nat.lt_or_ge 281474976710656 (leVal (l.take (lead l + 1))) with h | h
    · exact absurd (.inr h) hb
    · exact h

/-- what was put is read as it was -/
theorem numB_shape (n : Nat) : ∃ xs c, numB n = xs ++ [c] ∧ (∀ x ∈ xs, 128 ≤ x.toNat) ∧ c.toNat < 128 ∧ (xs ≠ [] → c ≠ 0) ∧ leVal (numB n) = n := by
  induction n using Nat.strongRecOn with
  | ind n ih =>
    by_cases h : n < 128
    · refine ⟨[], UInt8.ofNat n, by rw [numB_lt h]; rfl, by simp, by rw [UInt8.toNat_ofNat']; omega, by simp, ?_⟩
      rw [numB_lt h]; simp only [leVal, UInt8.toNat_ofNat']; omega
    · obtain ⟨xs, c, e, h1, h2, h3, h4⟩ := ih (n / 128) (by omega)
      refine ⟨UInt8.ofNat (128 + n % 128) :: xs, c, by rw [numB_ge h, e]; rfl, ?_, h2, ?_, ?_⟩
      · intro x hx
        rcases List.mem_cons.1 hx with rfl | hx
        · rw [UInt8.toNat_ofNat']; omega
        · exact h1 x hx
      · intro _
        by_cases hx : xs = []
        · subst hx
          intro hc
          subst hc
          rw [e] at h4
          simp [leVal] at h4
          omega
        · exact h3 hx
      · rw [numB_ge h]; simp only [leVal, h4, UInt8.toNat_ofNat']; omega

theorem lead_numB (n : Nat) (r : List UInt8) : lead (numB n ++ r) + 1 = (numB n).length := by
  obtain ⟨xs, c, e, h1, h2, h3, h4⟩ := numB_shape n
  rw [e]
  have : (xs ++ [c] ++ r).takeWhile (fun c => decide (128 ≤ c.toNat)) = xs := by
    rw [List.append_assoc, List.takeWhile_append_of_pos (by simpa using h1)]
    rw [List.cons_append, List.takeWhile_cons, if_neg (by simp; omega)]; simp
  unfold lead
  rw [this]; simp

theorem put_rd (n : Nat) (r : List UInt8) (hn : n ≤ 281474976710656) : rdNum (numB n ++ r) = (n, (numB n).length, 0) := by
  have hl := lead_numB n r
  have h8 := numB_len 7 n (by omega)
  obtain ⟨xs, c, e, h1, h2, h3, h4⟩ := numB_shape n
  have hlen : lead (numB n ++ r) = xs.length := by rw [e] at hl ⊢; simp at hl ⊢; exact hl
  unfold rdNum
  rw [if_neg (by omega), if_neg (by rw [List.length_append]; omega)]
  have ht : (numB n ++ r).take (lead (numB n ++ r) + 1) = numB n := by rw [hl]; simp
  rw [if_neg, ht, hl, h4]
  unfold rdBad
  rw [ht, h4]
  rintro (⟨h, h'⟩ | h)
  · rw [hlen] at h h'
    rw [e, List.getElem?_append_left (by simp), List.getElem?_append_right (by omega)] at h'
    simp at h'
    exact h3 (by intro hx; subst hx; simp at h) h'
  · omega
end Go.Proofs.YtoiaegbmbhgdpaaGreat
namespace Go.Proofs.YtoiaegbmbhgdpaaGreat
open Go.RowKit
theorem num_put {n : Int} (h : okNum n) (r : List UInt8) : numSt (numI n ++ r) 0 = (n, r, 0) := by
  unfold numSt numI
  obtain ⟨h1, h2⟩ := h
  rw [put_rd n.toNat r (by omega)]
  rw [if_neg (by simp), if_neg (by simp)]
  simp; omega
theorem within_put {n lo hi : Int} (h : okNum n) (h1 : lo ≤ n) (h2 : n ≤ hi) (r : List UInt8) : withinSt lo hi (numI n ++ r) 0 = (n, r, 0) := by
  unfold withinSt
  rw [num_put h]
  rw [if_neg]
  simp; omega
theorem text_put {s : ByteArray} {most : Int} (h : (s.size : Int) ≤ most) (h2 : s.size ≤ 281474976710656) (r : List UInt8) : textSt most (textB s ++ r) 0 = (s.data.toList, r, 0) := by
  have hw : withinSt 0 most (textB s ++ r) 0 = ((s.size : Int), s.data.toList ++ r, 0) := by
    have := within_put (n := (s.size : Int)) (lo := 0) (hi := most) ⟨by omega, by omega⟩ (by omega) h (s.data.toList ++ r)
    unfold numI at this
    rw [Int.toNat_natCast] at this
    rw [textB, List.append_assoc]; exact this
  unfold textSt
  rw [hw]
  have hl : s.data.toList.length = s.size := str_len s
  rw [if_neg (by simp), if_neg (by simp; omega), Int.toNat_natCast]
  rw [List.take_append_of_le_length (by omega), List.take_of_length_le (by omega), List.drop_append_of_le_length (by omega), List.drop_of_length_le (by omega)]
  rfl
theorem ba_eta (s : ByteArray) : (⟨s.data.toList.toArray⟩ : ByteArray) = s := by cases s; simp
/-! an error stays -/
theorem num_err {l : List UInt8} {e : Int} (h : e ≠ 0) : numSt l e = (0, l, e) := by unfold numSt; rw [if_pos h]
/-! what was read without an error stands so in the bytes -/
theorem num_back {l : List UInt8} {e : Int} (h : (numSt l e).2.2 = 0) : e = 0 ∧ okNum (numSt l e).1 ∧ l = numI (numSt l e).1 ++ (numSt l e).2.1 := by
  by_cases he : e = 0
  · subst he
    unfold numSt at h ⊢
    rw [if_neg (by simp)] at h ⊢
    by_cases hr : (rdNum l).2.2 = 0
    · obtain ⟨h1, h2, h3, h4⟩ := rd_put hr
      rw [if_neg (by simp [hr])]
      refine ⟨rfl, ⟨by simp only; omega, by simp only; omega⟩, ?_⟩
      simp only [numI, Int.toNat_natCast]
      rw [h1, List.take_append_drop]
    · rw [if_pos hr] at h
      exact absurd h hr
  · rw [num_err he] at h; exact absurd h he
theorem within_back {lo hi : Int} {l : List UInt8} {e : Int} (h : (withinSt lo hi l e).2.2 = 0) : e = 0 ∧ okNum (withinSt lo hi l e).1 ∧ lo ≤ (withinSt lo hi l e).1 ∧ (withinSt lo hi l e).1 ≤ hi ∧ l = numI (withinSt lo hi l e).1 ++ (withinSt lo hi l e).2.1 := by
  unfold withinSt at h ⊢
  split at h
  · simp at h
  · rename_i hc
    rw [if_neg hc]
    obtain ⟨h1, h2, h3⟩ := num_back h
    exact ⟨h1, h2, by omega, by omega, h3⟩
theorem text_back {most : Int} {l : List UInt8} {e : Int} (h : (textSt most l e).2.2 = 0) : e = 0 ∧ ((textSt most l e).1.length : Int) ≤ most ∧ l = textB ⟨(textSt most l e).1.toArray⟩ ++ (textSt most l e).2.1 := by
  unfold textSt at h ⊢
  split at h
  · rename_i hc; exact absurd h hc
  · rename_i hc
    rw [if_neg hc]
    split at h
    · simp at h
    · rename_i hc2
      rw [if_neg hc2]
      have hc : (withinSt 0 most l e).2.2 = 0 := by simpa using hc
      obtain ⟨h1, h2, h3, h4, h5⟩ := within_back hc
      have hlen : ((withinSt 0 most l e).2.1.take (withinSt 0 most l e).1.toNat).length = (withinSt 0 most l e).1.toNat := by rw [List.length_take]; omega
      refine ⟨h1, by simp only; rw [hlen]; omega, ?_⟩
      simp only
      unfold textB
      have : (⟨((withinSt 0 most l e).2.1.take (withinSt 0 most l e).1.toNat).toArray⟩ : ByteArray).size = (withinSt 0 most l e).1.toNat := by
        show (((withinSt 0 most l e).2.1.take (withinSt 0 most l e).1.toNat).toArray).size = _
        rw [List.size_toArray]; exact hlen
      rw [this]
      simp only
      rw [List.append_assoc, List.take_append_drop]
      exact h5
theorem end_back {l : List UInt8} {e : Int} (h : endSt l e = 0) : l = [] ∧ e = 0 := by
  unfold endSt at h
  split at h
  · simp at h
  · rename_i hc
    subst h
    refine ⟨?_, rfl⟩
    have : l.length = 0 := by omega
    exact List.eq_nil_of_length_eq_zero this
end Go.Proofs.YtoiaegbmbhgdpaaGreat
