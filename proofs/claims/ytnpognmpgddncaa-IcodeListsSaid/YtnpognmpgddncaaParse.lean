/- What a reader of numbers reads: plain. -/
namespace Go.Proofs.Ytnpognmpgddncaa

def lead (l : List UInt8) : Nat := (l.takeWhile (fun c => decide (128 ≤ c.toNat))).length
def leVal : List UInt8 → Nat
  | [] => 0
  | c :: r => c.toNat % 128 + 128 * leVal r
def rdBad (l : List UInt8) : Prop := (0 < lead l ∧ l[lead l]? = some 0) ∨ 281474976710656 < leVal (l.take (lead l + 1))
instance (l : List UInt8) : Decidable (rdBad l) := by unfold rdBad; infer_instance
/-- the number that begins some bytes, how many it has, and what is wrong -/
def rdNum (l : List UInt8) : Nat × Nat × Int :=
  if 8 ≤ lead l then (0, 0, 11) else if l.length ≤ lead l then (0, 0, 10) else if rdBad l then (0, 0, 11) else (leVal (l.take (lead l + 1)), lead l + 1, 0)

theorem lead_le (l : List UInt8) : lead l ≤ l.length := by
  unfold lead; exact (List.takeWhile_sublist _).length_le
theorem lead_step : ∀ (l : List UInt8) (i : Nat) (h : i < l.length), i ≤ lead l → (128 ≤ l[i].toNat → i + 1 ≤ lead l) ∧ (l[i].toNat < 128 → lead l = i) := by
  intro l
  induction l with
  | nil => intro i h; simp at h
  | cons c r ih =>
    intro i h hi
    unfold lead at *
    rw [List.takeWhile_cons] at *
    cases i with
    | zero =>
      refine ⟨fun hc => ?_, fun hc => ?_⟩
      · simp at hc; simp [hc]
      · simp at hc; rw [if_neg (by simp; omega)]; rfl
    | succ i =>
      by_cases hc : 128 ≤ c.toNat
      · rw [if_pos (by simpa using hc)] at hi ⊢
        simp only [List.length_cons] at hi ⊢
        have := ih i (by simpa using h) (by omega)
        simp only [List.getElem_cons_succ]
        omega
      · rw [if_neg (by simpa using hc)] at hi; simp at hi
theorem lead_before : ∀ (l : List UInt8) (i : Nat) (h : i < l.length), i < lead l → 128 ≤ l[i].toNat := by
  intro l i h hi
  rcases Nat.lt_or_ge (l[i].toNat) 128 with h1 | h1
  · have := (lead_step l i h (by omega)).2 h1; omega
  · exact h1
theorem lead_at (l : List UInt8) (h : lead l < l.length) : l[lead l].toNat < 128 := by
  rcases Nat.lt_or_ge (l[lead l].toNat) 128 with h1 | h1
  · exact h1
  · have := (lead_step l (lead l) h (Nat.le_refl _)).1 h1; omega

theorem leVal_lt (l : List UInt8) : leVal l < 128 ^ l.length := by
  induction l with
  | nil => simp [leVal]
  | cons c r ih => simp only [leVal, List.length_cons, Nat.pow_succ]; omega

/-- a reader's state behind a call of Number -/
def numSt (l : List UInt8) (e : Int) : Int × List UInt8 × Int :=
  if e ≠ 0 then (0, l, e) else if (rdNum l).2.2 ≠ 0 then (0, l, (rdNum l).2.2) else ((rdNum l).1, l.drop (rdNum l).2.1, 0)
def withinSt (lo hi : Int) (l : List UInt8) (e : Int) : Int × List UInt8 × Int :=
  if (numSt l e).2.2 = 0 ∧ ((numSt l e).1 < lo ∨ hi < (numSt l e).1) then (0, l, 11) else numSt l e
def textSt (most : Int) (l : List UInt8) (e : Int) : List UInt8 × List UInt8 × Int :=
  if (withinSt 0 most l e).2.2 ≠ 0 then ([], (withinSt 0 most l e).2)
  else if (withinSt 0 most l e).2.1.length < (withinSt 0 most l e).1 then ([], l, 10)
  else ((withinSt 0 most l e).2.1.take (withinSt 0 most l e).1.toNat, (withinSt 0 most l e).2.1.drop (withinSt 0 most l e).1.toNat, 0)
def failSt (x : Int) (l : List UInt8) (e : Int) : List UInt8 × Int := if e = 0 then (l, x) else (l, e)
def endSt (l : List UInt8) (e : Int) : Int := if e = 0 ∧ 0 < l.length then 14 else e
end Go.Proofs.Ytnpognmpgddncaa
