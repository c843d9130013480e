/- Texts in order: the comparison as a linear order, one that grind knows. No program in sight. -/
import Derived.Test.YtpndnlnjgnckdaaCmp
namespace Go.Proofs.Ytpndnlnjgnckdaa
theorem oL_anti : ∀ (a b : List UInt8), cmpL b a = - cmpL a b ∧ (cmpL a b = 0 → a = b) := by
  intro a
  induction a with
  | nil => intro b; cases b <;> simp [cmpL]
  | cons x a ih =>
    intro b
    cases b with
    | nil => simp [cmpL]
    | cons y b =>
      obtain ⟨h1, h2⟩ := ih b
      simp only [cmpL]
      refine ⟨?_, ?_⟩
      · rcases Nat.lt_trichotomy x.toNat y.toNat with q | q | q
        · rw [if_neg (by omega), if_pos q, if_pos q]; rfl
        · rw [if_neg (by omega), if_neg (by omega), if_neg (by omega), if_neg (by omega)]; exact h1
        · rw [if_pos q, if_neg (by omega), if_pos q]
      · split
        · intro h; omega
        · split
          · intro h; omega
          · intro h
            rw [h2 h, UInt8.toNat_inj.1 (show x.toNat = y.toNat by omega)]
theorem oL_lt : ∀ (a b c : List UInt8), cmpL a a = 0 ∧ (cmpL a b ≤ 0 → cmpL b c ≤ 0 → cmpL a c ≤ 0) := by
  intro a
  induction a with
  | nil => intro b c; cases b <;> cases c <;> simp [cmpL]
  | cons x a ih =>
    intro b c
    refine ⟨by simp [cmpL, (ih a a).1], ?_⟩
    cases b with
    | nil => cases c <;> simp [cmpL]
    | cons y b =>
      cases c with
      | nil => simp [cmpL]
      | cons z c =>
        obtain ⟨_, h1⟩ := ih b c
        simp only [cmpL]
        intro q1 q2
        split at q1
        · split at q2
          · rw [if_pos (by omega)]; decide
          · split at q2
            · omega
            · rw [if_pos (by omega)]; decide
        · split at q1
          · omega
          · split at q2
            · rw [if_pos (by omega)]; decide
            · split at q2
              · omega
              · rw [if_neg (by omega), if_neg (by omega)]; exact h1 q1 q2
instance oLE : LE ByteArray := ⟨fun s t => cmpB s t ≤ 0⟩
instance oLT : LT ByteArray := ⟨fun s t => cmpB s t < 0⟩
instance oDlt (s t : ByteArray) : Decidable (s < t) := inferInstanceAs (Decidable (cmpB s t < 0))
instance oDle (s t : ByteArray) : Decidable (s ≤ t) := inferInstanceAs (Decidable (cmpB s t ≤ 0))
theorem o_anti (s t : ByteArray) : cmpB t s = - cmpB s t := (oL_anti _ _).1
theorem o_self (s : ByteArray) : cmpB s s = 0 := (oL_lt _ [] []).1
theorem o_eq (s t : ByteArray) : cmpB s t = 0 ↔ s = t := by
  refine ⟨fun h => ?_, fun h => h ▸ o_self s⟩
  have := (oL_anti s.data.toList t.data.toList).2 h
  exact ByteArray.ext (Array.toList_inj.1 this)
theorem o_le (s t : ByteArray) : cmpB s t ≤ 0 ↔ s ≤ t := Iff.rfl
theorem o_lt (s t : ByteArray) : cmpB s t < 0 ↔ s < t := Iff.rfl
theorem o_gt (s t : ByteArray) : cmpB s t > 0 ↔ t < s := by rw [← o_lt, o_anti]; omega
theorem o_ge (s t : ByteArray) : cmpB s t ≥ 0 ↔ t ≤ s := by rw [← o_le, o_anti]; omega
instance oLin : Std.IsLinearOrder ByteArray where
  le_refl a := (o_le _ _).1 (Int.le_of_eq (o_self a))
  le_trans a b c h1 h2 := (oL_lt _ _ _).2 h1 h2
  le_antisymm a b h1 h2 := (o_eq a b).1 (Int.le_antisymm h1 (by have := (o_le b a).2 h2; rw [o_anti] at this; omega))
  le_total a b := by rw [← o_le, ← o_le, o_anti a b]; omega
instance oLaw : Std.LawfulOrderLT ByteArray where
  lt_iff a b := by rw [← o_le, ← o_le, ← o_lt, o_anti a b]; omega
end Go.Proofs.Ytpndnlnjgnckdaa
