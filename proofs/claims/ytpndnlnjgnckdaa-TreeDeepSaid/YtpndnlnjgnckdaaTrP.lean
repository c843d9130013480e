/- How deep a levelled tree is. No program in sight. -/
import Derived.Test.YtpndnlnjgnckdaaTrK
namespace Go.Proofs.Ytpndnlnjgnckdaa
/-- nearly as deep as one another, everywhere -/
def balT : Tr → Prop
  | .nil => True
  | .node l _ _ r => balT l ∧ balT r ∧ l.dep ≤ r.dep + 1 ∧ r.dep ≤ l.dep + 1
theorem bal_level {l : Tr} {x : It} {o : Int} {r : Tr} (hl : balT l) (hr : balT r) (h1 : l.dep ≤ r.dep + 2) (h2 : r.dep ≤ l.dep + 2) :
    balT (levelT l x o r) ∧ (levelT l x o r).dep ≤ 1 + max l.dep r.dep ∧ max l.dep r.dep ≤ (levelT l x o r).dep ∧ (l.dep ≤ r.dep + 1 → r.dep ≤ l.dep + 1 → (levelT l x o r).dep = 1 + max l.dep r.dep) := by
  unfold levelT
  split
  · rename_i c1
    obtain ⟨ll, lx, lo, lr, rfl⟩ := dep_pos (t := l) (by omega)
    simp only [balT] at hl
    split
    · rename_i c2
      simp only [Tr.lt, Tr.rt] at c2
      obtain ⟨al, ax, ao, ar, rfl⟩ := dep_pos (t := lr) (by omega)
      simp only [balT, Tr.dep] at *
      simp only [turnL, turnR, balT, Tr.dep]
      obtain ⟨a1, ⟨a2, a3, a4, a5⟩, a6, a7⟩ := hl
      refine ⟨⟨⟨a1, a2, ?_, ?_⟩, ⟨a3, hr, ?_, ?_⟩, ?_, ?_⟩, ?_, ?_, ?_⟩ <;> omega
    · rename_i c2
      simp only [Tr.lt, Tr.rt] at c2
      simp only [Tr.dep] at *
      simp only [turnR, balT, Tr.dep]
      obtain ⟨a1, a2, a6, a7⟩ := hl
      refine ⟨⟨a1, ⟨a2, hr, ?_, ?_⟩, ?_, ?_⟩, ?_, ?_, ?_⟩ <;> omega
  · split
    · rename_i c0 c1
      obtain ⟨rl, rx, ro, rr, rfl⟩ := dep_pos (t := r) (by omega)
      simp only [balT] at hr
      split
      · rename_i c2
        simp only [Tr.lt, Tr.rt] at c2
        obtain ⟨al, ax, ao, ar, rfl⟩ := dep_pos (t := rl) (by omega)
        simp only [balT, Tr.dep] at *
        simp only [turnL, turnR, balT, Tr.dep]
        obtain ⟨⟨a2, a3, a4, a5⟩, a1, a6, a7⟩ := hr
        refine ⟨⟨⟨hl, a2, ?_, ?_⟩, ⟨a3, a1, ?_, ?_⟩, ?_, ?_⟩, ?_, ?_, ?_⟩ <;> omega
      · rename_i c2
        simp only [Tr.lt, Tr.rt] at c2
        simp only [Tr.dep] at *
        simp only [turnL, balT, Tr.dep]
        obtain ⟨a1, a2, a6, a7⟩ := hr
        refine ⟨⟨⟨hl, a1, ?_, ?_⟩, a2, ?_, ?_⟩, ?_, ?_, ?_⟩ <;> omega
    · exact ⟨⟨hl, hr, by omega, by omega⟩, Nat.le_refl _, by simp only [Tr.dep]; omega, fun _ _ => rfl⟩
theorem bal_put : ∀ (t : Tr) (x : It) (o : Int), balT t → balT (putT t x o) ∧ t.dep ≤ (putT t x o).dep ∧ (putT t x o).dep ≤ t.dep + 1
  | .nil, x, o, _ => by simp [putT, balT, Tr.dep]
  | .node l y p r, x, o, h => by
    obtain ⟨a1, a2, a3, a4⟩ := h
    have h1 := bal_put l x o a1
    have h2 := bal_put r x o a2
    rw [putT]
    simp only [Tr.dep]
    split
    · have h3 := bal_level (x := y) (o := p) h1.1 a2 (by omega) (by omega)
      refine ⟨h3.1, ?_, ?_⟩ <;> omega
    · split
      · have h3 := bal_level (x := y) (o := p) a1 h2.1 (by omega) (by omega)
        refine ⟨h3.1, ?_, ?_⟩ <;> omega
      · have h3 := bal_level (x := x) (o := o) a1 a2 (by omega) (by omega)
        refine ⟨h3.1, ?_, ?_⟩ <;> omega
theorem bal_fr : ∀ (l : Tr) (x : It) (o : Int) (r : Tr), balT (.node l x o r) → balT (frT l x o r).2.2 ∧ (frT l x o r).2.2.dep ≤ (Tr.node l x o r).dep ∧ (Tr.node l x o r).dep ≤ (frT l x o r).2.2.dep + 1
  | .nil, x, o, r, h => by
    obtain ⟨a1, a2, a3, a4⟩ := h
    simp only [frT, Tr.dep] at *
    refine ⟨a2, ?_, ?_⟩ <;> omega
  | .node l y p q, x, o, r, h => by
    obtain ⟨a1, a2, a3, a4⟩ := h
    have h1 := bal_fr l y p q a1
    rw [frT]
    simp only
    have h3 := bal_level (x := x) (o := o) h1.1 a2 (by omega) (by omega)
    rw [show (Tr.node (.node l y p q) x o r).dep = 1 + max (Tr.node l y p q).dep r.dep from rfl]
    refine ⟨h3.1, ?_, ?_⟩ <;> omega
theorem bal_drop : ∀ (t : Tr) (k : ByteArray), balT t → balT (dropT t k) ∧ (dropT t k).dep ≤ t.dep ∧ t.dep ≤ (dropT t k).dep + 1
  | .nil, _, _ => by simp [dropT, balT, Tr.dep]
  | .node l y p r, k, h => by
    obtain ⟨a1, a2, a3, a4⟩ := h
    have h1 := bal_drop l k a1
    have h2 := bal_drop r k a2
    rw [dropT.eq_def]
    simp only [Tr.dep]
    split
    · have h3 := bal_level (x := y) (o := p) h1.1 a2 (by omega) (by omega)
      refine ⟨h3.1, ?_, ?_⟩ <;> omega
    · split
      · have h3 := bal_level (x := y) (o := p) a1 h2.1 (by omega) (by omega)
        refine ⟨h3.1, ?_, ?_⟩ <;> omega
      · split
        · simp only [Tr.dep] at *
          refine ⟨a1, ?_, ?_⟩ <;> omega
        · rename_i rl z q rr
          have h4 := bal_fr rl z q rr a2
          have h3 := bal_level (x := (frT rl z q rr).1) (o := (frT rl z q rr).2.1) a1 h4.1 (by omega) (by omega)
          refine ⟨h3.1, ?_, ?_⟩ <;> omega
/-- how many a levelled tree of a depth has at least -/
def leastT : Nat → Nat
  | 0 => 0
  | 1 => 1
  | n + 2 => 1 + leastT (n + 1) + leastT n
theorem leastT_mono1 : ∀ n, leastT n ≤ leastT (n + 1)
  | 0 => by decide
  | n + 1 => by show leastT (n + 1) ≤ 1 + leastT (n + 1) + leastT n; omega
theorem leastT_mono {a b : Nat} (h : a ≤ b) : leastT a ≤ leastT b := by
  induction b with
  | zero => obtain rfl : a = 0 := by omega
            exact Nat.le_refl _
  | succ b ih =>
    rcases Nat.lt_or_ge a (b + 1) with q | q
    · exact Nat.le_trans (ih (by omega)) (leastT_mono1 b)
    · obtain rfl : a = b + 1 := by omega
      exact Nat.le_refl _
theorem least_siz : ∀ t : Tr, balT t → leastT t.dep ≤ t.siz
  | .nil, _ => Nat.le_refl _
  | .node l x o r, h => by
    obtain ⟨a1, a2, a3, a4⟩ := h
    have h1 := least_siz l a1
    have h2 := least_siz r a2
    simp only [Tr.dep, Tr.siz]
    rcases Nat.lt_or_ge l.dep r.dep with q | q
    · have e : 1 + max l.dep r.dep = l.dep + 2 := by omega
      have e2 : r.dep = l.dep + 1 := by omega
      rw [e, leastT, ← e2]; omega
    · rcases Nat.lt_or_ge r.dep l.dep with q' | q'
      · have e : 1 + max l.dep r.dep = r.dep + 2 := by omega
        have e2 : l.dep = r.dep + 1 := by omega
        rw [e, leastT, ← e2]; omega
      · have e : 1 + max l.dep r.dep = r.dep + 1 := by omega
        rw [e]
        rcases hh : r.dep with _ | m
        · have : leastT (0 + 1) = 1 := rfl
          omega
        · have e3 : leastT (m + 1 + 1) = 1 + leastT (m + 1) + leastT m := rfl
          have := leastT_mono1 m
          have : l.dep = m + 1 := by omega
          rw [this] at h1
          rw [hh] at h2
          rw [e3]; omega
/-- how many bits a number takes, and half as many more -/
def lgF (n : Nat) : Nat := Nat.log2 (n + 1) + 1
def deepF (n : Nat) : Nat := if n = 0 then 0 else (3 * lgF n + 1) / 2
theorem lgF_lt {n k : Nat} (h : 2 ^ k < n + 2) : k < lgF n := by
  have : k ≤ Nat.log2 (n + 1) := (Nat.le_log2 (by omega)).2 (by omega)
  unfold lgF; omega
theorem lgF_le {n k : Nat} (h : n + 2 ≤ 2 ^ k) : lgF n ≤ k := by
  have : Nat.log2 (n + 1) < k := (Nat.log2_lt (by omega)).2 (by omega)
  unfold lgF; omega
theorem deep_ok : ∀ n : Fin 300, ∀ h : Fin 12, leastT h ≤ n → (h : Nat) ≤ deepF n := by decide +kernel
theorem deep_le {t : Tr} {n : Nat} (hb : balT t) (hn : t.siz ≤ n) (h : n < 300) : t.dep ≤ deepF n := by
  have h1 := least_siz t hb
  have h2 : t.dep < 12 := by
    refine Nat.lt_of_not_le fun q => ?_
    have := leastT_mono q
    have e : leastT 12 = 376 := by decide +kernel
    omega
  exact deep_ok ⟨n, h⟩ ⟨t.dep, h2⟩ (by simp only; omega)
end Go.Proofs.Ytpndnlnjgnckdaa
