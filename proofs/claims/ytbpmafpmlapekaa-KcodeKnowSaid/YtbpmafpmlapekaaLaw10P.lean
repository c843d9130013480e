/- Ranges and filters as bytes, and back: plain laws. -/
import Derived.Test.YtbpmafpmlapekaaFcR
namespace Go.Proofs.Ytbpmafpmlapekaa
open Go.RowKit
theorem ls_put {α : Type} {st : List UInt8 → Int → α × List UInt8 × Int} {B : α → List UInt8} : ∀ (l acc : List α) (r : List UInt8), (∀ x ∈ l, ∀ r, st (B x ++ r) 0 = (x, r, 0)) → lsSt st l.length acc (l.flatMap B ++ r) 0 = (acc ++ l, r, 0) := by
  intro l
  induction l with
  | nil => intro acc r _; simp [lsSt]
  | cons x l ih =>
    intro acc r h
    rw [List.length_cons, lsSt, if_neg (by simp), List.flatMap_cons, List.append_assoc, h x List.mem_cons_self]
    rw [ih _ _ (fun y hy => h y (List.mem_cons_of_mem _ hy))]
    simp
theorem ls_back {α : Type} {st : List UInt8 → Int → α × List UInt8 × Int} {B : α → List UInt8} (h : ∀ l e, (st l e).2.2 = 0 → e = 0 ∧ l = B (st l e).1 ++ (st l e).2.1) :
    ∀ (n : Nat) (acc : List α) (l : List UInt8) (e : Int), (lsSt st n acc l e).2.2 = 0 → e = 0 ∧ ∃ m : List α, (lsSt st n acc l e).1 = acc ++ m ∧ m.length = n ∧ l = m.flatMap B ++ (lsSt st n acc l e).2.1 := by
  intro n
  induction n with
  | zero => intro acc l e h0; exact ⟨h0, [], by simp [lsSt], rfl, by simp [lsSt]⟩
  | succ n ih =>
    intro acc l e h0
    unfold lsSt at h0 ⊢
    by_cases he : e = 0
    · subst he
      rw [if_neg (by simp)] at h0 ⊢
      obtain ⟨g1, m, g2, g3, g4⟩ := ih _ _ _ h0
      obtain ⟨_, r2⟩ := h l 0 g1
      refine ⟨rfl, (st l 0).1 :: m, by rw [g2]; simp, by simp [g3], ?_⟩
      rw [List.flatMap_cons, List.append_assoc, ← g4]
      exact r2
    · rw [if_pos he] at h0
      exact absurd h0 he
theorem list_put {α : Type} {st : List UInt8 → Int → α × List UInt8 × Int} {B : α → List UInt8} {ok : List α → Prop} [DecidablePred ok] {most : Int} {l : List α} (h : ∀ x ∈ l, ∀ r, st (B x ++ r) 0 = (x, r, 0)) (hl : (l.length : Int) ≤ most) (hm : most ≤ 1000000) (hok : ok l) :
    finL ok (lisSt st most (numI (l.length : Nat) ++ l.flatMap B) 0) = (l, 0) := by
  unfold lisSt
  rw [within_put (by unfold okNum; omega) (by omega) hl]
  dsimp only
  rw [Int.toNat_natCast]
  have := ls_put (st := st) (B := B) l [] [] h
  rw [List.append_nil] at this
  rw [this]
  simp [finL, endSt, hok]
theorem list_back {α : Type} {st : List UInt8 → Int → α × List UInt8 × Int} {B : α → List UInt8} {ok : List α → Prop} [DecidablePred ok] {most : Int} {b : List UInt8} (h : ∀ l e, (st l e).2.2 = 0 → e = 0 ∧ l = B (st l e).1 ++ (st l e).2.1)
    (h0 : (finL ok (lisSt st most b 0)).2 = 0) : ok (finL ok (lisSt st most b 0)).1 ∧ ((finL ok (lisSt st most b 0)).1.length : Int) ≤ most ∧ numI ((finL ok (lisSt st most b 0)).1.length : Nat) ++ (finL ok (lisSt st most b 0)).1.flatMap B = b := by
  unfold finL at h0 ⊢
  split at h0
  · rename_i hc; exact absurd h0 hc
  · rename_i hc
    rw [if_neg hc]
    split at h0
    · rename_i hk
      rw [if_pos hk]
      obtain ⟨e1, e2⟩ := end_back (by simpa using hc)
      unfold lisSt at e1 e2 hk ⊢
      obtain ⟨g1, m, g3, g4, g6⟩ := ls_back h _ _ _ _ e2
      obtain ⟨_, w2, w3, w4, w5⟩ := within_back g1
      refine ⟨hk, ?_, ?_⟩
      · rw [g3]; simp; omega
      · rw [e1, List.append_nil] at g6
        simp only [g3, List.nil_append]
        rw [g4, ← g6, Int.toNat_of_nonneg w3, ← w5]
    · cases h0
theorem ba_eq {s : ByteArray} : ba s.data.toList = s := ba_eta s
theorem rg_put {r : Rg} (h : rgR r = true) (x : List UInt8) : rgSt (rgB r ++ x) 0 = (r, x, 0) := by
  obtain ⟨h1, h2, h3⟩ := (rgR_iff r).1 h
  obtain ⟨lo, hi, op⟩ := r
  simp only at h1 h2 h3
  dsimp only [rgSt, rgB]
  cases op with
  | true =>
    simp only [if_true] at h3 ⊢
    subst h3
    rw [List.append_assoc, text_put (by omega) (by omega)]
    dsimp only
    rw [within_put (by unfold okNum; omega) (by omega) (by omega)]
    dsimp only
    rw [if_pos (by decide), ba_eq]
  | false =>
    simp only [Bool.false_eq_true, if_false]
    rw [List.append_assoc, text_put (by omega) (by omega)]
    dsimp only
    rw [List.append_assoc, within_put (by unfold okNum; omega) (by omega) (by omega)]
    dsimp only
    rw [if_neg (by decide), text_put (by omega) (by omega)]
    dsimp only
    rw [ba_eq, ba_eq]
theorem rg_back {l : List UInt8} {e : Int} (h : (rgSt l e).2.2 = 0) : e = 0 ∧ l = rgB (rgSt l e).1 ++ (rgSt l e).2.1 := by
  dsimp only [rgSt] at h ⊢
  split at h
  · rename_i ho
    rw [if_pos ho]
    obtain ⟨o1, _, _, _, o5⟩ := within_back h
    obtain ⟨t1, _, t3⟩ := text_back o1
    rw [beq_iff_eq] at ho
    rw [ho] at o5
    refine ⟨t1, ?_⟩
    simp only [rgB, if_true]
    rw [List.append_assoc, ← o5]
    exact t3
  · rename_i ho
    rw [if_neg ho]
    obtain ⟨h1, _, h3⟩ := text_back h
    obtain ⟨o1, _, o3, o4, o5⟩ := within_back h1
    obtain ⟨t1, _, t3⟩ := text_back o1
    have ho' : (withinSt 0 1 (textSt 17 l e).2.1 (textSt 17 l e).2.2).1 = 0 := by
      have : (withinSt 0 1 (textSt 17 l e).2.1 (textSt 17 l e).2.2).1 ≠ 1 := by simpa using ho
      omega
    rw [ho'] at o5
    refine ⟨t1, ?_⟩
    simp only [rgB, Bool.false_eq_true, if_false]
    rw [List.append_assoc, List.append_assoc]
    unfold ba
    rw [← h3, ← o5]
    exact t3
theorem nd_put {n : Nd} (h : ndR n = true) (x : List UInt8) : ndSt (ndB n ++ x) 0 = (n, x, 0) := by
  have hz := ndR_sizes h
  have hk := ndR_kids h
  rw [ndR_iff] at h
  obtain ⟨op, kids, lo, hi⟩ := n
  simp only at hz hk h
  dsimp only [ndSt, ndB]
  rw [List.append_assoc, within_put (by unfold okNum; omega) (by omega) (by omega)]
  dsimp only
  rcases h with ⟨a, b, c, d⟩ | ⟨a, b, c, d⟩ | ⟨a, b, c⟩ | ⟨a, b, c, d⟩ | ⟨a, b, c, d⟩ | ⟨a, b, b', c, d⟩
  · simp only [if_neg (show ¬ (op = 3 ∨ op = 5) by omega), if_neg (show ¬ op = 4 by omega), if_neg (show ¬ op = 6 by omega), if_neg (show ¬ (op = 7 ∨ op = 8) by omega), List.nil_append, b, c, d]
  · simp only [if_pos (show op = 3 ∨ op = 5 by omega)]
    rw [text_put (by omega) (by omega)]
    dsimp only
    rw [ba_eq, b, d]
  · simp only [if_neg (show ¬ (op = 3 ∨ op = 5) by omega), if_pos (show op = 4 by omega)]
    rw [List.append_assoc, text_put (by omega) (by omega)]
    dsimp only
    rw [text_put (by omega) (by omega)]
    dsimp only
    rw [ba_eq, ba_eq, b]
  · simp only [if_pos (show op = 3 ∨ op = 5 by omega)]
    rw [text_put (by omega) (by omega)]
    dsimp only
    rw [ba_eq, b, d]
  · simp only [if_neg (show ¬ (op = 3 ∨ op = 5) by omega), if_neg (show ¬ op = 4 by omega), if_pos (show op = 6 by omega), if_neg (show ¬ (op = 7 ∨ op = 8) by omega), List.nil_append, b, c, d]
  · simp only [if_neg (show ¬ (op = 3 ∨ op = 5) by omega), if_neg (show ¬ op = 4 by omega), if_neg (show ¬ op = 6 by omega), if_pos (show op = 7 ∨ op = 8 by omega)]
    rw [within_put (by unfold okNum; omega) (by omega) (by omega), c, d]
theorem nd_back {l : List UInt8} {e : Int} (h : (ndSt l e).2.2 = 0) : e = 0 ∧ l = ndB (ndSt l e).1 ++ (ndSt l e).2.1 := by
  dsimp only [ndSt] at h ⊢
  split at h
  · rename_i c1
    rw [if_pos c1]
    obtain ⟨t1, _, t3⟩ := text_back h
    obtain ⟨o1, _, _, _, o5⟩ := within_back t1
    refine ⟨o1, ?_⟩
    simp only [ndB]
    rw [if_pos c1, List.append_assoc]
    unfold ba
    rw [← t3]
    exact o5
  · rename_i c1
    rw [if_neg c1]
    split at h
    · rename_i c2
      rw [if_pos c2]
      obtain ⟨h1, _, h3⟩ := text_back h
      obtain ⟨t1, _, t3⟩ := text_back h1
      obtain ⟨o1, _, _, _, o5⟩ := within_back t1
      refine ⟨o1, ?_⟩
      simp only [ndB]
      rw [if_neg c1, if_pos c2, List.append_assoc, List.append_assoc]
      unfold ba
      rw [← h3, ← t3]
      exact o5
    · rename_i c2
      rw [if_neg c2]
      split at h
      · rename_i c3
        rw [if_pos c3]
        obtain ⟨o1, _, _, _, o5⟩ := within_back h
        refine ⟨o1, ?_⟩
        simp only [ndB]
        rw [if_neg c1, if_neg c2, if_neg (by omega), List.append_nil]
        exact o5
      · rename_i c3
        rw [if_neg c3]
        split at h
        · rename_i c4
          rw [if_pos c4]
          obtain ⟨k1, _, _, _, k5⟩ := within_back h
          obtain ⟨o1, _, _, _, o5⟩ := within_back k1
          refine ⟨o1, ?_⟩
          simp only [ndB]
          rw [if_neg c1, if_neg c2, if_pos c4, List.append_assoc, ← k5]
          exact o5
        · rename_i c4
          rw [if_neg c4]
          obtain ⟨o1, _, _, _, o5⟩ := within_back h
          refine ⟨o1, ?_⟩
          simp only [ndB]
          rw [if_neg c1, if_neg c2, if_neg c4, List.append_nil]
          exact o5
theorem rdRgs_put {l : List Rg} (h : rgsOk l) (hl : l.length ≤ 4096) : rdRgs (rgsBy l) = (l, 0) :=
  list_put (fun x hx r => by
    obtain ⟨i, hi, rfl⟩ := List.getElem_of_mem hx
    exact rg_put (rgsOk_R h hi) r) (by omega) (by omega) h
theorem rdNds_put {l : List Nd} (h : ndsOk l) : rdNds (ndsBy l) = (l, 0) :=
  list_put (fun x hx r => nd_put (goN_R l 0 1 h.2 x hx) r) (by have := h.1; omega) (by omega) h
theorem rdRgs_back {b : List UInt8} (h : (rdRgs b).2 = 0) : rgsOk (rdRgs b).1 ∧ ((rdRgs b).1.length : Int) ≤ 4096 ∧ rgsBy (rdRgs b).1 = b := list_back (fun _ _ => rg_back) h
theorem rdNds_back {b : List UInt8} (h : (rdNds b).2 = 0) : ndsOk (rdNds b).1 ∧ ((rdNds b).1.length : Int) ≤ 32 ∧ ndsBy (rdNds b).1 = b := list_back (fun _ _ => nd_back) h
theorem finL_len {α : Type} {ok : List α → Prop} [DecidablePred ok] {r : List α × List UInt8 × Int} : (finL ok r).1.length ≤ r.1.length := by
  unfold finL
  split
  · simp
  · split
    · exact Nat.le_refl _
    · simp
theorem rdRgs_len (b : List UInt8) : (rdRgs b).1.length ≤ 4096 := by
  have h1 := finL_len (ok := rgsOk) (r := lisSt rgSt 4096 b 0)
  have h2 := lisSt_len (st := rgSt) (most := 4096) (by omega) b 0
  unfold rdRgs; omega
theorem rdNds_len (b : List UInt8) : (rdNds b).1.length ≤ 32 := by
  have h1 := finL_len (ok := ndsOk) (r := lisSt ndSt 32 b 0)
  have h2 := lisSt_len (st := ndSt) (most := 32) (by omega) b 0
  unfold rdNds; omega
theorem flat_len {α : Type} {B : α → List UInt8} : ∀ l : List α, (∀ x ∈ l, (B x).length ≤ 40) → (l.flatMap B).length ≤ 40 * l.length := by
  intro l
  induction l with
  | nil => intro _; simp
  | cons x l ih =>
    intro h
    have h1 := h x List.mem_cons_self
    have h2 := ih (fun y hy => h y (List.mem_cons_of_mem _ hy))
    rw [List.flatMap_cons, List.length_append, List.length_cons]; omega
theorem rgsBy_len {l : List Rg} (h : rgsOk l) (hl : l.length ≤ 4096) : (rgsBy l).length ≤ 10 + 40 * l.length := by
  have h1 := flat_len (B := rgB) l (fun x hx => by
    obtain ⟨i, hi, rfl⟩ := List.getElem_of_mem hx
    exact rgB_len (rgsOk_R h hi))
  have h2 := numI_len (l.length : Int) (by omega)
  unfold rgsBy
  rw [List.length_append]; omega
theorem ndsBy_len {l : List Nd} (h : ndsOk l) : (ndsBy l).length ≤ 10 + 40 * l.length := by
  have h1 := flat_len (B := ndB) l (fun x hx => ndB_len (goN_R l 0 1 h.2 x hx))
  have h2 := numI_len (l.length : Int) (by have := h.1; omega)
  unfold ndsBy
  rw [List.length_append]; omega
end Go.Proofs.Ytbpmafpmlapekaa
