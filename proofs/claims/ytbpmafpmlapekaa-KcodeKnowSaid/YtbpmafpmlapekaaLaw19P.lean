/- Items as bytes, and back: plain laws. -/
import Derived.Test.YtbpmafpmlapekaaParse
import Derived.Test.YtbpmafpmlapekaaIcR
namespace Go.Proofs.Ytbpmafpmlapekaa
open Go.RowKit
theorem dead_num (x : It) : okNum (if x.dead then 1 else 0) := by unfold okNum; split <;> omega
theorem rest_put {x : It} (h : itR x = true) (r : List UInt8) : restSt x.key (restB x ++ r) 0 = (x, r, 0) := by
  obtain ⟨h1, h2, _, _⟩ := itR_nums h
  simp only [itR, keyR, verR, Bool.and_eq_true, decide_eq_true_eq] at h
  obtain ⟨⟨_, h3⟩, h4⟩ := h
  simp only [restNums, List.mem_cons, List.not_mem_nil, or_false, forall_eq_or_imp, forall_eq] at h1
  obtain ⟨a1, a2, a3, a4, a5⟩ := h1
  have e : restB x ++ r = numI x.rep ++ (numI x.cnt ++ (numI x.rank ++ (numI x.prio ++ (numI (if x.dead then 1 else 0) ++ (textB x.body ++ r))))) := by
    simp [restB, restNums, List.append_assoc]
  rw [e]
  dsimp only [restSt]
  rw [within_put a1 (by omega) (by omega)]
  dsimp only
  rw [within_put a2 (by omega) (by omega)]
  dsimp only
  rw [within_put a3 (by omega) (by omega)]
  dsimp only
  rw [within_put a4 (by omega) (by omega)]
  dsimp only
  rw [within_put a5 (by split <;> omega) (by split <;> omega)]
  dsimp only
  rw [text_put (by omega) (by omega), ba_eta]
  obtain ⟨k, a, b, c, d, f, g⟩ := x
  cases f <;> rfl
/-- an item that was put is read as it was -/
theorem rdItem_put {x : It} (h : itR x = true) : rdItem (itB x) = (x, 0) := by
  have hk := (itR_nums h).2.2.2
  dsimp only [rdItem]
  rw [itB, if_pos h]
  rw [text_put (by omega) (by omega)]
  dsimp only
  rw [ba_eta]
  have := rest_put h []
  rw [List.append_nil] at this
  rw [this]
  simp [endSt, h]
theorem rest_back {k : ByteArray} {l : List UInt8} {e : Int} (h : (restSt k l e).2.2 = 0) : e = 0 ∧ l = restB (restSt k l e).1 ++ (restSt k l e).2.1 ∧ (restSt k l e).1.key = k := by
  dsimp only [restSt] at h ⊢
  obtain ⟨g1, _, g2⟩ := text_back h
  obtain ⟨f1, f2, f3, f4, f5⟩ := within_back g1
  obtain ⟨d1, _, _, _, d5⟩ := within_back f1
  obtain ⟨c1, _, _, _, c5⟩ := within_back d1
  obtain ⟨b1, _, _, _, b5⟩ := within_back c1
  obtain ⟨a1, _, _, _, a5⟩ := within_back b1
  refine ⟨a1, ?_, rfl⟩
  generalize textSt 64 _ _ = g at *
  generalize withinSt 0 1 _ _ = f at *
  generalize withinSt 0 255 _ _ = d at *
  generalize withinSt 1 1099511627776 _ _ = c at *
  generalize withinSt 1 1099511627776 _ _ = b at *
  generalize withinSt 1 16 _ _ = a at *
  have hf : (if (f.1 == 1) = true then (1 : Int) else 0) = f.1 := by
    by_cases h : f.1 = 1
    · simp [h]
    · simp [h]; omega
  simp only [restB, restNums, List.flatMap_cons, List.flatMap_nil, List.append_nil, hf, List.append_assoc]
  rw [← g2, ← f5, ← d5, ← c5, ← b5]
  exact a5
/-- what is read was put just so -/
theorem rdItem_back {b : List UInt8} (h : (rdItem b).2 = 0) : itR (rdItem b).1 = true ∧ itB (rdItem b).1 = b := by
  dsimp only [rdItem] at h ⊢
  split at h
  · rename_i hc; exact absurd h hc
  · rename_i hc
    rw [if_neg hc]
    split at h
    · simp at h
    · rename_i hr
      rw [if_neg hr]
      have hr' : itR (restSt ⟨(textSt 16 b 0).1.toArray⟩ (textSt 16 b 0).2.1 (textSt 16 b 0).2.2).1 = true := by simpa using hr
      obtain ⟨e1, e2⟩ := end_back (by simpa using hc)
      obtain ⟨r1, r2, r3⟩ := rest_back e2
      obtain ⟨_, _, t3⟩ := text_back r1
      refine ⟨hr', ?_⟩
      rw [itB, if_pos hr', r3]
      rw [e1, List.append_nil] at r2
      rw [← r2, ← t3]
end Go.Proofs.Ytbpmafpmlapekaa
