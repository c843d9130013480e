/- What is right: keys, versions, items (the program's and the references'). -/
import Derived.Test.YtpndnlnjgnckdaaVarintRef
import Derived.Test.YtpndnlnjgnckdaaIt
namespace Go.Proofs.Ytpndnlnjgnckdaa
open Go.RowKit

set_option maxHeartbeats 400000 in
theorem keyR_any (s : ByteArray) (w : World) :
    Calls Try.prog 50 #[.string s] w fun e w' => e = .returned (.bool (keyR s)) ∧ w = w' := by
  go_enter Try.func50, Try.ntmps50
  go_wp2
  all_goals
    go_ret
    refine ⟨ret_eq (bool_eq ?_), rfl⟩
    rw [keyR, Bool.eq_iff_iff]; simp; omega
set_option maxHeartbeats 400000 in
theorem refKeyR_any (s : ByteArray) (w : World) :
    Calls Try.prog 48 #[.string s] w fun e w' => e = .returned (.bool (keyR s)) ∧ w = w' := by
  go_enter Try.func48, Try.ntmps48
  go_wp2
  all_goals
    go_ret
    refine ⟨ret_eq (bool_eq ?_), rfl⟩
    rw [keyR, Bool.eq_iff_iff]; simp; omega

set_option maxHeartbeats 400000 in
theorem verR_any (r c : Int) (w : World) :
    Calls Try.prog 51 #[.agg #[.int .i64 r, .int .i64 c]] w fun e w' => e = .returned (.bool (verR r c)) ∧ Ext w w' := by
  go_enter Try.func51, Try.ntmps51
  go_wp2
  all_goals
    go_ret
    refine ⟨ret_eq (bool_eq ?_), (Ext.refl _).alloc _⟩
    rw [verR, Bool.eq_iff_iff]; simp; omega
set_option maxHeartbeats 400000 in
theorem refVerR_any (r c : Int) (w : World) :
    Calls Try.prog 49 #[.agg #[.int .i64 r, .int .i64 c]] w fun e w' => e = .returned (.bool (verR r c)) ∧ Ext w w' := by
  go_enter Try.func49, Try.ntmps49
  go_wp2
  all_goals
    go_ret
    refine ⟨ret_eq (bool_eq ?_), (Ext.refl _).alloc _⟩
    rw [verR, Bool.eq_iff_iff]; simp; omega

set_option maxHeartbeats 800000 in
theorem itR_any (x : It) (w : World) :
    Calls Try.prog 31 #[itV x] w fun e w' => e = .returned (.bool (itR x)) ∧ Ext w w' := by
  obtain ⟨key, rep, cnt, rank, prio, dead, body⟩ := x
  unfold itV
  go_enter Try.func31, Try.ntmps31
  go_wp2_with fail
  refine (keyR_any _ _).mono ?_
  rintro e w1 ⟨rfl, rfl⟩
  go_wp2_with (go_at_call 51; refine (verR_any _ _ _).mono ?_; rintro e w1 ⟨rfl, hx⟩; obtain ⟨hc, hf⟩ := (show (∀ b o, b < w.heap.size + 1 → w1.cell? ⟨b, o, none⟩ = _) ∧ _ from ⟨by simpa using hx.cells, by simpa using hx.frozens⟩))
  all_goals
    go_ret
    refine ⟨ret_eq (bool_eq ?_), ?_⟩
    · simp only [itR]
      try simp only [str_empty]
      simp_all
      try omega
    · first | exact (Ext.refl _).alloc _ | exact ((Ext.refl _).alloc _).trans hx

set_option maxHeartbeats 1600000 in
theorem refItR_any (x : It) (w : World) :
    Calls Try.prog 29 #[itV x] w fun e w' => e = .returned (.bool (itR x)) ∧ Ext w w' := by
  obtain ⟨key, rep, cnt, rank, prio, dead, body⟩ := x
  unfold itV
  go_enter Try.func29, Try.ntmps29
  go_wp2_with fail
  refine (refKeyR_any _ _).mono ?_
  rintro e w1 ⟨rfl, rfl⟩
  go_wp2_with (go_at_call 49; refine (refVerR_any _ _ _).mono ?_; rintro e w1 ⟨rfl, hx⟩; obtain ⟨hc, hf⟩ := (show (∀ b o, b < w.heap.size + 1 → w1.cell? ⟨b, o, none⟩ = _) ∧ _ from ⟨by simpa using hx.cells, by simpa using hx.frozens⟩))
  all_goals
    go_ret
    refine ⟨ret_eq (bool_eq ?_), ?_⟩
    · simp only [itR]
      try simp only [str_empty]
      simp_all
      try omega
      try (rw [Bool.eq_iff_iff]; simp only [Bool.not_eq_true', Bool.or_eq_true, decide_eq_true_eq, decide_eq_false_iff_not, ← ByteArray.size_eq_zero_iff]; omega)
    · first | exact (Ext.refl _).alloc _ | exact ((Ext.refl _).alloc _).trans hx

/-- an item's cells in memory -/
def ItAt (w : World) (b o : Nat) (x : It) : Prop :=
  w.cell? ⟨b, o, none⟩ = some (.string x.key) ∧ w.cell? ⟨b, o + 1, none⟩ = some (.int .i64 x.rep) ∧ w.cell? ⟨b, o + 2, none⟩ = some (.int .i64 x.cnt) ∧ w.cell? ⟨b, o + 3, none⟩ = some (.int .i64 x.rank) ∧
  w.cell? ⟨b, o + 4, none⟩ = some (.int .i64 x.prio) ∧ w.cell? ⟨b, o + 5, none⟩ = some (.bool x.dead) ∧ w.cell? ⟨b, o + 6, none⟩ = some (.string x.body)
theorem ItAt.ext {w w' : World} {b o : Nat} {x : It} (h : ItAt w b o x) (he : Ext w w') : ItAt w' b o x := by
  obtain ⟨h0, h1, h2, h3, h4, h5, h6⟩ := h
  exact ⟨he.cell h0, he.cell h1, he.cell h2, he.cell h3, he.cell h4, he.cell h5, he.cell h6⟩
theorem Its.open {w : World} {v : Value} {l : List It} (h : Its w v l) :
    ∃ a c b o, v = .slice a l.length c ∧ l.length ≤ c ∧ c ≤ maxLen ∧ (0 < l.length → a = some ⟨b, o, none⟩) ∧ ∀ (i : Nat) (h : i < l.length), ItAt w b (o + i * 7) l[i] := by
  obtain ⟨a, c, b, o, hv, h1, h2, h3, h0, h4⟩ := h
  refine ⟨a, c, b, o, hv, h1, h2, h3, fun i hi => ?_⟩
  have := h4 i l[i] (by simp [hi])
  exact ⟨this 0 _ rfl, this 1 _ rfl, this 2 _ rfl, this 3 _ rfl, this 4 _ rfl, this 5 _ rfl, this 6 _ rfl⟩
/-- the box of an item -/
theorem ItAt.box {w : World} (x : It) (T : TypeId) : ItAt (w.alloc (.cells #[.string x.key, .int .i64 x.rep, .int .i64 x.cnt, .int .i64 x.rank, .int .i64 x.prio, .bool x.dead, .string x.body] T)) w.heap.size 0 x := by
  have hc : ∀ j v, (#[.string x.key, .int .i64 x.rep, .int .i64 x.cnt, .int .i64 x.rank, .int .i64 x.prio, .bool x.dead, .string x.body] : Array Value)[j]? = some v →
      (w.alloc (.cells #[.string x.key, .int .i64 x.rep, .int .i64 x.cnt, .int .i64 x.rank, .int .i64 x.prio, .bool x.dead, .string x.body] T)).cell? ⟨w.heap.size, j, none⟩ = some v := by
    intro j v hj
    rw [cell_of_row _ _ _ _ _ _ (heap_alloc_new w _)]; exact hj
  exact ⟨hc 0 _ rfl, hc 1 _ rfl, hc 2 _ rfl, hc 3 _ rfl, hc 4 _ rfl, hc 5 _ rfl, hc 6 _ rfl⟩
end Go.Proofs.Ytpndnlnjgnckdaa
