/- What is right: keys, versions, items (the program's and the references'). -/
import Derived.Test.YtjohkaonokghbaaVarintRef
namespace Go.Proofs.Ytjohkaonokghbaa
open Go.RowKit

structure It where
  key : ByteArray
  rep : Int
  cnt : Int
  rank : Int
  prio : Int
  dead : Bool
  body : ByteArray
def encV (v : Int × Int) : List Value := [.int .i64 v.1, .int .i64 v.2]
def encIt (x : It) : List Value := [.string x.key, .int .i64 x.rep, .int .i64 x.cnt, .int .i64 x.rank, .int .i64 x.prio, .bool x.dead, .string x.body]
def itV (x : It) : Value := .agg #[.string x.key, .int .i64 x.rep, .int .i64 x.cnt, .int .i64 x.rank, .int .i64 x.prio, .bool x.dead, .string x.body]

def keyR (s : ByteArray) : Bool := decide (1 ≤ s.size ∧ s.size ≤ 16)
def verR (r c : Int) : Bool := decide (1 ≤ r ∧ r ≤ 16 ∧ 1 ≤ c ∧ c ≤ 1099511627776)



def itR (x : It) : Bool := keyR x.key && verR x.rep x.cnt && decide (1 ≤ x.rank ∧ x.rank ≤ 1099511627776 ∧ 0 ≤ x.prio ∧ x.prio ≤ 255 ∧ x.body.size ≤ 64 ∧ (x.dead = true → x.body.size = 0))

set_option maxHeartbeats 400000 in
theorem keyR_any (s : ByteArray) (w : World) :
    Calls Try.prog 92 #[.string s] w fun e w' => e = .returned (.bool (keyR s)) ∧ w = w' := by
  go_enter Try.func92, Try.ntmps92
  go_wp2
  all_goals
    go_ret
    refine ⟨ret_eq (bool_eq ?_), rfl⟩
    rw [keyR, Bool.eq_iff_iff]; simp; omega
set_option maxHeartbeats 400000 in
theorem refKeyR_any (s : ByteArray) (w : World) :
    Calls Try.prog 84 #[.string s] w fun e w' => e = .returned (.bool (keyR s)) ∧ w = w' := by
  go_enter Try.func84, Try.ntmps84
  go_wp2
  all_goals
    go_ret
    refine ⟨ret_eq (bool_eq ?_), rfl⟩
    rw [keyR, Bool.eq_iff_iff]; simp; omega

set_option maxHeartbeats 400000 in
theorem verR_any (r c : Int) (w : World) :
    Calls Try.prog 76 #[.agg #[.int .i64 r, .int .i64 c]] w fun e w' => e = .returned (.bool (verR r c)) ∧ Ext w w' := by
  go_enter Try.func76, Try.ntmps76
  go_wp2
  all_goals
    go_ret
    refine ⟨ret_eq (bool_eq ?_), (Ext.refl _).alloc _⟩
    rw [verR, Bool.eq_iff_iff]; simp; omega
set_option maxHeartbeats 400000 in
theorem refVerR_any (r c : Int) (w : World) :
    Calls Try.prog 67 #[.agg #[.int .i64 r, .int .i64 c]] w fun e w' => e = .returned (.bool (verR r c)) ∧ Ext w w' := by
  go_enter Try.func67, Try.ntmps67
  go_wp2
  all_goals
    go_ret
    refine ⟨ret_eq (bool_eq ?_), (Ext.refl _).alloc _⟩
    rw [verR, Bool.eq_iff_iff]; simp; omega

set_option maxHeartbeats 800000 in
theorem itR_any (x : It) (w : World) :
    Calls Try.prog 82 #[itV x] w fun e w' => e = .returned (.bool (itR x)) ∧ Ext w w' := by
  obtain ⟨key, rep, cnt, rank, prio, dead, body⟩ := x
  unfold itV
  go_enter Try.func82, Try.ntmps82
  go_wp2_with fail
  refine (keyR_any _ _).mono ?_
  rintro e w1 ⟨rfl, rfl⟩
  go_wp2_with (go_at_call 76; refine (verR_any _ _ _).mono ?_; rintro e w1 ⟨rfl, hx⟩; obtain ⟨hc, hf⟩ := (show (∀ b o, b < w.heap.size + 1 → w1.cell? ⟨b, o, none⟩ = _) ∧ _ from ⟨by simpa using hx.cells, by simpa using hx.frozens⟩))
  all_goals
    go_ret
    refine ⟨ret_eq (bool_eq ?_), ?_⟩
    · simp only [itR]
      try simp only [str_empty]
      simp_all
      try omega
    · first | exact (Ext.refl _).alloc _ | exact ((Ext.refl _).alloc _).trans hx

set_option maxHeartbeats 1600000 in
theorem refItR_any (x : It) (w : World) :
    Calls Try.prog 51 #[itV x] w fun e w' => e = .returned (.bool (itR x)) ∧ Ext w w' := by
  obtain ⟨key, rep, cnt, rank, prio, dead, body⟩ := x
  unfold itV
  go_enter Try.func51, Try.ntmps51
  go_wp2_with fail
  refine (refKeyR_any _ _).mono ?_
  rintro e w1 ⟨rfl, rfl⟩
  go_wp2_with (go_at_call 67; refine (refVerR_any _ _ _).mono ?_; rintro e w1 ⟨rfl, hx⟩; obtain ⟨hc, hf⟩ := (show (∀ b o, b < w.heap.size + 1 → w1.cell? ⟨b, o, none⟩ = _) ∧ _ from ⟨by simpa using hx.cells, by simpa using hx.frozens⟩))
  all_goals
    go_ret
    refine ⟨ret_eq (bool_eq ?_), ?_⟩
    · simp only [itR]
      try simp only [str_empty]
      simp_all
      try omega
      try (rw [Bool.eq_iff_iff]; simp only [Bool.not_eq_true', Bool.or_eq_true, decide_eq_true_eq, decide_eq_false_iff_not, ← ByteArray.size_eq_zero_iff]; omega)
    · first | exact (Ext.refl _).alloc _ | exact ((Ext.refl _).alloc _).trans hx

/-- an item's cells in memory -/
def ItAt (w : World) (b o : Nat) (x : It) : Prop :=
  w.cell? ⟨b, o, none⟩ = some (.string x.key) ∧ w.cell? ⟨b, o + 1, none⟩ = some (.int .i64 x.rep) ∧ w.cell? ⟨b, o + 2, none⟩ = some (.int .i64 x.cnt) ∧ w.cell? ⟨b, o + 3, none⟩ = some (.int .i64 x.rank) ∧
  w.cell? ⟨b, o + 4, none⟩ = some (.int .i64 x.prio) ∧ w.cell? ⟨b, o + 5, none⟩ = some (.bool x.dead) ∧ w.cell? ⟨b, o + 6, none⟩ = some (.string x.body)
theorem ItAt.ext {w w' : World} {b o : Nat} {x : It} (h : ItAt w b o x) (he : Ext w w') : ItAt w' b o x := by
  obtain ⟨h0, h1, h2, h3, h4, h5, h6⟩ := h
  exact ⟨he.cell h0, he.cell h1, he.cell h2, he.cell h3, he.cell h4, he.cell h5, he.cell h6⟩
theorem encIt_ok : Enc 7 encIt := ⟨by decide, fun _ => rfl, fun x u hu => by
  simp only [encIt, List.mem_cons, List.not_mem_nil, or_false] at hu
  rcases hu with rfl | rfl | rfl | rfl | rfl | rfl | rfl <;> rfl⟩
abbrev Its (w : World) (v : Value) (l : List It) : Prop := Sl 7 encIt w v l
theorem Its.open {w : World} {v : Value} {l : List It} (h : Its w v l) :
    ∃ a c b o, v = .slice a l.length c ∧ l.length ≤ c ∧ c ≤ maxLen ∧ (0 < l.length → a = some ⟨b, o, none⟩) ∧ ∀ (i : Nat) (h : i < l.length), ItAt w b (o + i * 7) l[i] := by
  obtain ⟨a, c, b, o, hv, h1, h2, h3, h0, h4⟩ := h
  refine ⟨a, c, b, o, hv, h1, h2, h3, fun i hi => ?_⟩
  have := h4 i l[i] (by simp [hi])
  exact ⟨this 0 _ rfl, this 1 _ rfl, this 2 _ rfl, this 3 _ rfl, this 4 _ rfl, this 5 _ rfl, this 6 _ rfl⟩
/-- the box of an item -/
theorem ItAt.box {w : World} (x : It) (T : TypeId) : ItAt (w.alloc (.cells #[.string x.key, .int .i64 x.rep, .int .i64 x.cnt, .int .i64 x.rank, .int .i64 x.prio, .bool x.dead, .string x.body] T)) w.heap.size 0 x := by
  have hc : ∀ j v, (#[.string x.key, .int .i64 x.rep, .int .i64 x.cnt, .int .i64 x.rank, .int .i64 x.prio, .bool x.dead, .string x.body] : Array Value)[j]? = some v →
      (w.alloc (.cells #[.string x.key, .int .i64 x.rep, .int .i64 x.cnt, .int .i64 x.rank, .int .i64 x.prio, .bool x.dead, .string x.body] T)).cell? ⟨w.heap.size, j, none⟩ = some v := by
    intro j v hj
    rw [cell_of_row _ _ _ _ _ _ (heap_alloc_new w _)]; exact hj
  exact ⟨hc 0 _ rfl, hc 1 _ rfl, hc 2 _ rfl, hc 3 _ rfl, hc 4 _ rfl, hc 5 _ rfl, hc 6 _ rfl⟩
end Go.Proofs.Ytjohkaonokghbaa
