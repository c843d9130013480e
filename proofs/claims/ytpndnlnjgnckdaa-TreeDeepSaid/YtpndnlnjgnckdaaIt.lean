/- Items: what they are, and which are right. -/
import Derived.Test.YtpndnlnjgnckdaaLib
namespace Go.Proofs.Ytpndnlnjgnckdaa
open Go.RowKit
structure It where
  key : ByteArray
  rep : Int
  cnt : Int
  rank : Int
  prio : Int
  dead : Bool
  body : ByteArray
deriving DecidableEq
def encV (v : Int × Int) : List Value := [.int .i64 v.1, .int .i64 v.2]
def encIt (x : It) : List Value := [.string x.key, .int .i64 x.rep, .int .i64 x.cnt, .int .i64 x.rank, .int .i64 x.prio, .bool x.dead, .string x.body]
def itV (x : It) : Value := .agg #[.string x.key, .int .i64 x.rep, .int .i64 x.cnt, .int .i64 x.rank, .int .i64 x.prio, .bool x.dead, .string x.body]
def keyR (s : ByteArray) : Bool := decide (1 ≤ s.size ∧ s.size ≤ 16)
def verR (r c : Int) : Bool := decide (1 ≤ r ∧ r ≤ 16 ∧ 1 ≤ c ∧ c ≤ 1099511627776)
def itR (x : It) : Bool := keyR x.key && verR x.rep x.cnt && decide (1 ≤ x.rank ∧ x.rank ≤ 1099511627776 ∧ 0 ≤ x.prio ∧ x.prio ≤ 255 ∧ x.body.size ≤ 64 ∧ (x.dead = true → x.body.size = 0))
theorem encIt_ok : Enc 7 encIt := ⟨by decide, fun _ => rfl, fun x u hu => by
  simp only [encIt, List.mem_cons, List.not_mem_nil, or_false] at hu
  rcases hu with rfl | rfl | rfl | rfl | rfl | rfl | rfl <;> rfl⟩
abbrev Its (w : World) (v : Value) (l : List It) : Prop := Sl 7 encIt w v l
end Go.Proofs.Ytpndnlnjgnckdaa
