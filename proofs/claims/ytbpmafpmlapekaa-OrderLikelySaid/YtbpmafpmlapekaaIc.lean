/- Items as bytes (icode's Item, Size), by abstract walks. -/
import Derived.Test.YtbpmafpmlapekaaVar
import Derived.Test.YtbpmafpmlapekaaBase
namespace Go.Proofs.Ytbpmafpmlapekaa
open Go.RowKit
def restNums (x : It) : List Int := [x.rep, x.cnt, x.rank, x.prio, if x.dead then 1 else 0]
def restB (x : It) : List UInt8 := (restNums x).flatMap numI ++ textB x.body
/-- an item's bytes, or none -/
def itB (x : It) : List UInt8 := if itR x then textB x.key ++ restB x else []
theorem itR_nums {x : It} (h : itR x = true) : (∀ n ∈ restNums x, okNum n) ∧ x.body.size ≤ 64 ∧ 1 ≤ x.key.size ∧ x.key.size ≤ 16 := by
  simp only [itR, keyR, verR, Bool.and_eq_true, decide_eq_true_eq] at h
  obtain ⟨⟨h1, h2⟩, h3⟩ := h
  refine ⟨?_, by omega, by omega, by omega⟩
  intro n hn
  simp only [restNums, List.mem_cons, List.not_mem_nil, or_false] at hn
  unfold okNum
  rcases hn with rfl | rfl | rfl | rfl | rfl
  · omega
  · omega
  · omega
  · omega
  · split <;> omega
theorem textB_len (s : ByteArray) (h : s.size ≤ 127) : (textB s).length = 1 + s.size := by
  unfold textB; rw [numB_lt (by omega)]; simp; omega

theorem take_snoc' {α : Type} (l : List α) (k : Nat) (h : k < l.length) : l.take (k + 1) = l.take k ++ [l[k]] := by rw [List.take_succ_eq_append_getElem h]
abbrev itsP (l : List It) : PV := lstP 7 (l.map itP)
abbrev itsB (l : List It) : Cnt := .bor 7 (l.map itP)
theorem itB_len (x : It) : (itB x).length ≤ 200 := by
  unfold itB
  split
  · rename_i h
    obtain ⟨h1, h2, h3, h4⟩ := itR_nums h
    have h5 := nums_len _ h1
    have h6 := textB_len x.body (by omega)
    have h7 := textB_len x.key (by omega)
    have h8 : (restNums x).length = 5 := rfl
    simp only [restB, List.length_append]; omega
  · simp
end Go.Proofs.Ytbpmafpmlapekaa
