/- Ranges and nodes that came in. -/
import Derived.Test.YtbpmafpmlapekaaOpenIt
import Derived.Test.YtbpmafpmlapekaaNd
namespace Go.Proofs.Ytbpmafpmlapekaa
open Go.RowKit
theorem list3 {α : Type} (l : List α) (h : l.length = 3) : ∃ a b c, l = [a, b, c] := by
  match l, h with | [a, b, c], _ => exact ⟨a, b, c, rfl⟩
theorem list4 {α : Type} (l : List α) (h : l.length = 4) : ∃ a b c d, l = [a, b, c, d] := by
  match l, h with | [a, b, c, d], _ => exact ⟨a, b, c, d, rfl⟩
def RgWf (x : Rg) : Prop := x.lo.size ≤ maxLen ∧ x.hi.size ≤ maxLen
def NdWf (x : Nd) : Prop := x.lo.size ≤ maxLen ∧ x.hi.size ≤ maxLen ∧ (Lit.int .i64 x.op).wf = true ∧ (Lit.int .i64 x.kids).wf = true
theorem rdRg (w : World) : Rd Try.prog w 118 (fun cs => ∃ x, cs = encRg x ∧ RgWf x) := by
  refine (Rd.struct' Try.underlying118).mono ?_
  rintro cs ⟨hl, hf⟩
  obtain ⟨c0, c1, c2, rfl⟩ := list3 cs (hl.trans (by kernel_rfl))
  obtain ⟨s0, h0, w0⟩ := hf 0 0 9 1 _ rfl (by kernel_rfl) (Rd.string Try.underlying9)
  obtain ⟨s1, h1, w1⟩ := hf 1 1 9 1 _ rfl (by kernel_rfl) (Rd.string Try.underlying9)
  obtain ⟨b2, h2⟩ := hf 2 2 4 1 _ rfl (by kernel_rfl) (Rd.bool Try.underlying4)
  simp at h0 h1 h2
  subst h0 h1 h2
  exact ⟨⟨s0, s1, b2⟩, rfl, w0, w1⟩
theorem Arg.ranges {w : World} {v : Value} (h : Arg Try.prog w 51 v) : ∃ l, Sl 3 encRg w v l ∧ ∀ x ∈ l, RgWf x :=
  h.flats Try.underlying51 (by kernel_rfl) (by decide) (rdRg w) fun cs ⟨x, h1, h2⟩ => ⟨x, h1, h2⟩
theorem Arg.range {w : World} {v : Value} (h : Arg Try.prog w 118 v) : ∃ x, v = .agg (encRg x).toArray ∧ RgWf x := by
  obtain ⟨cs, rfl⟩ := h.cells (by rw [Try.underlying118])
  obtain ⟨x, h1, h2⟩ := h.rd _ (rdRg w)
  refine ⟨x, ?_, h2⟩
  rw [← h1]; simp [Value.cells]
end Go.Proofs.Ytbpmafpmlapekaa
