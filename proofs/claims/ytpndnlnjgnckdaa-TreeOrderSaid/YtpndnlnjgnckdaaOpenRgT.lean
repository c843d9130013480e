/- A range that came in. -/
import Derived.Test.YtpndnlnjgnckdaaOpenIt
import Derived.Test.YtpndnlnjgnckdaaRg
namespace Go.Proofs.Ytpndnlnjgnckdaa
open Go.RowKit
theorem list3 {α : Type} (l : List α) (h : l.length = 3) : ∃ a b c, l = [a, b, c] := by
  match l, h with | [a, b, c], _ => exact ⟨a, b, c, rfl⟩
def RgWf (x : Rg) : Prop := x.lo.size ≤ maxLen ∧ x.hi.size ≤ maxLen
theorem rdRg (w : World) : Rd Try.prog w 24 (fun cs => ∃ x, cs = encRg x ∧ RgWf x) := by
  refine (Rd.struct' Try.underlying24).mono ?_
  rintro cs ⟨hl, hf⟩
  obtain ⟨c0, c1, c2, rfl⟩ := list3 cs (hl.trans (by kernel_rfl))
  obtain ⟨s0, h0, w0⟩ := hf 0 0 9 1 _ rfl (by kernel_rfl) (Rd.string Try.underlying9)
  obtain ⟨s1, h1, w1⟩ := hf 1 1 9 1 _ rfl (by kernel_rfl) (Rd.string Try.underlying9)
  obtain ⟨b2, h2⟩ := hf 2 2 4 1 _ rfl (by kernel_rfl) (Rd.bool Try.underlying4)
  simp at h0 h1 h2
  subst h0 h1 h2
  exact ⟨⟨s0, s1, b2⟩, rfl, w0, w1⟩
theorem Arg.range {w : World} {v : Value} (h : Arg Try.prog w 24 v) : ∃ x, v = .agg (encRg x).toArray ∧ RgWf x := by
  obtain ⟨cs, rfl⟩ := h.cells (by rw [Try.underlying24])
  obtain ⟨x, h1, h2⟩ := h.rd _ (rdRg w)
  refine ⟨x, ?_, h2⟩
  rw [← h1]; simp [Value.cells]
end Go.Proofs.Ytpndnlnjgnckdaa
