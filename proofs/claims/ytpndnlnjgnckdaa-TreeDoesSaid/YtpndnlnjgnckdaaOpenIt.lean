/- Items and versions that came in. -/
import Derived.Test.YtpndnlnjgnckdaaOpen
import Derived.Test.YtpndnlnjgnckdaaIt
import Derived.Test.YtpndnlnjgnckdaaRows
namespace Go.Proofs.Ytpndnlnjgnckdaa
open Go.RowKit

theorem list7 {α : Type} (l : List α) (h : l.length = 7) : ∃ a b c d e f g, l = [a, b, c, d, e, f, g] := by
  match l, h with | [a, b, c, d, e, f, g], _ => exact ⟨a, b, c, d, e, f, g, rfl⟩
theorem list2 {α : Type} (l : List α) (h : l.length = 2) : ∃ a b, l = [a, b] := by
  match l, h with | [a, b], _ => exact ⟨a, b, rfl⟩

theorem rdVer (w : World) : Rd Try.prog w 33 (fun cs => ∃ r c, cs = [Value.int .i64 r, .int .i64 c] ∧ (Lit.int .i64 r).wf = true ∧ (Lit.int .i64 c).wf = true) := by
  refine (Rd.struct' Try.underlying33).mono ?_
  rintro cs ⟨hl, hf⟩
  obtain ⟨c0, c1, rfl⟩ := list2 cs (hl.trans (by kernel_rfl))
  obtain ⟨r, h1, w1⟩ := hf 0 0 3 1 _ rfl (by kernel_rfl) (Rd.int Try.underlying3)
  obtain ⟨c, h2, w2⟩ := hf 1 1 3 1 _ rfl (by kernel_rfl) (Rd.int Try.underlying3)
  simp at h1 h2
  subst h1 h2
  exact ⟨r, c, rfl, w1, w2⟩

/-- the numbers and texts of an item that came in -/
def ItWf (x : It) : Prop := x.key.size ≤ maxLen ∧ x.body.size ≤ maxLen ∧ (Lit.int .i64 x.rep).wf = true ∧ (Lit.int .i64 x.cnt).wf = true ∧ (Lit.int .i64 x.rank).wf = true ∧ (Lit.int .i64 x.prio).wf = true

theorem rdIt (w : World) : Rd Try.prog w 35 (fun cs => ∃ x, cs = encIt x ∧ ItWf x) := by
  refine (Rd.struct' Try.underlying35).mono ?_
  rintro cs ⟨hl, hf⟩
  obtain ⟨c0, c1, c2, c3, c4, c5, c6, rfl⟩ := list7 cs (hl.trans (by kernel_rfl))
  obtain ⟨s0, h0, w0⟩ := hf 0 0 9 1 _ rfl (by kernel_rfl) (Rd.string Try.underlying9)
  obtain ⟨r, c, h1, w1, w1'⟩ := hf 1 1 33 2 _ rfl (by kernel_rfl) (rdVer w)
  obtain ⟨n2, h2, w2⟩ := hf 2 3 3 1 _ rfl (by kernel_rfl) (Rd.int Try.underlying3)
  obtain ⟨n3, h3, w3⟩ := hf 3 4 3 1 _ rfl (by kernel_rfl) (Rd.int Try.underlying3)
  obtain ⟨b4, h4⟩ := hf 4 5 4 1 _ rfl (by kernel_rfl) (Rd.bool Try.underlying4)
  obtain ⟨s5, h5, w5⟩ := hf 5 6 9 1 _ rfl (by kernel_rfl) (Rd.string Try.underlying9)
  simp at h0 h1 h2 h3 h4 h5
  obtain ⟨rfl, rfl⟩ := h1
  subst h0 h2 h3 h4 h5
  exact ⟨⟨s0, r, c, n2, n3, b4, s5⟩, rfl, w0, w5, w1, w1', w2, w3⟩

theorem Arg.items {w : World} {v : Value} (h : Arg Try.prog w 22 v) : ∃ l, Its w v l ∧ ∀ x ∈ l, ItWf x :=
  h.flats Try.underlying22 (by kernel_rfl) (by decide) (rdIt w) fun cs ⟨x, h1, h2⟩ => ⟨x, h1, h2⟩
theorem Arg.item {w : World} {v : Value} (h : Arg Try.prog w 35 v) : ∃ x, v = .agg (encIt x).toArray ∧ ItWf x := by
  obtain ⟨cs, rfl⟩ := h.cells (by rw [Try.underlying35])
  obtain ⟨x, h1, h2⟩ := h.rd _ (rdIt w)
  refine ⟨x, ?_, h2⟩
  rw [← h1]; simp [Value.cells]
end Go.Proofs.Ytpndnlnjgnckdaa
