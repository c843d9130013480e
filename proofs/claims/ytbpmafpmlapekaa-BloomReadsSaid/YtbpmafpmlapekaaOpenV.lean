/- Versions and pairs that came in. -/
import Derived.Test.YtbpmafpmlapekaaOpenIt
namespace Go.Proofs.Ytbpmafpmlapekaa
open Go.RowKit
theorem Arg.vers {w : World} {v : Value} (h : Arg Try.prog w 24 v) : ∃ l : List (Int × Int), Sl 2 encV w v l := by
  obtain ⟨l, hl, _⟩ := h.flats (k := 2) (enc := encV) (G := fun _ => True) Try.underlying24 (by kernel_rfl) (by decide) (rdVer w) (fun cs ⟨r, c, h1, _⟩ => ⟨(r, c), h1, trivial⟩)
  exact ⟨l, hl⟩
theorem wf_u8 {a : Int} (h : (Lit.int .u8 a).wf = true) : 0 ≤ a ∧ a ≤ 255 := by
  simp [Lit.wf] at h
  have e0 : IntKind.u8.min = 0 := by decide
  have e1 : IntKind.u8.max = 255 := by decide
  omega
theorem Arg.pairI {w : World} {v : Value} (h : Arg Try.prog w 22 v) : ∃ a b, v = .agg #[.int .i64 a, .int .i64 b] ∧ (Lit.int .i64 a).wf = true ∧ (Lit.int .i64 b).wf = true := by
  obtain ⟨cs, rfl⟩ := h.cells (by rw [Try.underlying22])
  obtain ⟨hl, hf⟩ := h.rd _ (Rd.array Try.underlying22 (Rd.int Try.underlying3))
  have e2 : Try.prog.cellsOf 22 = 2 := by kernel_rfl
  have e1 : Try.prog.cellsOf 3 = 1 := by kernel_rfl
  rw [e2] at hl
  rw [e1] at hf
  obtain ⟨l⟩ := cs
  obtain ⟨c0, c1, rfl⟩ := list2 l hl
  obtain ⟨a, h1, w1⟩ := hf 0 (by decide)
  obtain ⟨b, h2, w2⟩ := hf 1 (by decide)
  simp [Value.cells] at h1 h2
  subst h1 h2
  exact ⟨a, b, rfl, w1, w2⟩
end Go.Proofs.Ytbpmafpmlapekaa
