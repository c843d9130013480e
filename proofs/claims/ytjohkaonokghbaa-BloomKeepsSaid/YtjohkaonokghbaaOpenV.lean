/- Versions and pairs that came in. -/
import Derived.Test.YtjohkaonokghbaaOpenIt
namespace Go.Proofs.Ytjohkaonokghbaa
open Go.RowKit
theorem Arg.vers {w : World} {v : Value} (h : Arg Try.prog w 51 v) : ∃ l : List (Int × Int), Sl 2 encV w v l := by
  obtain ⟨l, hl, _⟩ := h.flats (k := 2) (enc := encV) (G := fun _ => True) Try.underlying51 (by kernel_rfl) (by decide) (rdVer w) (fun cs ⟨r, c, h1, _⟩ => ⟨(r, c), h1, trivial⟩)
  exact ⟨l, hl⟩
theorem wf_u8 {a : Int} (h : (Lit.int .u8 a).wf = true) : 0 ≤ a ∧ a ≤ 255 := by
  simp [Lit.wf] at h
  have e0 : IntKind.u8.min = 0 := by decide
  have e1 : IntKind.u8.max = 255 := by decide
  omega
theorem Arg.pair8 {w : World} {v : Value} (h : Arg Try.prog w 66 v) : ∃ a b, v = .agg #[.int .u8 a, .int .u8 b] ∧ 0 ≤ a ∧ a ≤ 255 ∧ 0 ≤ b ∧ b ≤ 255 := by
  obtain ⟨cs, rfl⟩ := h.cells (by rw [Try.underlying66])
  obtain ⟨hl, hf⟩ := h.rd _ (Rd.array Try.underlying66 (Rd.int Try.underlying5))
  have e2 : Try.prog.cellsOf 66 = 2 := by kernel_rfl
  have e1 : Try.prog.cellsOf 5 = 1 := by kernel_rfl
  rw [e2] at hl
  rw [e1] at hf
  obtain ⟨l⟩ := cs
  obtain ⟨c0, c1, rfl⟩ := list2 l hl
  obtain ⟨a, h1, w1⟩ := hf 0 (by decide)
  obtain ⟨b, h2, w2⟩ := hf 1 (by decide)
  simp [Value.cells] at h1 h2
  subst h1 h2
  exact ⟨a, b, rfl, (wf_u8 w1).1, (wf_u8 w1).2, (wf_u8 w2).1, (wf_u8 w2).2⟩
theorem Arg.pairI {w : World} {v : Value} (h : Arg Try.prog w 50 v) : ∃ a b, v = .agg #[.int .i64 a, .int .i64 b] ∧ (Lit.int .i64 a).wf = true ∧ (Lit.int .i64 b).wf = true := by
  obtain ⟨cs, rfl⟩ := h.cells (by rw [Try.underlying50])
  obtain ⟨hl, hf⟩ := h.rd _ (Rd.array Try.underlying50 (Rd.int Try.underlying3))
  have e2 : Try.prog.cellsOf 50 = 2 := by kernel_rfl
  have e1 : Try.prog.cellsOf 3 = 1 := by kernel_rfl
  rw [e2] at hl
  rw [e1] at hf
  obtain ⟨l⟩ := cs
  obtain ⟨c0, c1, rfl⟩ := list2 l hl
  obtain ⟨a, h1, w1⟩ := hf 0 (by decide)
  obtain ⟨b, h2, w2⟩ := hf 1 (by decide)
  simp [Value.cells] at h1 h2
  subst h1 h2
  exact ⟨a, b, rfl, w1, w2⟩
end Go.Proofs.Ytjohkaonokghbaa
