/- For every list of doings, every range and every pair of numbers the law TreeSums returns true, and its arguments read as before. -/
import Derived.Test.YtpndnlnjgnckdaaTrU
import Derived.Test.YtpndnlnjgnckdaaOpenRgT
namespace Go.Proofs.Ytpndnlnjgnckdaa
open Go.RowKit
theorem wf_u64 {a : Int} (h : (Lit.int .u64 a).wf = true) : 0 ≤ a ∧ a < 18446744073709551616 := by
  simp [Lit.wf] at h
  have e0 : IntKind.u64.min = 0 := by decide
  have e1 : IntKind.u64.max = 18446744073709551615 := by decide
  omega
theorem Arg.pairU {w : World} {v : Value} (h : Arg Try.prog w 43 v) : ∃ a b, v = .agg #[.int .u64 a, .int .u64 b] ∧ (0 ≤ a ∧ a < 18446744073709551616) ∧ (0 ≤ b ∧ b < 18446744073709551616) := by
  obtain ⟨cs, rfl⟩ := h.cells (by rw [Try.underlying43])
  obtain ⟨hl, hf⟩ := h.rd _ (Rd.array Try.underlying43 (Rd.int Try.underlying25))
  have e2 : Try.prog.cellsOf 43 = 2 := by kernel_rfl
  have e1 : Try.prog.cellsOf 25 = 1 := by kernel_rfl
  rw [e2] at hl
  rw [e1] at hf
  obtain ⟨l⟩ := cs
  obtain ⟨c0, c1, rfl⟩ := list2 l hl
  obtain ⟨a, h1, w1⟩ := hf 0 (by decide)
  obtain ⟨b, h2, w2⟩ := hf 1 (by decide)
  simp [Value.cells] at h1 h2
  subst h1 h2
  exact ⟨a, b, rfl, wf_u64 w1, wf_u64 w2⟩
end Go.Proofs.Ytpndnlnjgnckdaa
namespace Go.Proofs.Ytpndnlnjgnckdaa.treeSums
open Go.RowKit Go.Proofs.Ytpndnlnjgnckdaa
theorem walk0 (w : World) (args : Array Value) (h : Args Try.prog w Try.f4.params.toList args.toList) :
    Calls Try.prog 4 args w fun e w' => e = .returned (.bool true) ∧ Ext w w' := by
  obtain ⟨v0, v1, v2, rfl, h0, h1, h2⟩ := Args.three (t0 := 42) (t1 := 24) (t2 := 43) h
  obtain ⟨l, hl⟩ := h0.dts
  obtain ⟨r, rfl, _⟩ := h1.range
  obtain ⟨a, b, rfl, _, hb⟩ := h2.pairU
  exact run3 (law_treeSums l r a b hb) (in_lst encDt_ok hl) (in_agg (vs := encRg r) (encRg_ok.one r)) (in_agg (vs := [.int .u64 a, .int .u64 b]) (by intro u hu; simp at hu; rcases hu with rfl | rfl <;> rfl))
theorem ownKnob0 : ownKnob Try.prog.godebug = none := by kernel_rfl
theorem laidOut0 : laidOutB Try.prog = true := by kernel_rfl
set_option maxRecDepth 100000 in
theorem lifted0 (os : Os) (started : os.Started) (H : Type) (enc : TypeId × Value → H) :
    ReturnsInHanded {} Try.checked os 4 .any (Rows.treeSumsSpec.pre6 enc Try.prog Try.f4 Rows.treeSumsRow.domain false) (Rows.treeSumsSpec.post enc Try.prog Try.f4 false true false false) :=
  law_lifted (C := Try.checked) (T := 4) ownKnob0 laidOut0 (by kernel_rfl) Try.func4 (by kernel_rfl) Try.underlying4 (by kernel_rfl) rfl
    (fun H ds hds => by have h : ds.length = 3 := hds; match ds, h with | [_, _, _], _ => exact ⟨rfl, rfl, rfl⟩) walk0 os started H enc
    (ChangeSpec.witness6 (enc := enc) (C := Try.checked) false ⟨#[], #[.slice none 0 0, .agg #[.string ⟨#[]⟩, .string ⟨#[]⟩, .bool false], .agg #[.int .u64 0, .int .u64 0]], []⟩ 8 (by kernel_rfl) (by kernel_rfl) (by kernel_rfl) (by kernel_rfl))
theorem proved : Rows.TreeSumsSaid :=
  OpenClaim.holds_of_wide 4 Try.f4 rfl rfl rfl rfl rfl rfl rfl ⟨rfl, rfl, rfl, rfl, rfl⟩ rfl rfl rfl rfl rfl (by kernel_rfl) Try.func4 (by kernel_rfl)
    (of_decide_eq_true (by kernel_rfl)) (by unfold Func.isWrapper; first | (rw [if_pos (by decide +kernel)]; kernel_rfl) | (rw [if_neg (by decide +kernel)]; exact ⟨rfl, rfl⟩))
    (fun os started H enc _ => lifted0 os started H enc)
#print axioms proved
end Go.Proofs.Ytpndnlnjgnckdaa.treeSums
