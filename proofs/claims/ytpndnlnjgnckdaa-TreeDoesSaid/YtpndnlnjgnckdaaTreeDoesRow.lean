/- For every list of doings, every text and every place the law TreeDoes returns true, and its arguments read as before. -/
import Derived.Test.YtpndnlnjgnckdaaTrV
import Derived.Test.YtpndnlnjgnckdaaOpenDt
namespace Go.Proofs.Ytpndnlnjgnckdaa.treeDoes
open Go.RowKit Go.Proofs.Ytpndnlnjgnckdaa
theorem walk0 (w : World) (args : Array Value) (h : Args Try.prog w Try.f5.params.toList args.toList) :
    Calls Try.prog 5 args w fun e w' => e = .returned (.bool true) ∧ Ext w w' := by
  obtain ⟨v0, v1, v2, rfl, h0, h1, h2⟩ := Args.three (t0 := 42) (t1 := 9) (t2 := 3) h
  obtain ⟨l, hl⟩ := h0.dts
  obtain ⟨k, rfl, _⟩ := h1.string Try.underlying9
  obtain ⟨i, rfl, _⟩ := h2.int Try.underlying3
  exact run3 (law_treeDoes l k i) (in_lst encDt_ok hl) in_raw in_raw
theorem ownKnob0 : ownKnob Try.prog.godebug = none := by kernel_rfl
theorem laidOut0 : laidOutB Try.prog = true := by kernel_rfl
set_option maxRecDepth 100000 in
theorem lifted0 (os : Os) (started : os.Started) (H : Type) (enc : TypeId × Value → H) :
    ReturnsInHanded {} Try.checked os 5 .any (Rows.treeDoesSpec.pre6 enc Try.prog Try.f5 Rows.treeDoesRow.domain false) (Rows.treeDoesSpec.post enc Try.prog Try.f5 false true false false) :=
  law_lifted (C := Try.checked) (T := 4) ownKnob0 laidOut0 (by kernel_rfl) Try.func5 (by kernel_rfl) Try.underlying4 (by kernel_rfl) rfl
    (fun H ds hds => by have h : ds.length = 3 := hds; match ds, h with | [_, _, _], _ => exact ⟨rfl, rfl, rfl⟩) walk0 os started H enc
    (ChangeSpec.witness6 (enc := enc) (C := Try.checked) false ⟨#[], #[.slice none 0 0, .string ⟨#[]⟩, .int .i64 0], []⟩ 8 (by kernel_rfl) (by kernel_rfl) (by kernel_rfl) (by kernel_rfl))
theorem proved : Rows.TreeDoesSaid :=
  OpenClaim.holds_of_wide 5 Try.f5 rfl rfl rfl rfl rfl rfl rfl ⟨rfl, rfl, rfl, rfl, rfl⟩ rfl rfl rfl rfl rfl (by kernel_rfl) Try.func5 (by kernel_rfl)
    (of_decide_eq_true (by kernel_rfl)) (by unfold Func.isWrapper; first | (rw [if_pos (by decide +kernel)]; kernel_rfl) | (rw [if_neg (by decide +kernel)]; exact ⟨rfl, rfl⟩))
    (fun os started H enc _ => lifted0 os started H enc)
#print axioms proved
end Go.Proofs.Ytpndnlnjgnckdaa.treeDoes
