/- For every list of items, every range and every seed the law TreeOrder returns true, and its arguments read as before. -/
import Derived.Test.YtpndnlnjgnckdaaTrW
import Derived.Test.YtpndnlnjgnckdaaOpenRgT
import Derived.Test.YtpndnlnjgnckdaaArgsA
namespace Go.Proofs.Ytpndnlnjgnckdaa.treeOrder
open Go.RowKit Go.Proofs.Ytpndnlnjgnckdaa
theorem walk0 (w : World) (args : Array Value) (h : Args Try.prog w Try.f3.params.toList args.toList) :
    Calls Try.prog 3 args w fun e w' => e = .returned (.bool true) ∧ Ext w w' := by
  obtain ⟨v0, v1, v2, rfl, h0, h1, h2⟩ := Args.three (t0 := 22) (t1 := 24) (t2 := 25) h
  obtain ⟨l, hl, _⟩ := h0.items
  obtain ⟨r, rfl, _⟩ := h1.range
  obtain ⟨s, rfl, _⟩ := h2.int Try.underlying25
  exact run3 (law_treeOrder l r s) (in_lst encIt_ok hl) (in_agg (vs := encRg r) (encRg_ok.one r)) in_raw
theorem ownKnob0 : ownKnob Try.prog.godebug = none := by kernel_rfl
theorem laidOut0 : laidOutB Try.prog = true := by kernel_rfl
set_option maxRecDepth 100000 in
theorem lifted0 (os : Os) (started : os.Started) (H : Type) (enc : TypeId × Value → H) :
    ReturnsInHanded {} Try.checked os 3 .any (Rows.treeOrderSpec.pre6 enc Try.prog Try.f3 Rows.treeOrderRow.domain false) (Rows.treeOrderSpec.post enc Try.prog Try.f3 false true false false) :=
  law_lifted (C := Try.checked) (T := 4) ownKnob0 laidOut0 (by kernel_rfl) Try.func3 (by kernel_rfl) Try.underlying4 (by kernel_rfl) rfl
    (fun H ds hds => by have h : ds.length = 3 := hds; match ds, h with | [_, _, _], _ => exact ⟨rfl, rfl, rfl⟩) walk0 os started H enc
    (ChangeSpec.witness6 (enc := enc) (C := Try.checked) false ⟨#[], #[.slice none 0 0, .agg #[.string ⟨#[]⟩, .string ⟨#[]⟩, .bool false], .int .u64 0], []⟩ 8 (by kernel_rfl) (by kernel_rfl) (by kernel_rfl) (by kernel_rfl))
theorem proved : Rows.TreeOrderSaid :=
  OpenClaim.holds_of_wide 3 Try.f3 rfl rfl rfl rfl rfl rfl rfl ⟨rfl, rfl, rfl, rfl, rfl⟩ rfl rfl rfl rfl rfl (by kernel_rfl) Try.func3 (by kernel_rfl)
    (of_decide_eq_true (by kernel_rfl)) (by unfold Func.isWrapper; first | (rw [if_pos (by decide +kernel)]; kernel_rfl) | (rw [if_neg (by decide +kernel)]; exact ⟨rfl, rfl⟩))
    (fun os started H enc _ => lifted0 os started H enc)
#print axioms proved
end Go.Proofs.Ytpndnlnjgnckdaa.treeOrder
