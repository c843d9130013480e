/- For every two lists of items and list of ranges the law ItemMerges returns true, and its arguments read as before. -/
import Derived.Test.YtbpmafpmlapekaaLaw18M
import Derived.Test.YtbpmafpmlapekaaOpenRg
import Derived.Test.YtbpmafpmlapekaaArgsA
namespace Go.Proofs.Ytbpmafpmlapekaa.itemMerges
open Go.RowKit Go.Proofs.Ytbpmafpmlapekaa
theorem walk0 (w : World) (args : Array Value) (h : Args Try.prog w Try.f5.params.toList args.toList) :
    Calls Try.prog 5 args w fun e w' => e = .returned (.bool true) ∧ Ext w w' := by
  obtain ⟨v0, v1, v2, rfl, h0, h1, h2⟩ := Args.three (t0 := 50) (t1 := 50) (t2 := 51) h
  obtain ⟨a, ha, _⟩ := h0.items
  obtain ⟨b, hb, _⟩ := h1.items
  obtain ⟨r, hr, _⟩ := h2.ranges
  exact run3 (lawMerges a b r) (in_lst encIt_ok ha) (in_lst encIt_ok hb) (in_lst encRg_ok hr)
theorem ownKnob0 : ownKnob Try.prog.godebug = none := by kernel_rfl
theorem laidOut0 : laidOutB Try.prog = true := by kernel_rfl
set_option maxRecDepth 100000 in
theorem lifted0 (os : Os) (started : os.Started) (H : Type) (enc : TypeId × Value → H) :
    ReturnsInHanded {} Try.checked os 5 .any (Rows.itemMergesSpec.pre6 enc Try.prog Try.f5 Rows.itemMergesRow.domain false) (Rows.itemMergesSpec.post enc Try.prog Try.f5 false true false false) :=
  law_lifted (C := Try.checked) (T := 4) ownKnob0 laidOut0 (by kernel_rfl) Try.func5 (by kernel_rfl) Try.underlying4 (by kernel_rfl) rfl
    (fun H ds hds => by have h : ds.length = 3 := hds; match ds, h with | [_, _, _], _ => exact ⟨rfl, rfl, rfl⟩) walk0 os started H enc
    (ChangeSpec.witness6 (enc := enc) (C := Try.checked) false ⟨#[], #[.slice none 0 0, .slice none 0 0, .slice none 0 0], []⟩ 8 (by kernel_rfl) (by kernel_rfl) (by kernel_rfl) (by kernel_rfl))
theorem proved : Rows.ItemMergesSaid :=
  OpenClaim.holds_of_wide 5 Try.f5 rfl rfl rfl rfl rfl rfl rfl ⟨rfl, rfl, rfl, rfl, rfl⟩ rfl rfl rfl rfl rfl (by kernel_rfl) Try.func5 (by kernel_rfl)
    (of_decide_eq_true (by kernel_rfl)) (by unfold Func.isWrapper; first | (rw [if_pos (by decide +kernel)]; kernel_rfl) | (rw [if_neg (by decide +kernel)]; exact ⟨rfl, rfl⟩))
    (fun os started H enc _ => lifted0 os started H enc)
#print axioms proved
end Go.Proofs.Ytbpmafpmlapekaa.itemMerges
