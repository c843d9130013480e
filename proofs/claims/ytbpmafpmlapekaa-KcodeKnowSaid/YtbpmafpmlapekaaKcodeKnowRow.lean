/- For every knowledge the law KcodeKnow returns true, and its argument reads as before. -/
import Derived.Test.YtbpmafpmlapekaaLaw16K
import Derived.Test.YtbpmafpmlapekaaOpenKn
namespace Go.Proofs.Ytbpmafpmlapekaa.kcodeKnow
open Go.RowKit Go.Proofs.Ytbpmafpmlapekaa
theorem walk0 (w : World) (args : Array Value) (h : Args Try.prog w Try.f8.params.toList args.toList) :
    Calls Try.prog 8 args w fun e w' => e = .returned (.bool true) ∧ Ext w w' := by
  obtain ⟨v0, rfl, h0⟩ := Args.one (t0 := 74) h
  obtain ⟨l, hl, _⟩ := h0.pieces
  exact run1 (lawKcKnow l) hl
theorem ownKnob0 : ownKnob Try.prog.godebug = none := by kernel_rfl
theorem laidOut0 : laidOutB Try.prog = true := by kernel_rfl
set_option maxRecDepth 100000 in
theorem lifted0 (os : Os) (started : os.Started) (H : Type) (enc : TypeId × Value → H) :
    ReturnsInHanded {} Try.checked os 8 .any (Rows.kcodeKnowSpec.pre6 enc Try.prog Try.f8 Rows.kcodeKnowRow.domain false) (Rows.kcodeKnowSpec.post enc Try.prog Try.f8 false true false false) :=
  law_lifted (C := Try.checked) (T := 4) ownKnob0 laidOut0 (by kernel_rfl) Try.func8 (by kernel_rfl) Try.underlying4 (by kernel_rfl) rfl
    (fun H ds hds => by have h : ds.length = 1 := hds; match ds, h with | [_], _ => exact ⟨rfl, rfl, rfl⟩) walk0 os started H enc
    (ChangeSpec.witness6 (enc := enc) (C := Try.checked) false ⟨#[], #[.slice none 0 0], []⟩ 8 (by kernel_rfl) (by kernel_rfl) (by kernel_rfl) (by kernel_rfl))
theorem proved : Rows.KcodeKnowSaid :=
  OpenClaim.holds_of_wide 8 Try.f8 rfl rfl rfl rfl rfl rfl rfl ⟨rfl, rfl, rfl, rfl, rfl⟩ rfl rfl rfl rfl rfl (by kernel_rfl) Try.func8 (by kernel_rfl)
    (of_decide_eq_true (by kernel_rfl)) (by unfold Func.isWrapper; first | (rw [if_pos (by decide +kernel)]; kernel_rfl) | (rw [if_neg (by decide +kernel)]; exact ⟨rfl, rfl⟩))
    (fun os started H enc _ => lifted0 os started H enc)
#print axioms proved
end Go.Proofs.Ytbpmafpmlapekaa.kcodeKnow
