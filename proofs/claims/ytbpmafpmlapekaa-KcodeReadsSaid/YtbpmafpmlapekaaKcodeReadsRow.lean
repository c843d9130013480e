/- For any bytes the law KcodeReads returns true, and its argument reads as before. -/
import Derived.Test.YtbpmafpmlapekaaLaw16K
import Derived.Test.YtbpmafpmlapekaaArgsA
namespace Go.Proofs.Ytbpmafpmlapekaa.kcodeReads
open Go.RowKit Go.Proofs.Ytbpmafpmlapekaa
theorem walk0 (w : World) (args : Array Value) (h : Args Try.prog w Try.f9.params.toList args.toList) :
    Calls Try.prog 9 args w fun e w' => e = .returned (.bool true) ∧ Ext w w' := by
  obtain ⟨v0, rfl, h0⟩ := Args.one (t0 := 39) h
  obtain ⟨b, hb⟩ := h0.bytes Try.underlying39 Try.underlying5 (by kernel_rfl)
  exact run1 (lawKcReads b) (in_lst encB_ok hb)
theorem ownKnob0 : ownKnob Try.prog.godebug = none := by kernel_rfl
theorem laidOut0 : laidOutB Try.prog = true := by kernel_rfl
set_option maxRecDepth 100000 in
theorem lifted0 (os : Os) (started : os.Started) (H : Type) (enc : TypeId × Value → H) :
    ReturnsInHanded {} Try.checked os 9 .any (Rows.kcodeReadsSpec.pre6 enc Try.prog Try.f9 Rows.kcodeReadsRow.domain false) (Rows.kcodeReadsSpec.post enc Try.prog Try.f9 false true false false) :=
  law_lifted (C := Try.checked) (T := 4) ownKnob0 laidOut0 (by kernel_rfl) Try.func9 (by kernel_rfl) Try.underlying4 (by kernel_rfl) rfl
    (fun H ds hds => by have h : ds.length = 1 := hds; match ds, h with | [_], _ => exact ⟨rfl, rfl, rfl⟩) walk0 os started H enc
    (ChangeSpec.witness6 (enc := enc) (C := Try.checked) false ⟨#[], #[.slice none 0 0], []⟩ 8 (by kernel_rfl) (by kernel_rfl) (by kernel_rfl) (by kernel_rfl))
theorem proved : Rows.KcodeReadsSaid :=
  OpenClaim.holds_of_wide 9 Try.f9 rfl rfl rfl rfl rfl rfl rfl ⟨rfl, rfl, rfl, rfl, rfl⟩ rfl rfl rfl rfl rfl (by kernel_rfl) Try.func9 (by kernel_rfl)
    (of_decide_eq_true (by kernel_rfl)) (by unfold Func.isWrapper; first | (rw [if_pos (by decide +kernel)]; kernel_rfl) | (rw [if_neg (by decide +kernel)]; exact ⟨rfl, rfl⟩))
    (fun os started H enc _ => lifted0 os started H enc)
#print axioms proved
end Go.Proofs.Ytbpmafpmlapekaa.kcodeReads
