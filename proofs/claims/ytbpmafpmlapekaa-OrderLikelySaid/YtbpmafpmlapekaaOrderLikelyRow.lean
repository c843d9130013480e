/- For every list of ranges and items the law OrderLikely returns true, and its arguments read as before. -/
import Derived.Test.YtbpmafpmlapekaaLaw33
import Derived.Test.YtbpmafpmlapekaaOpenRg
import Derived.Test.YtbpmafpmlapekaaArgsA
namespace Go.Proofs.Ytbpmafpmlapekaa.orderLikely
open Go.RowKit Go.Proofs.Ytbpmafpmlapekaa
theorem walk0 (w : World) (args : Array Value) (h : Args Try.prog w Try.f6.params.toList args.toList) :
    Calls Try.prog 6 args w fun e w' => e = .returned (.bool true) ∧ Ext w w' := by
  obtain ⟨v0, v1, rfl, h0, h1⟩ := Args.two (t0 := 51) (t1 := 50) h
  obtain ⟨r, hr, _⟩ := h0.ranges
  obtain ⟨a, ha, _⟩ := h1.items
  exact run2 (lawLikely r a) (in_lst encRg_ok hr) (in_lst encIt_ok ha)
theorem ownKnob0 : ownKnob Try.prog.godebug = none := by kernel_rfl
theorem laidOut0 : laidOutB Try.prog = true := by kernel_rfl
set_option maxRecDepth 100000 in
theorem lifted0 (os : Os) (started : os.Started) (H : Type) (enc : TypeId × Value → H) :
    ReturnsInHanded {} Try.checked os 6 .any (Rows.orderLikelySpec.pre6 enc Try.prog Try.f6 Rows.orderLikelyRow.domain false) (Rows.orderLikelySpec.post enc Try.prog Try.f6 false true false false) :=
  law_lifted (C := Try.checked) (T := 4) ownKnob0 laidOut0 (by kernel_rfl) Try.func6 (by kernel_rfl) Try.underlying4 (by kernel_rfl) rfl
    (fun H ds hds => by have h : ds.length = 2 := hds; match ds, h with | [_, _], _ => exact ⟨rfl, rfl, rfl⟩) walk0 os started H enc
    (ChangeSpec.witness6 (enc := enc) (C := Try.checked) false ⟨#[], #[.slice none 0 0, .slice none 0 0], []⟩ 8 (by kernel_rfl) (by kernel_rfl) (by kernel_rfl) (by kernel_rfl))
theorem proved : Rows.OrderLikelySaid :=
  OpenClaim.holds_of_wide 6 Try.f6 rfl rfl rfl rfl rfl rfl rfl ⟨rfl, rfl, rfl, rfl, rfl⟩ rfl rfl rfl rfl rfl (by kernel_rfl) Try.func6 (by kernel_rfl)
    (of_decide_eq_true (by kernel_rfl)) (by unfold Func.isWrapper; first | (rw [if_pos (by decide +kernel)]; kernel_rfl) | (rw [if_neg (by decide +kernel)]; exact ⟨rfl, rfl⟩))
    (fun os started H enc _ => lifted0 os started H enc)
#print axioms proved
end Go.Proofs.Ytbpmafpmlapekaa.orderLikely
