/- For every list of pieces and any bytes the law DeltaApplies returns true, and its arguments read as before. -/
import Derived.Test.YtbpmafpmlapekaaGreatJ45
import Derived.Test.YtbpmafpmlapekaaGreatJ47
namespace Go.Proofs.YtbpmafpmlapekaaGreat.deltaApplies
open Go.RowKit Go.Proofs.YtbpmafpmlapekaaGreat
theorem walk0 (w : World) (args : Array Value) (h : Args Tryz.prog w Tryz.f4.params.toList args.toList) :
    Calls Tryz.prog 4 args w fun e w' => e = .returned (.bool true) ∧ Ext w w' := by
  obtain ⟨v0, v1, rfl, h0, h1⟩ := Args.two (t0 := 22) (t1 := 25) h
  obtain ⟨a, ha, _⟩ := h0.pieces
  obtain ⟨b, hb⟩ := h1.bytes Tryz.underlying25 Tryz.underlying5 (by kernel_rfl)
  exact run2 (lawDe_applies a b) ha (in_lst encB_ok hb)
theorem ownKnob0 : ownKnob Tryz.prog.godebug = none := by kernel_rfl
theorem laidOut0 : laidOutB Tryz.prog = true := by kernel_rfl
set_option maxRecDepth 100000 in
theorem lifted0 (os : Os) (started : os.Started) (H : Type) (enc : TypeId × Value → H) :
    ReturnsInHanded {} Tryz.checked os 4 .any (Rows.deltaAppliesSpec.pre6 enc Tryz.prog Tryz.f4 Rows.deltaAppliesRow.domain false) (Rows.deltaAppliesSpec.post enc Tryz.prog Tryz.f4 false true false false) :=
  law_lifted (C := Tryz.checked) (T := 4) ownKnob0 laidOut0 (by kernel_rfl) Tryz.func4 (by kernel_rfl) Tryz.underlying4 (by kernel_rfl) rfl
    (fun H ds hds => by have h : ds.length = 2 := hds; match ds, h with | [_, _], _ => exact ⟨rfl, rfl, rfl⟩) walk0 os started H enc
    (ChangeSpec.witness6 (enc := enc) (C := Tryz.checked) false ⟨#[], #[.slice none 0 0, .slice none 0 0], []⟩ 8 (by kernel_rfl) (by kernel_rfl) (by kernel_rfl) (by kernel_rfl))
theorem proved : Rows.DeltaAppliesSaid :=
  OpenClaim.holds_of_wide 4 Tryz.f4 rfl rfl rfl rfl rfl rfl rfl ⟨rfl, rfl, rfl, rfl, rfl⟩ rfl rfl rfl rfl rfl (by kernel_rfl) Tryz.func4 (by kernel_rfl)
    (of_decide_eq_true (by kernel_rfl)) (by unfold Func.isWrapper; first | (rw [if_pos (by decide +kernel)]; kernel_rfl) | (rw [if_neg (by decide +kernel)]; exact ⟨rfl, rfl⟩))
    (fun os started H enc _ => lifted0 os started H enc)
#print axioms proved
end Go.Proofs.YtbpmafpmlapekaaGreat.deltaApplies
