/- For all bytes the law ImageReads returns true, and its argument reads as before. -/
import Derived.Test.YtfcpkegmdlchhaaGreatJ42
import Derived.Test.YtfcpkegmdlchhaaGreatJ26
namespace Go.Proofs.YtfcpkegmdlchhaaGreat.imageReads
open Go.RowKit Go.Proofs.YtfcpkegmdlchhaaGreat
theorem walk0 (w : World) (args : Array Value) (h : Args Tryz.prog w Tryz.f5.params.toList args.toList) :
    Calls Tryz.prog 5 args w fun e w' => e = .returned (.bool true) ∧ Ext w w' := by
  obtain ⟨v0, rfl, h0⟩ := Args.one (t0 := 29) h
  obtain ⟨l, hl⟩ := h0.bytes Tryz.underlying29 Tryz.underlying5 (by kernel_rfl)
  exact run1 (lawImageReads l) (in_lst encB_ok hl)
theorem ownKnob0 : ownKnob Tryz.prog.godebug = none := by kernel_rfl
theorem laidOut0 : laidOutB Tryz.prog = true := by kernel_rfl
set_option maxRecDepth 100000 in
theorem lifted0 (os : Os) (started : os.Started) (H : Type) (enc : TypeId × Value → H) :
    ReturnsInHanded {} Tryz.checked os 5 .any (Rows.imageReadsSpec.pre6 enc Tryz.prog Tryz.f5 Rows.imageReadsRow.domain false) (Rows.imageReadsSpec.post enc Tryz.prog Tryz.f5 false true false false) :=
  law_lifted (C := Tryz.checked) (T := 4) ownKnob0 laidOut0 (by kernel_rfl) Tryz.func5 (by kernel_rfl) Tryz.underlying4 (by kernel_rfl) rfl
    (fun H ds hds => by have h : ds.length = 1 := hds; match ds, h with | [_], _ => exact ⟨rfl, rfl, rfl⟩) walk0 os started H enc
    (ChangeSpec.witness6 (enc := enc) (C := Tryz.checked) false ⟨#[], #[.slice none 0 0], []⟩ 8 (by kernel_rfl) (by kernel_rfl) (by kernel_rfl) (by kernel_rfl))
theorem proved : Rows.ImageReadsSaid :=
  OpenClaim.holds_of_wide 5 Tryz.f5 rfl rfl rfl rfl rfl rfl rfl ⟨rfl, rfl, rfl, rfl, rfl⟩ rfl rfl rfl rfl rfl (by kernel_rfl) Tryz.func5 (by kernel_rfl)
    (of_decide_eq_true (by kernel_rfl)) (by unfold Func.isWrapper; first | (rw [if_pos (by decide +kernel)]; kernel_rfl) | (rw [if_neg (by decide +kernel)]; exact ⟨rfl, rfl⟩))
    (fun os started H enc _ => lifted0 os started H enc)
#print axioms proved
end Go.Proofs.YtfcpkegmdlchhaaGreat.imageReads
