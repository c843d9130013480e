/- For every note the law ImageNotes returns true, and its argument reads as before. -/
import Derived.Test.YtfcpkegmdlchhaaGreatJ42
namespace Go.Proofs.YtfcpkegmdlchhaaGreat.imageNotes
open Go.RowKit Go.Proofs.YtfcpkegmdlchhaaGreat
theorem walk0 (w : World) (args : Array Value) (h : Args Tryz.prog w Tryz.f4.params.toList args.toList) :
    Calls Tryz.prog 4 args w fun e w' => e = .returned (.bool true) ∧ Ext w w' := by
  obtain ⟨v0, rfl, h0⟩ := Args.one (t0 := 39) h
  obtain ⟨n, hn⟩ := h0.note
  exact run1 (lawImageNotes n) hn
theorem ownKnob0 : ownKnob Tryz.prog.godebug = none := by kernel_rfl
theorem laidOut0 : laidOutB Tryz.prog = true := by kernel_rfl
set_option maxRecDepth 100000 in
theorem lifted0 (os : Os) (started : os.Started) (H : Type) (enc : TypeId × Value → H) :
    ReturnsInHanded {} Tryz.checked os 4 .any (Rows.imageNotesSpec.pre6 enc Tryz.prog Tryz.f4 Rows.imageNotesRow.domain false) (Rows.imageNotesSpec.post enc Tryz.prog Tryz.f4 false true false false) :=
  law_lifted (C := Tryz.checked) (T := 4) ownKnob0 laidOut0 (by kernel_rfl) Tryz.func4 (by kernel_rfl) Tryz.underlying4 (by kernel_rfl) rfl
    (fun H ds hds => by have h : ds.length = 1 := hds; match ds, h with | [_], _ => exact ⟨rfl, rfl, rfl⟩) walk0 os started H enc
    (ChangeSpec.witness6 (enc := enc) (C := Tryz.checked) false ⟨#[], #[.agg #[.int .i64 0, .int .i64 0, .slice none 0 0, .slice none 0 0, .slice none 0 0, .int .i64 0, .string ⟨#[]⟩, .int .i64 0, .string ⟨#[]⟩, .int .i64 0, .int .i64 0, .int .i64 0, .slice none 0 0, .slice none 0 0]], []⟩ 8 (by kernel_rfl) (by kernel_rfl) (by kernel_rfl) (by kernel_rfl))
theorem proved : Rows.ImageNotesSaid :=
  OpenClaim.holds_of_wide 4 Tryz.f4 rfl rfl rfl rfl rfl rfl rfl ⟨rfl, rfl, rfl, rfl, rfl⟩ rfl rfl rfl rfl rfl (by kernel_rfl) Tryz.func4 (by kernel_rfl)
    (of_decide_eq_true (by kernel_rfl)) (by unfold Func.isWrapper; first | (rw [if_pos (by decide +kernel)]; kernel_rfl) | (rw [if_neg (by decide +kernel)]; exact ⟨rfl, rfl⟩))
    (fun os started H enc _ => lifted0 os started H enc)
#print axioms proved
end Go.Proofs.YtfcpkegmdlchhaaGreat.imageNotes
