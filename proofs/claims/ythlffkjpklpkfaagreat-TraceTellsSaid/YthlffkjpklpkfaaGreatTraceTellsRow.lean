/- For every message and all bytes the law TraceTells returns true, and its arguments read as before. -/
import Derived.Test.YthlffkjpklpkfaaGreatJ31
namespace Go.Proofs.YthlffkjpklpkfaaGreat.traceTells
open Go.RowKit Go.Proofs.YthlffkjpklpkfaaGreat
theorem walk0 (w : World) (args : Array Value) (h : Args Tryz.prog w Tryz.f4.params.toList args.toList) :
    Calls Tryz.prog 4 args w fun e w' => e = .returned (.bool true) ∧ Ext w w' := by
  obtain ⟨v0, v1, rfl, h0, h1⟩ := Args.two (t0 := 33) (t1 := 27) h
  obtain ⟨m, hw, hm⟩ := h0.message
  obtain ⟨l, hl⟩ := h1.bytes Tryz.underlying27 Tryz.underlying5 (by kernel_rfl)
  exact run2 (lawTraceTells m hw.1 l) hm (in_lst encB_ok hl)
theorem ownKnob0 : ownKnob Tryz.prog.godebug = none := by kernel_rfl
theorem laidOut0 : laidOutB Tryz.prog = true := by kernel_rfl
set_option maxRecDepth 100000 in
theorem lifted0 (os : Os) (started : os.Started) (H : Type) (enc : TypeId × Value → H) :
    ReturnsInHanded {} Tryz.checked os 4 .any (Rows.traceTellsSpec.pre6 enc Tryz.prog Tryz.f4 Rows.traceTellsRow.domain false) (Rows.traceTellsSpec.post enc Tryz.prog Tryz.f4 false true false false) :=
  law_lifted (C := Tryz.checked) (T := 4) ownKnob0 laidOut0 (by kernel_rfl) Tryz.func4 (by kernel_rfl) Tryz.underlying4 (by kernel_rfl) rfl
    (fun H ds hds => by have h : ds.length = 2 := hds; match ds, h with | [_, _], _ => exact ⟨rfl, rfl, rfl⟩) walk0 os started H enc
    (ChangeSpec.witness6 (enc := enc) (C := Tryz.checked) false ⟨#[], #[.agg #[.int .i64 0, .int .i64 0, .int .i64 0, .int .i64 0, .int .i64 0, .int .i64 0, .int .i64 0, .int .i64 0, .bool false, .bool false, .bool false, .slice none 0 0, .slice none 0 0, .slice none 0 0, .string ⟨#[]⟩, .string ⟨#[]⟩, .bool false, .int .u64 0, .slice none 0 0], .slice none 0 0], []⟩ 8 (by kernel_rfl) (by kernel_rfl) (by kernel_rfl) (by kernel_rfl))
theorem proved : Rows.TraceTellsSaid :=
  OpenClaim.holds_of_wide 4 Tryz.f4 rfl rfl rfl rfl rfl rfl rfl ⟨rfl, rfl, rfl, rfl, rfl⟩ rfl rfl rfl rfl rfl (by kernel_rfl) Tryz.func4 (by kernel_rfl)
    (of_decide_eq_true (by kernel_rfl)) (by unfold Func.isWrapper; first | (rw [if_pos (by decide +kernel)]; kernel_rfl) | (rw [if_neg (by decide +kernel)]; exact ⟨rfl, rfl⟩))
    (fun os started H enc _ => lifted0 os started H enc)
#print axioms proved
end Go.Proofs.YthlffkjpklpkfaaGreat.traceTells
