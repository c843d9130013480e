/- For every message, every place and all bits the law MessageTurned returns true, and its arguments read as before. -/
import Derived.Test.YtoiaegbmbhgdpaaGreatJ46
namespace Go.Proofs.YtoiaegbmbhgdpaaGreat.messageTurned
open Go.RowKit Go.Proofs.YtoiaegbmbhgdpaaGreat
theorem walk0 (w : World) (args : Array Value) (h : Args Tryz.prog w Tryz.f5.params.toList args.toList) :
    Calls Tryz.prog 5 args w fun e w' => e = .returned (.bool true) ∧ Ext w w' := by
  obtain ⟨v0, v1, v2, rfl, h0, h1, h2⟩ := Args.three (t0 := 30) (t1 := 31) (t2 := 51) h
  obtain ⟨m, hw, hm⟩ := h0.message
  obtain ⟨n, rfl, hn⟩ := h1.int Tryz.underlying31
  obtain ⟨t, rfl, ht⟩ := h2.int Tryz.underlying51
  have hb : 0 ≤ n ∧ n ≤ 65535 := by
    simp [Lit.wf, IntKind.min, IntKind.max, IntKind.signed, IntKind.bits] at hn
    omega
  have hc : 0 ≤ t ∧ t ≤ 4294967295 := by
    simp [Lit.wf, IntKind.min, IntKind.max, IntKind.signed, IntKind.bits] at ht
    omega
  obtain ⟨c, rfl⟩ := Int.eq_ofNat_of_zero_le hb.1
  obtain ⟨d, rfl⟩ := Int.eq_ofNat_of_zero_le hc.1
  exact run3 (lawMessageTurned m hw.1 c (by omega) d (by omega)) hm in_raw in_raw
theorem ownKnob0 : ownKnob Tryz.prog.godebug = none := by kernel_rfl
theorem laidOut0 : laidOutB Tryz.prog = true := by kernel_rfl
set_option maxRecDepth 100000 in
theorem lifted0 (os : Os) (started : os.Started) (H : Type) (enc : TypeId × Value → H) :
    ReturnsInHanded {} Tryz.checked os 5 .any (Rows.messageTurnedSpec.pre6 enc Tryz.prog Tryz.f5 Rows.messageTurnedRow.domain false) (Rows.messageTurnedSpec.post enc Tryz.prog Tryz.f5 false true false false) :=
  law_lifted (C := Tryz.checked) (T := 4) ownKnob0 laidOut0 (by kernel_rfl) Tryz.func5 (by kernel_rfl) Tryz.underlying4 (by kernel_rfl) rfl
    (fun H ds hds => by have h : ds.length = 3 := hds; match ds, h with | [_, _, _], _ => exact ⟨rfl, rfl, rfl⟩) walk0 os started H enc
    (ChangeSpec.witness6 (enc := enc) (C := Tryz.checked) false ⟨#[], #[.agg #[.int .i64 0, .int .i64 0, .int .i64 0, .int .i64 0, .int .i64 0, .int .i64 0, .int .i64 0, .int .i64 0, .bool false, .bool false, .bool false, .slice none 0 0, .slice none 0 0, .slice none 0 0, .string ⟨#[]⟩, .string ⟨#[]⟩, .bool false, .int .u64 0, .slice none 0 0], .int .u16 0, .int .u32 0], []⟩ 8 (by kernel_rfl) (by kernel_rfl) (by kernel_rfl) (by kernel_rfl))
theorem proved : Rows.MessageTurnedSaid :=
  OpenClaim.holds_of_wide 5 Tryz.f5 rfl rfl rfl rfl rfl rfl rfl ⟨rfl, rfl, rfl, rfl, rfl⟩ rfl rfl rfl rfl rfl (by kernel_rfl) Tryz.func5 (by kernel_rfl)
    (of_decide_eq_true (by kernel_rfl)) (by unfold Func.isWrapper; first | (rw [if_pos (by decide +kernel)]; kernel_rfl) | (rw [if_neg (by decide +kernel)]; exact ⟨rfl, rfl⟩))
    (fun os started H enc _ => lifted0 os started H enc)
#print axioms proved
end Go.Proofs.YtoiaegbmbhgdpaaGreat.messageTurned
