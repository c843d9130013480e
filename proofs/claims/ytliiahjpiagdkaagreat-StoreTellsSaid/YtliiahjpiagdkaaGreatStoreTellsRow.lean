/- For every state, all acts and whatever is asked the law StoreTells returns true, and its arguments read as before. -/
import Derived.Test.YtliiahjpiagdkaaGreatJ40
import Derived.Test.YtliiahjpiagdkaaGreatJ41
namespace Go.Proofs.YtliiahjpiagdkaaGreat.storeTells
open Go.RowKit Go.Proofs.YtliiahjpiagdkaaGreat
theorem walk0 (w : World) (args : Array Value) (h : nY Tryz.prog w Tryz.f3.params.toList args.toList) :
    Calls Tryz.prog 3 args w fun e w' => e = .returned (.bool true) ∧ bw w w' := by
  obtain ⟨v0, v1, v2, rfl, h0, h1, h2⟩ := nY.three (t0 := 26) (t1 := 27) (t2 := 29) h
  obtain ⟨s, _, hs⟩ := h0.state
  obtain ⟨l, hl, _⟩ := h1.acts
  obtain ⟨a, hb, ha⟩ := h2.aq
  exact Qf (Kx s l a hb) hs hl ha
theorem ownKnob0 : ownKnob Tryz.prog.godebug = none := by kernel_rfl
theorem laidOut0 : laidOutB Tryz.prog = true := by kernel_rfl
set_option maxRecDepth 100000 in
theorem lifted0 (os : Os) (started : os.Started) (H : Type) (enc : TypeId × Value → H) :
    ReturnsInHanded {} Tryz.checked os 3 .any (Rows.storeTellsSpec.pre6 enc Tryz.prog Tryz.f3 Rows.storeTellsRow.domain false) (Rows.storeTellsSpec.post enc Tryz.prog Tryz.f3 false true false false) :=
  BL (C := Tryz.checked) (T := 4) ownKnob0 laidOut0 (by kernel_rfl) Tryz.func3 (by kernel_rfl) Tryz.underlying4 (by kernel_rfl) rfl
    (fun H ds hds => by have h : ds.length = 3 := hds; match ds, h with | [_, _, _], _ => exact ⟨rfl, rfl, rfl⟩) walk0 os started H enc
    (ChangeSpec.witness6 (enc := enc) (C := Tryz.checked) false ⟨#[], #[.agg #[.int .i64 0, .slice none 0 0, .slice none 0 0, .slice none 0 0, .int .i64 0], .slice none 0 0, .agg #[.slice none 0 0, .slice none 0 0, .string ⟨#[]⟩, .int .u8 0]], []⟩ 8 (by kernel_rfl) (by kernel_rfl) (by kernel_rfl) (by kernel_rfl))
theorem proved : Rows.StoreTellsSaid :=
  OpenClaim.holds_of_wide 3 Tryz.f3 rfl rfl rfl rfl rfl rfl rfl ⟨rfl, rfl, rfl, rfl, rfl⟩ rfl rfl rfl rfl rfl (by kernel_rfl) Tryz.func3 (by kernel_rfl)
    (of_decide_eq_true (by kernel_rfl)) (by unfold Func.isWrapper; first | (rw [if_pos (by decide +kernel)]; kernel_rfl) | (rw [if_neg (by decide +kernel)]; exact ⟨rfl, rfl⟩))
    (fun os started H enc _ => lifted0 os started H enc)
#print axioms proved
end Go.Proofs.YtliiahjpiagdkaaGreat.storeTells
