/- For every state and whatever is asked the law PlanSends returns true, and its arguments read as before. -/
import Derived.Test.YtembiemaiacdfaaGreatJ41
import Derived.Test.YtembiemaiacdfaaGreatJ42
namespace Go.Proofs.YtembiemaiacdfaaGreat.planSends
open Go.RowKit Go.Proofs.YtembiemaiacdfaaGreat
theorem walk0 (w : World) (args : Array Value) (h : kT Tryz.prog w Tryz.f4.params.toList args.toList) :
    Calls Tryz.prog 4 args w fun e w' => e = .returned (.bool true) ∧ dB w w' := by
  obtain ⟨v0, v1, rfl, h0, h1⟩ := kT.two (t0 := 26) (t1 := 45) h
  obtain ⟨s, _, hs⟩ := h0.state
  obtain ⟨a, hb, ha⟩ := h1.ask
  exact K9 (GJ s a.flt a.know a.lim a.lik a.there hb.1 hb.2) hs ha
theorem ownKnob0 : ownKnob Tryz.prog.godebug = none := by kernel_rfl
theorem laidOut0 : laidOutB Tryz.prog = true := by kernel_rfl
set_option maxRecDepth 100000 in
theorem lifted0 (os : Os) (started : os.Started) (H : Type) (enc : TypeId × Value → H) :
    ReturnsInHanded {} Tryz.checked os 4 .any (Rows.planSendsSpec.pre6 enc Tryz.prog Tryz.f4 Rows.planSendsRow.domain false) (Rows.planSendsSpec.post enc Tryz.prog Tryz.f4 false true false false) :=
  qz (C := Tryz.checked) (T := 4) ownKnob0 laidOut0 (by kernel_rfl) Tryz.func4 (by kernel_rfl) Tryz.underlying4 (by kernel_rfl) rfl
    (fun H ds hds => by have h : ds.length = 2 := hds; match ds, h with | [_, _], _ => exact ⟨rfl, rfl, rfl⟩) walk0 os started H enc
    (ChangeSpec.witness6 (enc := enc) (C := Tryz.checked) false ⟨#[], #[.agg #[.int .i64 0, .slice none 0 0, .slice none 0 0, .slice none 0 0, .int .i64 0], .agg #[.slice none 0 0, .slice none 0 0, .int .i64 0, .slice none 0 0, .slice none 0 0]], []⟩ 8 (by kernel_rfl) (by kernel_rfl) (by kernel_rfl) (by kernel_rfl))
theorem proved : Rows.PlanSendsSaid :=
  OpenClaim.holds_of_wide 4 Tryz.f4 rfl rfl rfl rfl rfl rfl rfl ⟨rfl, rfl, rfl, rfl, rfl⟩ rfl rfl rfl rfl rfl (by kernel_rfl) Tryz.func4 (by kernel_rfl)
    (of_decide_eq_true (by kernel_rfl)) (by unfold Func.isWrapper; first | (rw [if_pos (by decide +kernel)]; kernel_rfl) | (rw [if_neg (by decide +kernel)]; exact ⟨rfl, rfl⟩))
    (fun os started H enc _ => lifted0 os started H enc)
#print axioms proved
end Go.Proofs.YtembiemaiacdfaaGreat.planSends
