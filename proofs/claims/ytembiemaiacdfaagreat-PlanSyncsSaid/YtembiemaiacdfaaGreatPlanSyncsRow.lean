/- For every two states and whatever is asked the law PlanSyncs returns true, and its arguments read as before. -/
import Derived.Test.YtembiemaiacdfaaGreatJ42
import Derived.Test.YtembiemaiacdfaaGreatJ43
namespace Go.Proofs.YtembiemaiacdfaaGreat.planSyncs
open Go.RowKit Go.Proofs.YtembiemaiacdfaaGreat
theorem walk0 (w : World) (args : Array Value) (h : mB Tryz.prog w Tryz.f6.params.toList args.toList) :
    Calls Tryz.prog 6 args w fun e w' => e = .returned (.bool true) ∧ dJ w w' := by
  obtain ⟨v0, v1, v2, rfl, h0, h1, h2⟩ := mB.three (t0 := 26) (t1 := 26) (t2 := 45) h
  obtain ⟨s, _, hs⟩ := h0.state
  obtain ⟨t, _, ht⟩ := h1.state
  obtain ⟨a, hb, ha⟩ := h2.ask
  exact MD (Ho s t a.flt a.know a.lim a.lik a.there hb.1 hb.2) hs ht ha
theorem ownKnob0 : ownKnob Tryz.prog.godebug = none := by kernel_rfl
theorem laidOut0 : laidOutB Tryz.prog = true := by kernel_rfl
set_option maxRecDepth 100000 in
theorem lifted0 (os : Os) (started : os.Started) (H : Type) (enc : TypeId × Value → H) :
    ReturnsInHanded {} Tryz.checked os 6 .any (Rows.planSyncsSpec.pre6 enc Tryz.prog Tryz.f6 Rows.planSyncsRow.domain false) (Rows.planSyncsSpec.post enc Tryz.prog Tryz.f6 false true false false) :=
  zh (C := Tryz.checked) (T := 4) ownKnob0 laidOut0 (by kernel_rfl) Tryz.func6 (by kernel_rfl) Tryz.underlying4 (by kernel_rfl) rfl
    (fun H ds hds => by have h : ds.length = 3 := hds; match ds, h with | [_, _, _], _ => exact ⟨rfl, rfl, rfl⟩) walk0 os started H enc
    (ChangeSpec.witness6 (enc := enc) (C := Tryz.checked) false ⟨#[], #[.agg #[.int .i64 0, .slice none 0 0, .slice none 0 0, .slice none 0 0, .int .i64 0], .agg #[.int .i64 0, .slice none 0 0, .slice none 0 0, .slice none 0 0, .int .i64 0], .agg #[.slice none 0 0, .slice none 0 0, .int .i64 0, .slice none 0 0, .slice none 0 0]], []⟩ 8 (by kernel_rfl) (by kernel_rfl) (by kernel_rfl) (by kernel_rfl))
theorem proved : Rows.PlanSyncsSaid :=
  OpenClaim.holds_of_wide 6 Tryz.f6 rfl rfl rfl rfl rfl rfl rfl ⟨rfl, rfl, rfl, rfl, rfl⟩ rfl rfl rfl rfl rfl (by kernel_rfl) Tryz.func6 (by kernel_rfl)
    (of_decide_eq_true (by kernel_rfl)) (by unfold Func.isWrapper; first | (rw [if_pos (by decide +kernel)]; kernel_rfl) | (rw [if_neg (by decide +kernel)]; exact ⟨rfl, rfl⟩))
    (fun os started H enc _ => lifted0 os started H enc)
#print axioms proved
end Go.Proofs.YtembiemaiacdfaaGreat.planSyncs
