/- For every state and everything that a source is told the law SourceDoes returns true, and its arguments read as before. -/
import Derived.Test.YtecdgdoledkdfaaGreatJ35
namespace Go.Proofs.YtecdgdoledkdfaaGreat.sourceDoes
open Go.RowKit Go.Proofs.YtecdgdoledkdfaaGreat
theorem walk0 (w : World) (args : Array Value) (h : rp Tryz.prog w Tryz.f3.params.toList args.toList) :
    Calls Tryz.prog 3 args w fun e w' => e = .returned (.bool true) ∧ bQ w w' := by
  obtain ⟨v0, v1, rfl, h0, h1⟩ := rp.two (t0 := 26) (t1 := 27) h
  obtain ⟨s, _, hs⟩ := h0.state
  obtain ⟨l, hl, hw⟩ := h1.says
  exact aak (YE s l fun y hy => (hw y hy).1) hs hl
theorem ownKnob0 : ownKnob Tryz.prog.godebug = none := by kernel_rfl
theorem laidOut0 : laidOutB Tryz.prog = true := by kernel_rfl
set_option maxRecDepth 100000 in
theorem lifted0 (os : Os) (started : os.Started) (H : Type) (enc : TypeId × Value → H) :
    ReturnsInHanded {} Tryz.checked os 3 .any (Rows.sourceDoesSpec.pre6 enc Tryz.prog Tryz.f3 Rows.sourceDoesRow.domain false) (Rows.sourceDoesSpec.post enc Tryz.prog Tryz.f3 false true false false) :=
  Io (C := Tryz.checked) (T := 4) ownKnob0 laidOut0 (by kernel_rfl) Tryz.func3 (by kernel_rfl) Tryz.underlying4 (by kernel_rfl) rfl
    (fun H ds hds => by have h : ds.length = 2 := hds; match ds, h with | [_, _], _ => exact ⟨rfl, rfl, rfl⟩) walk0 os started H enc
    (ChangeSpec.witness6 (enc := enc) (C := Tryz.checked) false ⟨#[], #[.agg #[.int .i64 0, .slice none 0 0, .slice none 0 0, .slice none 0 0, .int .i64 0], .slice none 0 0], []⟩ 8 (by kernel_rfl) (by kernel_rfl) (by kernel_rfl) (by kernel_rfl))
set_option maxHeartbeats 100000000 in
theorem proved : Rows.SourceDoesSaid :=
  OpenClaim.holds_of_wide 3 Tryz.f3 rfl rfl rfl rfl rfl rfl rfl ⟨rfl, rfl, rfl, rfl, rfl⟩ rfl rfl rfl rfl rfl (by kernel_rfl) Tryz.func3 (by unfold joinedFacts; simp only [Bool.and_eq_true]; and_intros; all_goals (as_aux_lemma => kernel_rfl))
    (of_decide_eq_true (by kernel_rfl)) (by unfold Func.isWrapper; first | (rw [if_pos (by decide +kernel)]; kernel_rfl) | (rw [if_neg (by decide +kernel)]; exact ⟨rfl, rfl⟩))
    (fun os started H enc _ => lifted0 os started H enc)
#print axioms proved
end Go.Proofs.YtecdgdoledkdfaaGreat.sourceDoes
