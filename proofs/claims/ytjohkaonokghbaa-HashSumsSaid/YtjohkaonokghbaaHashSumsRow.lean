/- For every seed and any two lists of items the law HashSums returns true, and its arguments read as before. -/
import Derived.Test.YtjohkaonokghbaaHashSums
import Derived.Test.YtjohkaonokghbaaOpenIt
namespace Go.Proofs.Ytjohkaonokghbaa.hashSums
open Go.RowKit Go.Proofs.Ytjohkaonokghbaa
theorem walk0 (w : World) (args : Array Value) (h : Args Try.prog w Try.f4.params.toList args.toList) :
    Calls Try.prog 4 args w fun e w' => e = .returned (.bool true) ∧ Ext w w' := by
  obtain ⟨v0, v1, v2, rfl, h0, h1, h2⟩ := Args.three (t0 := 22) (t1 := 30) (t2 := 30) h
  obtain ⟨seed, rfl, hs⟩ := h0.int Try.underlying22
  obtain ⟨a, ha, _⟩ := h1.items
  obtain ⟨b, hb, _⟩ := h2.items
  exact hashSums_any seed v1 v2 a b w ha hb
theorem ownKnob0 : ownKnob Try.prog.godebug = none := by kernel_rfl
theorem laidOut0 : laidOutB Try.prog = true := by kernel_rfl
set_option maxRecDepth 100000 in
theorem lifted0 (os : Os) (started : os.Started) (H : Type) (enc : TypeId × Value → H) :
    ReturnsInHanded {} Try.checked os 4 .any (Rows.hashSumsSpec.pre6 enc Try.prog Try.f4 Rows.hashSumsRow.domain false) (Rows.hashSumsSpec.post enc Try.prog Try.f4 false true false false) :=
  law_lifted (C := Try.checked) (T := 4) ownKnob0 laidOut0 (by kernel_rfl) Try.func4 (by kernel_rfl) Try.underlying4 (by kernel_rfl) rfl
    (fun H ds hds => by have h : ds.length = 3 := hds; match ds, h with | [_, _, _], _ => exact ⟨rfl, rfl, rfl⟩) walk0 os started H enc
    (ChangeSpec.witness6 (enc := enc) (C := Try.checked) false ⟨#[], #[.int .u64 0, .slice none 0 0, .slice none 0 0], []⟩ 8 (by kernel_rfl) (by kernel_rfl) (by kernel_rfl) (by kernel_rfl))
theorem proved : Rows.HashSumsSaid :=
  OpenClaim.holds_of_wide 4 Try.f4 rfl rfl rfl rfl rfl rfl rfl ⟨rfl, rfl, rfl, rfl, rfl⟩ rfl rfl rfl rfl rfl (by kernel_rfl) Try.func4 (by kernel_rfl)
    (of_decide_eq_true (by kernel_rfl)) (by unfold Func.isWrapper; first | (rw [if_pos (by decide +kernel)]; kernel_rfl) | (rw [if_neg (by decide +kernel)]; exact ⟨rfl, rfl⟩))
    (fun os started H enc _ => lifted0 os started H enc)
#print axioms proved
end Go.Proofs.Ytjohkaonokghbaa.hashSums
