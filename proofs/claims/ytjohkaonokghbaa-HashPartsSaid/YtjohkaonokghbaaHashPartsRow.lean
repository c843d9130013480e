/- For every seed, parts and number of bits the law HashParts returns true, and its arguments read as before. -/
import Derived.Test.YtjohkaonokghbaaHashParts
import Derived.Test.YtjohkaonokghbaaOpen
namespace Go.Proofs.Ytjohkaonokghbaa.hashParts
open Go.RowKit Go.Proofs.Ytjohkaonokghbaa
theorem walk0 (w : World) (args : Array Value) (h : Args Try.prog w Try.f3.params.toList args.toList) :
    Calls Try.prog 3 args w fun e w' => e = .returned (.bool true) ∧ Ext w w' := by
  obtain ⟨v0, v1, v2, rfl, h0, h1, h2⟩ := Args.three (t0 := 22) (t1 := 23) (t2 := 3) h
  obtain ⟨seed, rfl, hs⟩ := h0.int Try.underlying22
  obtain ⟨ls, hl⟩ := h1.bytess Try.underlying23 Try.underlying25 Try.underlying5 (by kernel_rfl) (by kernel_rfl)
  obtain ⟨n, rfl, hn⟩ := h2.int Try.underlying3
  exact hashParts_any seed n v1 ls w hl
theorem ownKnob0 : ownKnob Try.prog.godebug = none := by kernel_rfl
theorem laidOut0 : laidOutB Try.prog = true := by kernel_rfl
set_option maxRecDepth 100000 in
theorem lifted0 (os : Os) (started : os.Started) (H : Type) (enc : TypeId × Value → H) :
    ReturnsInHanded {} Try.checked os 3 .any (Rows.hashPartsSpec.pre6 enc Try.prog Try.f3 Rows.hashPartsRow.domain false) (Rows.hashPartsSpec.post enc Try.prog Try.f3 false true false false) :=
  law_lifted (C := Try.checked) (T := 4) ownKnob0 laidOut0 (by kernel_rfl) Try.func3 (by kernel_rfl) Try.underlying4 (by kernel_rfl) rfl
    (fun H ds hds => by have h : ds.length = 3 := hds; match ds, h with | [_, _, _], _ => exact ⟨rfl, rfl, rfl⟩) walk0 os started H enc
    (ChangeSpec.witness6 (enc := enc) (C := Try.checked) false ⟨#[], #[.int .u64 0, .slice none 0 0, .int .i64 0], []⟩ 8 (by kernel_rfl) (by kernel_rfl) (by kernel_rfl) (by kernel_rfl))
theorem proved : Rows.HashPartsSaid :=
  OpenClaim.holds_of_wide 3 Try.f3 rfl rfl rfl rfl rfl rfl rfl ⟨rfl, rfl, rfl, rfl, rfl⟩ rfl rfl rfl rfl rfl (by kernel_rfl) Try.func3 (by kernel_rfl)
    (of_decide_eq_true (by kernel_rfl)) (by unfold Func.isWrapper; first | (rw [if_pos (by decide +kernel)]; kernel_rfl) | (rw [if_neg (by decide +kernel)]; exact ⟨rfl, rfl⟩))
    (fun os started H enc _ => lifted0 os started H enc)
#print axioms proved
end Go.Proofs.Ytjohkaonokghbaa.hashParts
