/- For any bytes, numbers and texts the law VarintPuts returns true, and its arguments read as before. -/
import Derived.Test.YtjohkaonokghbaaVarintPuts
import Derived.Test.YtjohkaonokghbaaOpen
namespace Go.Proofs.Ytjohkaonokghbaa.varintPuts
open Go.RowKit Go.Proofs.Ytjohkaonokghbaa
theorem walk0 (w : World) (args : Array Value) (h : Args Try.prog w Try.f11.params.toList args.toList) :
    Calls Try.prog 11 args w fun e w' => e = .returned (.bool true) ∧ Ext w w' := by
  obtain ⟨v0, v1, v2, rfl, h0, h1, h2⟩ := Args.three (t0 := 25) (t1 := 42) (t2 := 84) h
  obtain ⟨b, hb⟩ := h0.bytes Try.underlying25 Try.underlying5 (by kernel_rfl)
  obtain ⟨ns, hn, _⟩ := h1.ints Try.underlying42 Try.underlying3 (by kernel_rfl)
  obtain ⟨ss, hs, _⟩ := h2.flats (k := 1) (enc := encS) (G := fun _ => True) Try.underlying84 (by kernel_rfl) (by decide) (Rd.string Try.underlying9) (fun cs ⟨s, h1, _⟩ => ⟨s, h1, trivial⟩)
  exact varintPuts_any v0 v1 v2 b ns ss w hb hn hs
theorem ownKnob0 : ownKnob Try.prog.godebug = none := by kernel_rfl
theorem laidOut0 : laidOutB Try.prog = true := by kernel_rfl
set_option maxRecDepth 100000 in
theorem lifted0 (os : Os) (started : os.Started) (H : Type) (enc : TypeId × Value → H) :
    ReturnsInHanded {} Try.checked os 11 .any (Rows.varintPutsSpec.pre6 enc Try.prog Try.f11 Rows.varintPutsRow.domain false) (Rows.varintPutsSpec.post enc Try.prog Try.f11 false true false false) :=
  law_lifted (C := Try.checked) (T := 4) ownKnob0 laidOut0 (by kernel_rfl) Try.func11 (by kernel_rfl) Try.underlying4 (by kernel_rfl) rfl
    (fun H ds hds => by have h : ds.length = 3 := hds; match ds, h with | [_, _, _], _ => exact ⟨rfl, rfl, rfl⟩) walk0 os started H enc
    (ChangeSpec.witness6 (enc := enc) (C := Try.checked) false ⟨#[], #[.slice none 0 0, .slice none 0 0, .slice none 0 0], []⟩ 8 (by kernel_rfl) (by kernel_rfl) (by kernel_rfl) (by kernel_rfl))
theorem proved : Rows.VarintPutsSaid :=
  OpenClaim.holds_of_wide 11 Try.f11 rfl rfl rfl rfl rfl rfl rfl ⟨rfl, rfl, rfl, rfl, rfl⟩ rfl rfl rfl rfl rfl (by kernel_rfl) Try.func11 (by kernel_rfl)
    (of_decide_eq_true (by kernel_rfl)) (by unfold Func.isWrapper; first | (rw [if_pos (by decide +kernel)]; kernel_rfl) | (rw [if_neg (by decide +kernel)]; exact ⟨rfl, rfl⟩))
    (fun os started H enc _ => lifted0 os started H enc)
#print axioms proved
end Go.Proofs.Ytjohkaonokghbaa.varintPuts
