/- For every list of ranges, filter of bits and items the law OrderSorts returns true, and its arguments read as before. -/
import Derived.Test.YtbpmafpmlapekaaLaw33
import Derived.Test.YtbpmafpmlapekaaOpenSeen
namespace Go.Proofs.Ytbpmafpmlapekaa.orderSorts
open Go.RowKit Go.Proofs.Ytbpmafpmlapekaa
theorem walk0 (w : World) (args : Array Value) (h : Args Try.prog w Try.f10.params.toList args.toList) :
    Calls Try.prog 10 args w fun e w' => e = .returned (.bool true) ∧ Ext w w' := by
  obtain ⟨v0, v1, v2, rfl, h0, h1, h2⟩ := Args.three (t0 := 51) (t1 := 88) (t2 := 50) h
  obtain ⟨r, hr, _⟩ := h0.ranges
  obtain ⟨b, seed, hb⟩ := h1.seen
  obtain ⟨a, ha, _⟩ := h2.items
  exact run3 (lawSorts r b seed a) (in_lst encRg_ok hr) hb (in_lst encIt_ok ha)
theorem ownKnob0 : ownKnob Try.prog.godebug = none := by kernel_rfl
theorem laidOut0 : laidOutB Try.prog = true := by kernel_rfl
set_option maxRecDepth 100000 in
theorem lifted0 (os : Os) (started : os.Started) (H : Type) (enc : TypeId × Value → H) :
    ReturnsInHanded {} Try.checked os 10 .any (Rows.orderSortsSpec.pre6 enc Try.prog Try.f10 Rows.orderSortsRow.domain false) (Rows.orderSortsSpec.post enc Try.prog Try.f10 false true false false) :=
  law_lifted (C := Try.checked) (T := 4) ownKnob0 laidOut0 (by kernel_rfl) Try.func10 (by kernel_rfl) Try.underlying4 (by kernel_rfl) rfl
    (fun H ds hds => by have h : ds.length = 3 := hds; match ds, h with | [_, _, _], _ => exact ⟨rfl, rfl, rfl⟩) walk0 os started H enc
    (ChangeSpec.witness6 (enc := enc) (C := Try.checked) false ⟨#[], #[.slice none 0 0, .agg #[.slice none 0 0, .int .u64 0], .slice none 0 0], []⟩ 8 (by kernel_rfl) (by kernel_rfl) (by kernel_rfl) (by kernel_rfl))
theorem proved : Rows.OrderSortsSaid :=
  OpenClaim.holds_of_wide 10 Try.f10 rfl rfl rfl rfl rfl rfl rfl ⟨rfl, rfl, rfl, rfl, rfl⟩ rfl rfl rfl rfl rfl (by kernel_rfl) Try.func10 (by kernel_rfl)
    (of_decide_eq_true (by kernel_rfl)) (by unfold Func.isWrapper; first | (rw [if_pos (by decide +kernel)]; kernel_rfl) | (rw [if_neg (by decide +kernel)]; exact ⟨rfl, rfl⟩))
    (fun os started H enc _ => lifted0 os started H enc)
#print axioms proved
end Go.Proofs.Ytbpmafpmlapekaa.orderSorts
