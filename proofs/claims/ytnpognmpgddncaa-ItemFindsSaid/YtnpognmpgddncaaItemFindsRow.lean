/- For every list of items and every text the law ItemFinds returns true, and its arguments read as before. -/
import Derived.Test.YtnpognmpgddncaaLawFd
import Derived.Test.YtnpognmpgddncaaArgsA
namespace Go.Proofs.Ytnpognmpgddncaa.itemFinds
open Go.RowKit Go.Proofs.Ytnpognmpgddncaa
theorem walk0 (w : World) (args : Array Value) (h : Args Try.prog w Try.f9.params.toList args.toList) :
    Calls Try.prog 9 args w fun e w' => e = .returned (.bool true) ∧ Ext w w' := by
  obtain ⟨v0, v1, rfl, h0, h1⟩ := Args.two (t0 := 28) (t1 := 9) h
  obtain ⟨l, hl, _⟩ := h0.items
  obtain ⟨k, rfl, hk⟩ := h1.string Try.underlying9
  exact run2 (lawFinds l k hk) (in_lst encIt_ok hl) in_raw
theorem ownKnob0 : ownKnob Try.prog.godebug = none := by kernel_rfl
theorem laidOut0 : laidOutB Try.prog = true := by kernel_rfl
set_option maxRecDepth 100000 in
theorem lifted0 (os : Os) (started : os.Started) (H : Type) (enc : TypeId × Value → H) :
    ReturnsInHanded {} Try.checked os 9 .any (Rows.itemFindsSpec.pre6 enc Try.prog Try.f9 Rows.itemFindsRow.domain false) (Rows.itemFindsSpec.post enc Try.prog Try.f9 false true false false) :=
  law_lifted (C := Try.checked) (T := 4) ownKnob0 laidOut0 (by kernel_rfl) Try.func9 (by kernel_rfl) Try.underlying4 (by kernel_rfl) rfl
    (fun H ds hds => by have h : ds.length = 2 := hds; match ds, h with | [_, _], _ => exact ⟨rfl, rfl, rfl⟩) walk0 os started H enc
    (ChangeSpec.witness6 (enc := enc) (C := Try.checked) false ⟨#[], #[.slice none 0 0, .string ⟨#[]⟩], []⟩ 8 (by kernel_rfl) (by kernel_rfl) (by kernel_rfl) (by kernel_rfl))
theorem proved : Rows.ItemFindsSaid :=
  OpenClaim.holds_of_wide 9 Try.f9 rfl rfl rfl rfl rfl rfl rfl ⟨rfl, rfl, rfl, rfl, rfl⟩ rfl rfl rfl rfl rfl (by kernel_rfl) Try.func9 (by kernel_rfl)
    (of_decide_eq_true (by kernel_rfl)) (by unfold Func.isWrapper; first | (rw [if_pos (by decide +kernel)]; kernel_rfl) | (rw [if_neg (by decide +kernel)]; exact ⟨rfl, rfl⟩))
    (fun os started H enc _ => lifted0 os started H enc)
#print axioms proved
end Go.Proofs.Ytnpognmpgddncaa.itemFinds
