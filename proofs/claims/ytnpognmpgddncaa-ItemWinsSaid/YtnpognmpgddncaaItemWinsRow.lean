/- For every list of items and any two items the law ItemWins returns true, and its arguments read as before. -/
import Derived.Test.YtnpognmpgddncaaLaw18
import Derived.Test.YtnpognmpgddncaaArgsA
namespace Go.Proofs.Ytnpognmpgddncaa.itemWins
open Go.RowKit Go.Proofs.Ytnpognmpgddncaa
theorem walk0 (w : World) (args : Array Value) (h : Args Try.prog w Try.f4.params.toList args.toList) :
    Calls Try.prog 4 args w fun e w' => e = .returned (.bool true) ∧ Ext w w' := by
  obtain ⟨v0, v1, v2, rfl, h0, h1, h2⟩ := Args.three (t0 := 28) (t1 := 25) (t2 := 25) h
  obtain ⟨l, hl, _⟩ := h0.items
  obtain ⟨a, rfl, _⟩ := h1.item
  obtain ⟨b, rfl, _⟩ := h2.item
  exact run3 (lawWins l a b) (in_lst encIt_ok hl) (in_agg (encIt_ok.one a)) (in_agg (encIt_ok.one b))
theorem ownKnob0 : ownKnob Try.prog.godebug = none := by kernel_rfl
theorem laidOut0 : laidOutB Try.prog = true := by kernel_rfl
set_option maxRecDepth 100000 in
theorem lifted0 (os : Os) (started : os.Started) (H : Type) (enc : TypeId × Value → H) :
    ReturnsInHanded {} Try.checked os 4 .any (Rows.itemWinsSpec.pre6 enc Try.prog Try.f4 Rows.itemWinsRow.domain false) (Rows.itemWinsSpec.post enc Try.prog Try.f4 false true false false) :=
  law_lifted (C := Try.checked) (T := 4) ownKnob0 laidOut0 (by kernel_rfl) Try.func4 (by kernel_rfl) Try.underlying4 (by kernel_rfl) rfl
    (fun H ds hds => by have h : ds.length = 3 := hds; match ds, h with | [_, _, _], _ => exact ⟨rfl, rfl, rfl⟩) walk0 os started H enc
    (ChangeSpec.witness6 (enc := enc) (C := Try.checked) false ⟨#[], #[.slice none 0 0, .agg #[.string ⟨#[]⟩, .int .i64 0, .int .i64 0, .int .i64 0, .int .i64 0, .bool false, .string ⟨#[]⟩], .agg #[.string ⟨#[]⟩, .int .i64 0, .int .i64 0, .int .i64 0, .int .i64 0, .bool false, .string ⟨#[]⟩]], []⟩ 8 (by kernel_rfl) (by kernel_rfl) (by kernel_rfl) (by kernel_rfl))
theorem proved : Rows.ItemWinsSaid :=
  OpenClaim.holds_of_wide 4 Try.f4 rfl rfl rfl rfl rfl rfl rfl ⟨rfl, rfl, rfl, rfl, rfl⟩ rfl rfl rfl rfl rfl (by kernel_rfl) Try.func4 (by kernel_rfl)
    (of_decide_eq_true (by kernel_rfl)) (by unfold Func.isWrapper; first | (rw [if_pos (by decide +kernel)]; kernel_rfl) | (rw [if_neg (by decide +kernel)]; exact ⟨rfl, rfl⟩))
    (fun os started H enc _ => lifted0 os started H enc)
#print axioms proved
end Go.Proofs.Ytnpognmpgddncaa.itemWins
