/- For every list of items and every number of 8 bits the law BatchMany returns true, and its arguments read as before. -/
import Derived.Test.YtjohkaonokghbaaLawMany
import Derived.Test.YtjohkaonokghbaaArgsA
namespace Go.Proofs.Ytjohkaonokghbaa.batchMany
open Go.RowKit Go.Proofs.Ytjohkaonokghbaa
theorem walk0 (w : World) (args : Array Value) (h : Args Try.prog w Try.f10.params.toList args.toList) :
    Calls Try.prog 10 args w fun e w' => e = .returned (.bool true) ∧ Ext w w' := by
  obtain ⟨v0, v1, rfl, h0, h1⟩ := Args.two (t0 := 30) (t1 := 5) h
  obtain ⟨l, hl, _⟩ := h0.items
  obtain ⟨n, rfl, hn⟩ := h1.int Try.underlying5
  have hb := bounds_u8 hn
  exact run2 (lawMany l n hb.1 hb.2) (in_lst encIt_ok hl) in_raw
theorem ownKnob0 : ownKnob Try.prog.godebug = none := by kernel_rfl
theorem laidOut0 : laidOutB Try.prog = true := by kernel_rfl
set_option maxRecDepth 100000 in
theorem lifted0 (os : Os) (started : os.Started) (H : Type) (enc : TypeId × Value → H) :
    ReturnsInHanded {} Try.checked os 10 .any (Rows.batchManySpec.pre6 enc Try.prog Try.f10 Rows.batchManyRow.domain false) (Rows.batchManySpec.post enc Try.prog Try.f10 false true false false) :=
  law_lifted (C := Try.checked) (T := 4) ownKnob0 laidOut0 (by kernel_rfl) Try.func10 (by kernel_rfl) Try.underlying4 (by kernel_rfl) rfl
    (fun H ds hds => by have h : ds.length = 2 := hds; match ds, h with | [_, _], _ => exact ⟨rfl, rfl, rfl⟩) walk0 os started H enc
    (ChangeSpec.witness6 (enc := enc) (C := Try.checked) false ⟨#[], #[.slice none 0 0, .int .u8 0], []⟩ 8 (by kernel_rfl) (by kernel_rfl) (by kernel_rfl) (by kernel_rfl))
theorem proved : Rows.BatchManySaid :=
  OpenClaim.holds_of_wide 10 Try.f10 rfl rfl rfl rfl rfl rfl rfl ⟨rfl, rfl, rfl, rfl, rfl⟩ rfl rfl rfl rfl rfl (by kernel_rfl) Try.func10 (by kernel_rfl)
    (of_decide_eq_true (by kernel_rfl)) (by unfold Func.isWrapper; first | (rw [if_pos (by decide +kernel)]; kernel_rfl) | (rw [if_neg (by decide +kernel)]; exact ⟨rfl, rfl⟩))
    (fun os started H enc _ => lifted0 os started H enc)
#print axioms proved
end Go.Proofs.Ytjohkaonokghbaa.batchMany
