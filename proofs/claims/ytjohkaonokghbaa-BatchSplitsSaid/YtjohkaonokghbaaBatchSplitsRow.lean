/- For every limit and every list of items the law BatchSplits returns true, and its arguments read as before. -/
import Derived.Test.YtjohkaonokghbaaLaw34
import Derived.Test.YtjohkaonokghbaaArgsA
namespace Go.Proofs.Ytjohkaonokghbaa.batchSplits
open Go.RowKit Go.Proofs.Ytjohkaonokghbaa
theorem walk0 (w : World) (args : Array Value) (h : Args Try.prog w Try.f8.params.toList args.toList) :
    Calls Try.prog 8 args w fun e w' => e = .returned (.bool true) ∧ Ext w w' := by
  obtain ⟨v0, v1, rfl, h0, h1⟩ := Args.two (t0 := 3) (t1 := 30) h
  obtain ⟨n, rfl, hn⟩ := h0.int Try.underlying3
  obtain ⟨l, hl, _⟩ := h1.items
  have hb := bounds_i64 hn
  exact run2 (lawSplits n l hb.1 hb.2) in_raw (in_lst encIt_ok hl)
theorem ownKnob0 : ownKnob Try.prog.godebug = none := by kernel_rfl
theorem laidOut0 : laidOutB Try.prog = true := by kernel_rfl
set_option maxRecDepth 100000 in
theorem lifted0 (os : Os) (started : os.Started) (H : Type) (enc : TypeId × Value → H) :
    ReturnsInHanded {} Try.checked os 8 .any (Rows.batchSplitsSpec.pre6 enc Try.prog Try.f8 Rows.batchSplitsRow.domain false) (Rows.batchSplitsSpec.post enc Try.prog Try.f8 false true false false) :=
  law_lifted (C := Try.checked) (T := 4) ownKnob0 laidOut0 (by kernel_rfl) Try.func8 (by kernel_rfl) Try.underlying4 (by kernel_rfl) rfl
    (fun H ds hds => by have h : ds.length = 2 := hds; match ds, h with | [_, _], _ => exact ⟨rfl, rfl, rfl⟩) walk0 os started H enc
    (ChangeSpec.witness6 (enc := enc) (C := Try.checked) false ⟨#[], #[.int .i64 0, .slice none 0 0], []⟩ 8 (by kernel_rfl) (by kernel_rfl) (by kernel_rfl) (by kernel_rfl))
theorem proved : Rows.BatchSplitsSaid :=
  OpenClaim.holds_of_wide 8 Try.f8 rfl rfl rfl rfl rfl rfl rfl ⟨rfl, rfl, rfl, rfl, rfl⟩ rfl rfl rfl rfl rfl (by kernel_rfl) Try.func8 (by kernel_rfl)
    (of_decide_eq_true (by kernel_rfl)) (by unfold Func.isWrapper; first | (rw [if_pos (by decide +kernel)]; kernel_rfl) | (rw [if_neg (by decide +kernel)]; exact ⟨rfl, rfl⟩))
    (fun os started H enc _ => lifted0 os started H enc)
#print axioms proved
end Go.Proofs.Ytjohkaonokghbaa.batchSplits
