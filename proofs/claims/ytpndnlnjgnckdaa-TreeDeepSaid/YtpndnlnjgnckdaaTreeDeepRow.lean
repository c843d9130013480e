/- For every two bytes and every list of bytes the law TreeDeep returns true, and its arguments read as before. -/
import Derived.Test.YtpndnlnjgnckdaaTrQ
import Derived.Test.YtpndnlnjgnckdaaOpenIt
import Derived.Test.YtpndnlnjgnckdaaArgsA
namespace Go.Proofs.Ytpndnlnjgnckdaa.treeDeep
open Go.RowKit Go.Proofs.Ytpndnlnjgnckdaa
theorem wf_u8 {a : Int} (h : (Lit.int .u8 a).wf = true) : ∃ c : UInt8, a = (c.toNat : Int) := by
  simp [Lit.wf] at h
  have e0 : IntKind.u8.min = 0 := by decide
  have e1 : IntKind.u8.max = 255 := by decide
  exact ⟨UInt8.ofNat a.toNat, by simp; omega⟩
theorem walk0 (w : World) (args : Array Value) (h : Args Try.prog w Try.f6.params.toList args.toList) :
    Calls Try.prog 6 args w fun e w' => e = .returned (.bool true) ∧ Ext w w' := by
  obtain ⟨v0, v1, v2, rfl, h0, h1, h2⟩ := Args.three (t0 := 5) (t1 := 5) (t2 := 60) h
  obtain ⟨n, rfl, hn⟩ := h0.int Try.underlying5
  obtain ⟨s, rfl, hs⟩ := h1.int Try.underlying5
  obtain ⟨a, rfl⟩ := wf_u8 hn
  obtain ⟨b, rfl⟩ := wf_u8 hs
  obtain ⟨d, hd⟩ := h2.bytes Try.underlying60 Try.underlying5 (by kernel_rfl)
  exact run3 (law_treeDeep a b d) in_raw in_raw (in_lst encB_ok hd)
theorem ownKnob0 : ownKnob Try.prog.godebug = none := by kernel_rfl
theorem laidOut0 : laidOutB Try.prog = true := by kernel_rfl
set_option maxRecDepth 100000 in
theorem lifted0 (os : Os) (started : os.Started) (H : Type) (enc : TypeId × Value → H) :
    ReturnsInHanded {} Try.checked os 6 .any (Rows.treeDeepSpec.pre6 enc Try.prog Try.f6 Rows.treeDeepRow.domain false) (Rows.treeDeepSpec.post enc Try.prog Try.f6 false true false false) :=
  law_lifted (C := Try.checked) (T := 4) ownKnob0 laidOut0 (by kernel_rfl) Try.func6 (by kernel_rfl) Try.underlying4 (by kernel_rfl) rfl
    (fun H ds hds => by have h : ds.length = 3 := hds; match ds, h with | [_, _, _], _ => exact ⟨rfl, rfl, rfl⟩) walk0 os started H enc
    (ChangeSpec.witness6 (enc := enc) (C := Try.checked) false ⟨#[], #[.int .u8 0, .int .u8 0, .slice none 0 0], []⟩ 8 (by kernel_rfl) (by kernel_rfl) (by kernel_rfl) (by kernel_rfl))
theorem proved : Rows.TreeDeepSaid :=
  OpenClaim.holds_of_wide 6 Try.f6 rfl rfl rfl rfl rfl rfl rfl ⟨rfl, rfl, rfl, rfl, rfl⟩ rfl rfl rfl rfl rfl (by kernel_rfl) Try.func6 (by kernel_rfl)
    (of_decide_eq_true (by kernel_rfl)) (by unfold Func.isWrapper; first | (rw [if_pos (by decide +kernel)]; kernel_rfl) | (rw [if_neg (by decide +kernel)]; exact ⟨rfl, rfl⟩))
    (fun os started H enc _ => lifted0 os started H enc)
#print axioms proved
end Go.Proofs.Ytpndnlnjgnckdaa.treeDeep
