/- For any numbers, seed and versions the law BloomHas returns true, and its arguments read as before. -/
import Derived.Test.YtbpmafpmlapekaaLawBl
import Derived.Test.YtbpmafpmlapekaaOpenV
import Derived.Test.YtbpmafpmlapekaaArgsA
namespace Go.Proofs.Ytbpmafpmlapekaa.bloomHas
open Go.RowKit Go.Proofs.Ytbpmafpmlapekaa
theorem encV_ok : Enc 2 encV := ⟨by decide, fun _ => rfl, fun x u hu => by
  simp only [encV, List.mem_cons, List.not_mem_nil, or_false] at hu
  rcases hu with rfl | rfl <;> rfl⟩
theorem walk0 (w : World) (args : Array Value) (h : Args Try.prog w Try.f3.params.toList args.toList) :
    Calls Try.prog 3 args w fun e w' => e = .returned (.bool true) ∧ Ext w w' := by
  obtain ⟨v0, v1, v2, rfl, h0, h1, h2⟩ := Args.three (t0 := 22) (t1 := 23) (t2 := 24) h
  obtain ⟨a, b, rfl, _, _⟩ := h0.pairI
  obtain ⟨seed, rfl, hs⟩ := h1.int Try.underlying23
  obtain ⟨l, hl⟩ := h2.vers
  refine run3 (lawBlHas a b seed l) (in_agg (vs := [.int .i64 a, .int .i64 b]) ?_) in_raw (in_lst encV_ok hl)
  intro u hu
  simp only [List.mem_cons, List.not_mem_nil, or_false] at hu
  rcases hu with rfl | rfl <;> rfl
theorem ownKnob0 : ownKnob Try.prog.godebug = none := by kernel_rfl
theorem laidOut0 : laidOutB Try.prog = true := by kernel_rfl
set_option maxRecDepth 100000 in
theorem lifted0 (os : Os) (started : os.Started) (H : Type) (enc : TypeId × Value → H) :
    ReturnsInHanded {} Try.checked os 3 .any (Rows.bloomHasSpec.pre6 enc Try.prog Try.f3 Rows.bloomHasRow.domain false) (Rows.bloomHasSpec.post enc Try.prog Try.f3 false true false false) :=
  law_lifted (C := Try.checked) (T := 4) ownKnob0 laidOut0 (by kernel_rfl) Try.func3 (by kernel_rfl) Try.underlying4 (by kernel_rfl) rfl
    (fun H ds hds => by have h : ds.length = 3 := hds; match ds, h with | [_, _, _], _ => exact ⟨rfl, rfl, rfl⟩) walk0 os started H enc
    (ChangeSpec.witness6 (enc := enc) (C := Try.checked) false ⟨#[], #[.agg #[.int .i64 0, .int .i64 0], .int .u64 0, .slice none 0 0], []⟩ 8 (by kernel_rfl) (by kernel_rfl) (by kernel_rfl) (by kernel_rfl))
theorem proved : Rows.BloomHasSaid :=
  OpenClaim.holds_of_wide 3 Try.f3 rfl rfl rfl rfl rfl rfl rfl ⟨rfl, rfl, rfl, rfl, rfl⟩ rfl rfl rfl rfl rfl (by kernel_rfl) Try.func3 (by kernel_rfl)
    (of_decide_eq_true (by kernel_rfl)) (by unfold Func.isWrapper; first | (rw [if_pos (by decide +kernel)]; kernel_rfl) | (rw [if_neg (by decide +kernel)]; exact ⟨rfl, rfl⟩))
    (fun os started H enc _ => lifted0 os started H enc)
#print axioms proved
end Go.Proofs.Ytbpmafpmlapekaa.bloomHas
