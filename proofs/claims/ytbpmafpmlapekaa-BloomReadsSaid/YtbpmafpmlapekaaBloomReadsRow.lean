/- For any bytes, seed and version the law BloomReads returns true, and its arguments read as before. -/
import Derived.Test.YtbpmafpmlapekaaLawBl
import Derived.Test.YtbpmafpmlapekaaOpenV
import Derived.Test.YtbpmafpmlapekaaArgsA
namespace Go.Proofs.Ytbpmafpmlapekaa.bloomReads
open Go.RowKit Go.Proofs.Ytbpmafpmlapekaa
theorem ver_in {w : World} {v : Value} (h : Arg Try.prog w 35 v) : ∃ r c : Int, v = .agg #[.int .i64 r, .int .i64 c] := by
  obtain ⟨cs, rfl⟩ := h.cells (by rw [Try.underlying35])
  obtain ⟨r, c, h1, _⟩ := h.rd _ (rdVer w)
  obtain ⟨l⟩ := cs
  have h1 : l = encV (r, c) := h1
  subst h1
  exact ⟨r, c, rfl⟩
theorem walk0 (w : World) (args : Array Value) (h : Args Try.prog w Try.f4.params.toList args.toList) :
    Calls Try.prog 4 args w fun e w' => e = .returned (.bool true) ∧ Ext w w' := by
  obtain ⟨v0, v1, v2, rfl, h0, h1, h2⟩ := Args.three (t0 := 39) (t1 := 23) (t2 := 35) h
  obtain ⟨b, hb⟩ := h0.bytes Try.underlying39 Try.underlying5 (by kernel_rfl)
  obtain ⟨seed, rfl, hs⟩ := h1.int Try.underlying23
  obtain ⟨r, c, rfl⟩ := ver_in h2
  refine run3 (lawBlReads b seed r c) (in_lst encB_ok hb) in_raw (in_agg (vs := [.int .i64 r, .int .i64 c]) ?_)
  intro u hu
  simp only [List.mem_cons, List.not_mem_nil, or_false] at hu
  rcases hu with rfl | rfl <;> rfl
theorem ownKnob0 : ownKnob Try.prog.godebug = none := by kernel_rfl
theorem laidOut0 : laidOutB Try.prog = true := by kernel_rfl
set_option maxRecDepth 100000 in
theorem lifted0 (os : Os) (started : os.Started) (H : Type) (enc : TypeId × Value → H) :
    ReturnsInHanded {} Try.checked os 4 .any (Rows.bloomReadsSpec.pre6 enc Try.prog Try.f4 Rows.bloomReadsRow.domain false) (Rows.bloomReadsSpec.post enc Try.prog Try.f4 false true false false) :=
  law_lifted (C := Try.checked) (T := 4) ownKnob0 laidOut0 (by kernel_rfl) Try.func4 (by kernel_rfl) Try.underlying4 (by kernel_rfl) rfl
    (fun H ds hds => by have h : ds.length = 3 := hds; match ds, h with | [_, _, _], _ => exact ⟨rfl, rfl, rfl⟩) walk0 os started H enc
    (ChangeSpec.witness6 (enc := enc) (C := Try.checked) false ⟨#[], #[.slice none 0 0, .int .u64 0, .agg #[.int .i64 0, .int .i64 0]], []⟩ 8 (by kernel_rfl) (by kernel_rfl) (by kernel_rfl) (by kernel_rfl))
theorem proved : Rows.BloomReadsSaid :=
  OpenClaim.holds_of_wide 4 Try.f4 rfl rfl rfl rfl rfl rfl rfl ⟨rfl, rfl, rfl, rfl, rfl⟩ rfl rfl rfl rfl rfl (by kernel_rfl) Try.func4 (by kernel_rfl)
    (of_decide_eq_true (by kernel_rfl)) (by unfold Func.isWrapper; first | (rw [if_pos (by decide +kernel)]; kernel_rfl) | (rw [if_neg (by decide +kernel)]; exact ⟨rfl, rfl⟩))
    (fun os started H enc _ => lifted0 os started H enc)
#print axioms proved
end Go.Proofs.Ytbpmafpmlapekaa.bloomReads
