/- For any bytes and any calls of a reader the law VarintReads returns true, and its arguments read as before. -/
import Derived.Test.YtjohkaonokghbaaVarintReads
import Derived.Test.YtjohkaonokghbaaOpen
namespace Go.Proofs.Ytjohkaonokghbaa.varintReads
open Go.RowKit Go.Proofs.Ytjohkaonokghbaa
theorem list3 {α : Type} (l : List α) (h : l.length = 3) : ∃ a b c, l = [a, b, c] := by
  match l, h with | [a, b, c], _ => exact ⟨a, b, c, rfl⟩
theorem rdDo (w : World) : Rd Try.prog w 95 (fun cs => ∃ d : DoR, cs = encDo d) := by
  refine (Rd.struct' Try.underlying95).mono ?_
  rintro cs ⟨hl, hf⟩
  obtain ⟨c0, c1, c2, rfl⟩ := list3 cs (hl.trans (by kernel_rfl))
  obtain ⟨r, h1, w1⟩ := hf 0 0 3 1 _ rfl (by kernel_rfl) (Rd.int Try.underlying3)
  obtain ⟨c, h2, w2⟩ := hf 1 1 3 1 _ rfl (by kernel_rfl) (Rd.int Try.underlying3)
  obtain ⟨d, h3, w3⟩ := hf 2 2 3 1 _ rfl (by kernel_rfl) (Rd.int Try.underlying3)
  simp at h1 h2 h3
  subst h1 h2 h3
  exact ⟨⟨r, c, d⟩, rfl⟩
theorem walk0 (w : World) (args : Array Value) (h : Args Try.prog w Try.f12.params.toList args.toList) :
    Calls Try.prog 12 args w fun e w' => e = .returned (.bool true) ∧ Ext w w' := by
  obtain ⟨v0, v1, rfl, h0, h1⟩ := Args.two (t0 := 25) (t1 := 90) h
  obtain ⟨b, hb⟩ := h0.bytes Try.underlying25 Try.underlying5 (by kernel_rfl)
  obtain ⟨ds, hd, _⟩ := h1.flats (k := 3) (enc := encDo) (G := fun _ => True) Try.underlying90 (by kernel_rfl) (by decide) (rdDo w) (fun cs ⟨s, h1⟩ => ⟨s, h1, trivial⟩)
  exact varintReads_any v0 v1 b ds w hb hd
theorem ownKnob0 : ownKnob Try.prog.godebug = none := by kernel_rfl
theorem laidOut0 : laidOutB Try.prog = true := by kernel_rfl
set_option maxRecDepth 100000 in
theorem lifted0 (os : Os) (started : os.Started) (H : Type) (enc : TypeId × Value → H) :
    ReturnsInHanded {} Try.checked os 12 .any (Rows.varintReadsSpec.pre6 enc Try.prog Try.f12 Rows.varintReadsRow.domain false) (Rows.varintReadsSpec.post enc Try.prog Try.f12 false true false false) :=
  law_lifted (C := Try.checked) (T := 4) ownKnob0 laidOut0 (by kernel_rfl) Try.func12 (by kernel_rfl) Try.underlying4 (by kernel_rfl) rfl
    (fun H ds hds => by have h : ds.length = 2 := hds; match ds, h with | [_, _], _ => exact ⟨rfl, rfl, rfl⟩) walk0 os started H enc
    (ChangeSpec.witness6 (enc := enc) (C := Try.checked) false ⟨#[], #[.slice none 0 0, .slice none 0 0], []⟩ 8 (by kernel_rfl) (by kernel_rfl) (by kernel_rfl) (by kernel_rfl))
theorem proved : Rows.VarintReadsSaid :=
  OpenClaim.holds_of_wide 12 Try.f12 rfl rfl rfl rfl rfl rfl rfl ⟨rfl, rfl, rfl, rfl, rfl⟩ rfl rfl rfl rfl rfl (by kernel_rfl) Try.func12 (by kernel_rfl)
    (of_decide_eq_true (by kernel_rfl)) (by unfold Func.isWrapper; first | (rw [if_pos (by decide +kernel)]; kernel_rfl) | (rw [if_neg (by decide +kernel)]; exact ⟨rfl, rfl⟩))
    (fun os started H enc _ => lifted0 os started H enc)
#print axioms proved
end Go.Proofs.Ytjohkaonokghbaa.varintReads
