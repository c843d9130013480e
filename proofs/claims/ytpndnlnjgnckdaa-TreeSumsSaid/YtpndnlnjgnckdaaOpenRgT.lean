/- Doings that came in. -/
import Derived.Test.YtpndnlnjgnckdaaOpenIt
import Derived.Test.YtpndnlnjgnckdaaArgsA
import Derived.Test.YtpndnlnjgnckdaaTrK
import Derived.Test.YtpndnlnjgnckdaaRg
namespace Go.Proofs.Ytpndnlnjgnckdaa
open Go.RowKit
def encDt (d : Dt) : List Value := .bool d.drop :: encIt d.x
theorem encDt_ok : Enc 8 encDt := ⟨by decide, fun _ => rfl, fun d u hu => by
  unfold encDt at hu
  rcases List.mem_cons.1 hu with rfl | hu
  · rfl
  · exact encIt_ok.one d.x u hu⟩
theorem list8 {α : Type} (l : List α) (h : l.length = 8) : ∃ a b c d e f g k, l = [a, b, c, d, e, f, g, k] := by
  match l, h with | [a, b, c, d, e, f, g, k], _ => exact ⟨a, b, c, d, e, f, g, k, rfl⟩
theorem rdDt (w : World) : Rd Try.prog w 74 (fun cs => ∃ d, cs = encDt d ∧ True) := by
  refine (Rd.struct' Try.underlying74).mono ?_
  rintro cs ⟨hl, hf⟩
  obtain ⟨c0, c1, c2, c3, c4, c5, c6, c7, rfl⟩ := list8 cs (hl.trans (by kernel_rfl))
  obtain ⟨b, h0⟩ := hf 0 0 4 1 _ rfl (by kernel_rfl) (Rd.bool Try.underlying4)
  obtain ⟨x, h1, _⟩ := hf 1 1 35 7 _ rfl (by kernel_rfl) (rdIt w)
  simp at h0 h1
  subst h0
  exact ⟨⟨b, x⟩, by rw [h1]; rfl, trivial⟩
theorem Arg.dts {w : World} {v : Value} (h : Arg Try.prog w 42 v) : ∃ l : List Dt, Sl 8 encDt w v l := by
  obtain ⟨l, hl, _⟩ := h.flats (k := 8) (enc := encDt) (G := fun _ => True) Try.underlying42 (by kernel_rfl) (by decide) (rdDt w) (fun cs ⟨x, h1, _⟩ => ⟨x, h1, trivial⟩)
  exact ⟨l, hl⟩
end Go.Proofs.Ytpndnlnjgnckdaa
namespace Go.Proofs.Ytpndnlnjgnckdaa
open Go.RowKit
theorem list3 {α : Type} (l : List α) (h : l.length = 3) : ∃ a b c, l = [a, b, c] := by
  match l, h with | [a, b, c], _ => exact ⟨a, b, c, rfl⟩
def RgWf (x : Rg) : Prop := x.lo.size ≤ maxLen ∧ x.hi.size ≤ maxLen
theorem rdRg (w : World) : Rd Try.prog w 24 (fun cs => ∃ x, cs = encRg x ∧ RgWf x) := by
  refine (Rd.struct' Try.underlying24).mono ?_
  rintro cs ⟨hl, hf⟩
  obtain ⟨c0, c1, c2, rfl⟩ := list3 cs (hl.trans (by kernel_rfl))
  obtain ⟨s0, h0, w0⟩ := hf 0 0 9 1 _ rfl (by kernel_rfl) (Rd.string Try.underlying9)
  obtain ⟨s1, h1, w1⟩ := hf 1 1 9 1 _ rfl (by kernel_rfl) (Rd.string Try.underlying9)
  obtain ⟨b2, h2⟩ := hf 2 2 4 1 _ rfl (by kernel_rfl) (Rd.bool Try.underlying4)
  simp at h0 h1 h2
  subst h0 h1 h2
  exact ⟨⟨s0, s1, b2⟩, rfl, w0, w1⟩
theorem Arg.range {w : World} {v : Value} (h : Arg Try.prog w 24 v) : ∃ x, v = .agg (encRg x).toArray ∧ RgWf x := by
  obtain ⟨cs, rfl⟩ := h.cells (by rw [Try.underlying24])
  obtain ⟨x, h1, h2⟩ := h.rd _ (rdRg w)
  refine ⟨x, ?_, h2⟩
  rw [← h1]; simp [Value.cells]
end Go.Proofs.Ytpndnlnjgnckdaa
