/- Runs, sets and pieces that came in. -/
import Derived.Test.YtbpmafpmlapekaaOpenP
import Derived.Test.YtbpmafpmlapekaaOpenRg
import Derived.Test.YtbpmafpmlapekaaKnT
namespace Go.Proofs.Ytbpmafpmlapekaa
open Go.RowKit
theorem rdRn (w : World) : Rd Try.prog w 132 (fun cs => ∃ x, cs = encRn x ∧ True) := by
  refine (Rd.struct' Try.underlying132).mono ?_
  rintro cs ⟨hl, hf⟩
  obtain ⟨c0, c1, rfl⟩ := list2 cs (hl.trans (by kernel_rfl))
  obtain ⟨n0, h0, w0⟩ := hf 0 0 3 1 _ rfl (by kernel_rfl) (Rd.int Try.underlying3)
  obtain ⟨n1, h1, w1⟩ := hf 1 1 3 1 _ rfl (by kernel_rfl) (Rd.int Try.underlying3)
  simp at h0 h1
  subst h0 h1
  exact ⟨⟨n0, n1⟩, rfl, trivial⟩
theorem rdpRn (w : World) : RdP Try.prog w 132 2 rnP (fun _ => True) := RdP.flat encRn_ok (rdRn w)
theorem rdpKn (w : World) : RdP Try.prog w 135 2 knP (fun _ => True) := by
  refine (Rd.struct' Try.underlying135).mono ?_
  rintro cs ⟨hl, hf⟩
  obtain ⟨c0, c1, rfl⟩ := list2 cs (hl.trans (by kernel_rfl))
  obtain ⟨n0, h0, w0⟩ := hf 0 0 3 1 _ rfl (by kernel_rfl) (Rd.int Try.underlying3)
  obtain ⟨v, l, h1, h2, _⟩ := hf 1 1 133 1 _ rfl (by kernel_rfl) ((rdpRn w).slice Try.underlying133 (by kernel_rfl) (by decide))
  simp at h0 h1
  subst h0 h1
  refine ⟨⟨n0, l⟩, trivial, rfl, rfl, fun j A u hj hu => ?_⟩
  match j, hj, hu with
  | 0, hj, hu => cases hj; cases hu; exact ⟨rfl, rfl⟩
  | 1, hj, hu => cases hj; cases hu; exact ⟨by obtain ⟨a, c, b, o, rfl, _⟩ := h2; rfl, h2⟩
  | _ + 2, hj, _ => simp at hj
theorem Arg.knowns {w : World} {v : Value} (h : Arg Try.prog w 65 v) : ∃ l : List Kn, In w v (.per (knsP l)) ∧ ∀ y ∈ l, True :=
  (rdpKn w).arg h Try.underlying65 (by kernel_rfl) (by decide)
theorem rdpPc (w : World) : RdP Try.prog w 144 4 pcP (fun p => RgWf p.rg) := by
  refine (Rd.struct' Try.underlying144).mono ?_
  rintro cs ⟨hl, hf⟩
  obtain ⟨c0, c1, c2, c3, rfl⟩ := list4 cs (hl.trans (by kernel_rfl))
  obtain ⟨r, h0, w0⟩ := hf 0 0 118 3 _ rfl (by kernel_rfl) (rdRg w)
  obtain ⟨v, l, h1, h2, _⟩ := hf 1 3 65 1 _ rfl (by kernel_rfl) ((rdpKn w).slice Try.underlying65 (by kernel_rfl) (by decide))
  simp [encRg] at h0 h1
  obtain ⟨rfl, rfl, rfl⟩ := h0
  subst h1
  refine ⟨⟨r, l⟩, w0, rfl, rfl, fun j A u hj hu => ?_⟩
  match j, hj, hu with
  | 0, hj, hu => cases hj; cases hu; exact ⟨rfl, rfl⟩
  | 1, hj, hu => cases hj; cases hu; exact ⟨rfl, rfl⟩
  | 2, hj, hu => cases hj; cases hu; exact ⟨rfl, rfl⟩
  | 3, hj, hu => cases hj; cases hu; exact ⟨by obtain ⟨a, c, b, o, rfl, _⟩ := h2; rfl, h2⟩
  | _ + 4, hj, _ => simp at hj
theorem Arg.pieces {w : World} {v : Value} (h : Arg Try.prog w 74 v) : ∃ l : List Pc, In w v (.per (pcsP l)) ∧ ∀ p ∈ l, RgWf p.rg :=
  (rdpPc w).arg h Try.underlying74 (by kernel_rfl) (by decide)
end Go.Proofs.Ytbpmafpmlapekaa
