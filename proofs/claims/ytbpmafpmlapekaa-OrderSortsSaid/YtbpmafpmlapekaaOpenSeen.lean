/- Filters' bytes with a seed, that came in. -/
import Derived.Test.YtbpmafpmlapekaaOpenRg
import Derived.Test.YtbpmafpmlapekaaArgsA
import Derived.Test.YtbpmafpmlapekaaRd
namespace Go.Proofs.Ytbpmafpmlapekaa
open Go.RowKit
theorem Arg.seen {w : World} {v : Value} (h : Arg Try.prog w 88 v) : ∃ (b : List UInt8) (seed : Int), In w v (.per (aggP [bysP b, rawP (.int .u64 seed)])) := by
  obtain ⟨cs, rfl⟩ := h.cells (by rw [Try.underlying88])
  obtain ⟨hl, hf⟩ := h.rd _ (Rd.struct' Try.underlying88)
  obtain ⟨l⟩ := cs
  obtain ⟨c0, c1, rfl⟩ := list2 l (hl.trans (by kernel_rfl))
  obtain ⟨u, b, h0, hb⟩ := hf 0 0 39 1 _ rfl (by kernel_rfl) (Rd.bytes Try.underlying39 Try.underlying5 (by kernel_rfl))
  obtain ⟨n, h1, _⟩ := hf 1 1 23 1 _ rfl (by kernel_rfl) (Rd.int Try.underlying23)
  simp [Value.cells] at h0 h1
  subst h0 h1
  refine ⟨b, n, #[c0, .int .u64 n], rfl, rfl, fun j A hj => ?_⟩
  match j, hj with
  | 0, hj =>
    cases hj
    refine ⟨c0, rfl, ?_, in_lst encB_ok hb⟩
    obtain ⟨a, c, bb, o, rfl, _⟩ := hb
    rfl
  | 1, hj => cases hj; exact ⟨_, rfl, rfl, rfl⟩
  | _ + 2, hj => simp at hj
end Go.Proofs.Ytbpmafpmlapekaa
