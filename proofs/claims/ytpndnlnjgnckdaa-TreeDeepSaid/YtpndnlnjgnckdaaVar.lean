/- Numbers and texts as bytes, as the abstract walks use them. -/
import Derived.Test.YtpndnlnjgnckdaaAdapt
import Derived.Test.YtpndnlnjgnckdaaVarintRef
namespace Go.Proofs.Ytpndnlnjgnckdaa
open Go.RowKit
abbrev ownB (l : List UInt8) : Ret := .own 5 1 (l.map byteP)
theorem varint_Put (l : List UInt8) (ns : List Int) (hb : l.length + 9 * ns.length ≤ 1000000000000) (hok : ∀ n ∈ ns, okNum n) :
    Fn Try.prog 75 [bytesB l, intsB ns] (.tup2 (ownB (l ++ ns.flatMap numI)) (.per (rawP (.int .i64 0)))) := by
  refine ⟨⟨_, Try.func75, by kernel_rfl, by kernel_rfl⟩, fun N0 w vs _ ha => ?_⟩
  obtain ⟨v, u, rfl, h1, h2⟩ := args2 ha
  refine Calls.mono (put_ok v u l ns w (lst_bs h1) (lst_sl h2) (by omega) hok) ?_
  rintro e w' ⟨v', rfl, h⟩
  exact ⟨_, rfl, h.ext, _, _, rfl, sl_own encB_ok h, rfl⟩
theorem varint_Text (l : List UInt8) (ss : List ByteArray) (hb : l.length + (ss.flatMap textB).length ≤ 1000000000000) :
    Fn Try.prog 67 [bytesB l, strsB ss] (ownB (l ++ ss.flatMap textB)) := by
  refine ⟨⟨_, Try.func67, by kernel_rfl, by kernel_rfl⟩, fun N0 w vs _ ha => ?_⟩
  obtain ⟨v, u, rfl, h1, h2⟩ := args2 ha
  refine Calls.mono (text_any v u l ss w (lst_bs h1) (lst_sl h2) (by omega)) ?_
  rintro e w' ⟨v', rfl, h⟩
  exact ⟨_, rfl, h.ext, sl_own encB_ok h⟩
theorem ref_Put (ns : List Int) (hb : ns.length ≤ 1000000000) (hok : ∀ n ∈ ns, okNum n) : Fn Try.prog 77 [intsB ns] (ownB (ns.flatMap numI)) := by
  refine ⟨⟨_, Try.func77, by kernel_rfl, by kernel_rfl⟩, fun N0 w vs _ ha => ?_⟩
  obtain ⟨v, rfl, h1⟩ := args1 ha
  refine Calls.mono (refPut_any v ns w (lst_sl h1) (by omega) hok) ?_
  rintro e w' ⟨v', rfl, h⟩
  exact ⟨_, rfl, h.ext, sl_own encB_ok h⟩
theorem ref_Text (s : ByteArray) (hb : s.size ≤ 70368744177664) : Fn Try.prog 73 [sC s] (ownB (textB s)) := by
  refine ⟨⟨_, Try.func73, by kernel_rfl, by kernel_rfl⟩, fun N0 w vs _ ha => ?_⟩
  obtain ⟨v, rfl, h1⟩ := args1 ha
  obtain rfl : v = .string s := h1
  refine Calls.mono (refText_any s w hb) ?_
  rintro e w' ⟨v', rfl, h⟩
  exact ⟨_, rfl, h.ext, sl_own encB_ok h⟩
end Go.Proofs.Ytpndnlnjgnckdaa
