/- Hashes of items, as the abstract walks use them. -/
import Derived.Test.YtpndnlnjgnckdaaAdapt
import Derived.Test.YtpndnlnjgnckdaaHashRef
import Derived.Test.YtpndnlnjgnckdaaBase
namespace Go.Proofs.Ytpndnlnjgnckdaa
open Go.RowKit
theorem agg_raw {N : BP} {w : World} {vs : List Value} {v : Value} (h : (aggP (vs.map rawP)).p N w v) : v = .agg vs.toArray := by
  obtain ⟨us, rfl, hs, hc⟩ := h
  congr 1
  apply Array.ext
  · simpa using hs
  · intro i h1 h2
    have hv : vs[i]? = some (vs.toArray[i]) := by simp
    obtain ⟨y, hy, -, hr⟩ := hc i (rawP (vs.toArray[i])) (by rw [List.getElem?_map, hv]; rfl)
    have hr : y = vs.toArray[i] := hr
    have : us[i]? = some us[i] := by simp [h1]
    rw [this] at hy
    cases hy
    exact hr
theorem agg_it {N : BP} {w : World} {v : Value} {x : It} (h : (aggP (itP x)).p N w v) : v = itV x := agg_raw (vs := encIt x) h
theorem hash_Item (seed : Int) (x : It) : Fn Try.prog 33 [iC .u64 seed, .per (aggP (itP x))] (.per (rawP (.int .u64 (hItem seed x)))) := by
  refine ⟨⟨_, Try.func33, by kernel_rfl, by kernel_rfl⟩, fun N0 w vs _ ha => ?_⟩
  obtain ⟨v, u, rfl, h1, h2⟩ := args2 ha
  obtain rfl : v = .int .u64 seed := h1
  obtain rfl : u = itV x := agg_it h2
  refine Calls.mono (hItem_any seed x w) ?_
  rintro e w' ⟨rfl, h⟩
  exact ⟨_, rfl, h, rfl⟩
theorem hash_Cut (h n : Int) (h0 : 0 ≤ h) (h1 : h < 18446744073709551616) : Fn Try.prog 36 [iC .u64 h, iC .i64 n] (.per (rawP (.int .u64 (cut h n)))) := by
  refine ⟨⟨_, Try.func36, by kernel_rfl, by kernel_rfl⟩, fun N0 w vs _ ha => ?_⟩
  obtain ⟨v, u, rfl, e1, e2⟩ := args2 ha
  obtain rfl : v = .int .u64 h := e1
  obtain rfl : u = .int .i64 n := e2
  refine Calls.mono (cut_any h n w h0 h1) ?_
  rintro e w' ⟨rfl, rfl⟩
  exact ⟨_, rfl, Ext.refl _, rfl⟩
theorem ref_Cut (h n : Int) (h0 : 0 ≤ h) (h1 : h < 18446744073709551616) : Fn Try.prog 42 [iC .u64 h, iC .i64 n] (.per (rawP (.int .u64 (cut h n)))) := by
  refine ⟨⟨_, Try.func42, by kernel_rfl, by kernel_rfl⟩, fun N0 w vs _ ha => ?_⟩
  obtain ⟨v, u, rfl, e1, e2⟩ := args2 ha
  obtain rfl : v = .int .u64 h := e1
  obtain rfl : u = .int .i64 n := e2
  refine Calls.mono (refCut_any h n w h0 h1) ?_
  rintro e w' ⟨rfl, rfl⟩
  exact ⟨_, rfl, Ext.refl _, rfl⟩
theorem ref_HSum (seed : Int) (l : List It) : Fn Try.prog 43 [iC .u64 seed, .per (lstP 7 (l.map itP))] (.per (rawP (.int .u64 (hSum seed l)))) := by
  refine ⟨⟨_, Try.func43, by kernel_rfl, by kernel_rfl⟩, fun N0 w vs _ ha => ?_⟩
  obtain ⟨v, u, rfl, h1, h2⟩ := args2 ha
  obtain rfl : v = .int .u64 seed := h1
  refine Calls.mono (refHSum_any seed u l w (lst_sl h2)) ?_
  rintro e w' ⟨rfl, h⟩
  exact ⟨_, rfl, h, rfl⟩
end Go.Proofs.Ytpndnlnjgnckdaa
