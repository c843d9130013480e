/- The hashes of items (hash.Item, hash.Sum; icode.Size), and the references'. -/
import Derived.Test.YtjohkaonokghbaaIcItem
import Derived.Test.YtjohkaonokghbaaHashParts
namespace Go.Proofs.Ytjohkaonokghbaa
open Go.RowKit

set_option maxRecDepth 10000 in
set_option maxHeartbeats 800000 in
theorem item_bad (x : It) (w : World) (hr : itR x = false) :
    Calls Try.prog 69 #[itV x] w fun e w' => e = .returned (.tuple #[.slice none 0 0, .int .i64 2]) ∧ Ext w w' := by
  have HR := Lib.hid hr
  clear hr
  unfold itV
  go_enter Try.func69, Try.ntmps69
  go_wp2_with fail
  refine (itR_any x _).mono ?_
  rw [HR.out]
  rintro e w1 ⟨rfl, hx1⟩
  go_wp2
  go_ret2
  exact ⟨rfl, ((Ext.refl _).alloc _).trans hx1⟩

def hItem (seed : Int) (x : It) : Int := if itR x then hashOf seed (itemB x) else 0
theorem hItem_nn (seed : Int) (x : It) : 0 ≤ hItem seed x := by unfold hItem; split; exact hashOf_nn _ _; decide
theorem hItem_lt (seed : Int) (x : It) : hItem seed x < 18446744073709551616 := by unfold hItem; split; exact hashOf_lt _ _; decide

set_option maxRecDepth 10000 in
set_option maxHeartbeats 800000 in
theorem hItem_any (seed : Int) (x : It) (w : World) :
    Calls Try.prog 21 #[.int .u64 seed, itV x] w fun e w' => e = .returned (.int .u64 (hItem seed x)) ∧ Ext w w' := by
  by_cases hr : itR x = true
  · have HR := Lib.hid hr
    have HH : Hid (hItem seed x = hashOf seed [itemB x].flatten) := Lib.hid (by unfold hItem; rw [if_pos hr]; simp)
    clear hr
    unfold itV
    go_enter Try.func21, Try.ntmps21
    go_wp2_with fail
    refine (item_ok x _ HR.out).mono ?_
    rintro e w1 ⟨v1, rfl, hown⟩
    have hs := hown.sl encB_ok
    have hx1 := hown.ext
    clear hown
    obtain ⟨a1, c1, b1, o1, rfl, _⟩ := Bs.open hs
    go_wp2_with fail
    refine (hashOf_any _ _ [itemB x] _ ?_).mono ?_
    · refine ⟨[.slice a1 _ c1], rfl, Sl.lit (fun _ => rfl) (by (repeat refine (heap_drew_at _ _).trans ?_); first | (refine heap_new_at _ _ _ ?_ <;> (first | rfl | (simp; done) | (simp; omega))) | (refine (heap_old_at _ _ _ ?_).trans (heap_new_at _ _ _ ?_) <;> (first | rfl | (simp; done) | (simp; omega))) | (refine (heap_old_at _ _ _ ?_).trans ((heap_old_at _ _ _ ?_).trans (heap_new_at _ _ _ ?_)) <;> (first | rfl | (simp; done) | (simp; omega))) | (refine (heap_old_at _ _ _ ?_).trans ((heap_old_at _ _ _ ?_).trans ((heap_old_at _ _ _ ?_).trans (heap_new_at _ _ _ ?_))) <;> (first | rfl | (simp; done) | (simp; omega))) | (refine (heap_old_at _ _ _ ?_).trans ((heap_old_at _ _ _ ?_).trans ((heap_old_at _ _ _ ?_).trans ((heap_old_at _ _ _ ?_).trans (heap_new_at _ _ _ ?_)))) <;> (first | rfl | (simp; done) | (simp; omega)))) rfl rfl (by decide) (by decide), ?_⟩
      intro i h1 h2
      obtain rfl : i = 0 := by simp at h1; omega
      exact hs.ext (by repeat (first | assumption | exact Ext.refl _ | refine Ext.alloc ?_ _ | refine Ext.drew ?_))
    · rw [← HH.out]
      rintro e w2 ⟨rfl, rfl⟩
      go_wp2
      go_ret
      exact ⟨rfl, (((Ext.refl _).alloc _).trans hx1).alloc _⟩
  · have HR : Hid (itR x = false) := Lib.hid (by simpa using hr)
    have HH : Hid (hItem seed x = 0) := Lib.hid (by unfold hItem; rw [if_neg hr])
    clear hr
    unfold itV
    go_enter Try.func21, Try.ntmps21
    go_wp2_with fail
    refine (item_bad x _ HR.out).mono ?_
    rintro e w1 ⟨rfl, hx1⟩
    go_wp2
    go_ret
    exact ⟨by rw [HH.out]; rfl, ((Ext.refl _).alloc _).trans hx1⟩

def itSize (x : It) : Nat := if itR x then (itemB x).length else 0
set_option maxRecDepth 10000 in
set_option maxHeartbeats 800000 in
theorem size_any (x : It) (w : World) :
    Calls Try.prog 81 #[itV x] w fun e w' => e = .returned (.int .i64 (itSize x)) ∧ Ext w w' := by
  by_cases hr : itR x = true
  · have HR := Lib.hid hr
    have HH : Hid (itSize x = (itemB x).length) := Lib.hid (by unfold itSize; rw [if_pos hr])
    clear hr
    unfold itV
    go_enter Try.func81, Try.ntmps81
    go_wp2_with fail
    refine (item_ok x _ HR.out).mono ?_
    rintro e w1 ⟨v1, rfl, hown⟩
    obtain ⟨a, c, b, o, rfl, _⟩ := Bs.open (hown.sl encB_ok)
    have hx1 := hown.ext
    clear hown
    go_wp2
    go_ret
    exact ⟨by rw [HH.out]; rfl, ((Ext.refl _).alloc _).trans hx1⟩
  · have HR : Hid (itR x = false) := Lib.hid (by simpa using hr)
    have HH : Hid (itSize x = 0) := Lib.hid (by unfold itSize; rw [if_neg hr])
    clear hr
    unfold itV
    go_enter Try.func81, Try.ntmps81
    go_wp2_with fail
    refine (item_bad x _ HR.out).mono ?_
    rintro e w1 ⟨rfl, hx1⟩
    go_wp2
    go_ret
    exact ⟨by rw [HH.out]; rfl, ((Ext.refl _).alloc _).trans hx1⟩

def hSum (seed : Int) (l : List It) : Int := l.foldl (fun s x => IntKind.u64.wrap (s + hItem seed x)) 0
theorem hSum_snoc (seed : Int) (l : List It) (x : It) : hSum seed (l ++ [x]) = IntKind.u64.wrap (hSum seed l + hItem seed x) := by simp [hSum]

set_option maxRecDepth 10000 in
set_option maxHeartbeats 800000 in
theorem hSum_any (seed : Int) (v : Value) (l : List It) (w : World) (hv : Its w v l) :
    Calls Try.prog 23 #[.int .u64 seed, v] w fun e w' => e = .returned (.int .u64 (hSum seed l)) ∧ Ext w w' := by
  obtain ⟨a, c, b, o, rfl, h1, h2, h3, h4⟩ := Its.open hv
  have h5 := len_le h1 h2
  clear h1 h2 hv
  go_enter Try.func23, Try.ntmps23
  go_wp2
  go_loopw [5, 10] (fun s i wr => ∃ k : Nat, k ≤ l.length ∧ i = .int .i64 k ∧ s = .int .u64 (hSum seed (l.take k)) ∧ Ext w wr) (fun _ i _ => l.length - (intOf i).toNat)
  case atStart => exact ⟨0, Nat.zero_le _, rfl, rfl, Ext.refl _⟩
  case round =>
    obtain ⟨k, hk, rfl, rfl, hx⟩ := hrel
    by_cases hlt : k < l.length
    · obtain rfl := h3 (by omega)
      obtain ⟨q0, q1, q2, q3, q4, q5, q6⟩ := (h4 k hlt).ext hx
      have HS := Lib.hid (take_snoc l k hlt)
      generalize l[k] = x at *
      clear h3 h4
      go_wp2_with fail
      refine (hItem_any seed x _).mono ?_
      rintro e w2 ⟨rfl, hx2⟩
      clear q0 q1 q2 q3 q4 q5 q6
      have hx3 : Ext w w2 := Ext.trans (by repeat (first | assumption | exact Ext.refl _ | refine Ext.alloc ?_ _ | refine Ext.drew ?_)) hx2
      go_wp2
      go_roundw
      case rel => exact ⟨k + 1, by omega, by go_num, by rw [HS.out, hSum_snoc], hx3⟩
      case measure => simp [intOf]; omega
    · have HT := Lib.hid (show l.take k = l from List.take_of_length_le (by omega))
      go_wp2
      go_ret
      exact ⟨by rw [HT.out]; rfl, hx⟩
end Go.Proofs.Ytjohkaonokghbaa
