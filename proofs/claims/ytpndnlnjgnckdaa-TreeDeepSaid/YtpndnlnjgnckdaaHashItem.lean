/- The hashes of items (hash.Item, hash.Sum; icode.Size), and the references'. -/
import Derived.Test.YtpndnlnjgnckdaaIcItem
import Derived.Test.YtpndnlnjgnckdaaHashParts
namespace Go.Proofs.Ytpndnlnjgnckdaa
open Go.RowKit

set_option maxRecDepth 10000 in
set_option maxHeartbeats 800000 in
theorem item_bad (x : It) (w : World) (hr : itR x = false) :
    Calls Try.prog 54 #[itV x] w fun e w' => e = .returned (.tuple #[.slice none 0 0, .int .i64 2]) ∧ Ext w w' := by
  have HR := Lib.hid hr
  clear hr
  unfold itV
  go_enter Try.func54, Try.ntmps54
  go_wp2_with fail
  refine (itR_any x _).mono ?_
  rw [HR.out]
  rintro e w1 ⟨rfl, hx1⟩
  go_wp2
  go_ret2
  exact ⟨rfl, ((Ext.refl _).alloc _).trans hx1⟩

def hItem (seed : Int) (x : It) : Int := if itR x then hashOf seed (itemB x) else 0
theorem hItem_nn (seed : Int) (x : It) : 0 ≤ hItem seed x := by unfold hItem; split; exact hashOf_nn _ _; decide
theorem hItem_lt (seed : Int) (x : It) : hItem seed x < 18446744073709551616 := by unfold hItem; split; exact hashOf_lt _ _; decide

set_option maxRecDepth 10000 in
set_option maxHeartbeats 800000 in
theorem hItem_any (seed : Int) (x : It) (w : World) :
    Calls Try.prog 33 #[.int .u64 seed, itV x] w fun e w' => e = .returned (.int .u64 (hItem seed x)) ∧ Ext w w' := by
  by_cases hr : itR x = true
  · have HR := Lib.hid hr
    have HH : Hid (hItem seed x = hashOf seed [itemB x].flatten) := Lib.hid (by unfold hItem; rw [if_pos hr]; simp)
    clear hr
    unfold itV
    go_enter Try.func33, Try.ntmps33
    go_wp2_with fail
    refine (item_ok x _ HR.out).mono ?_
    rintro e w1 ⟨v1, rfl, hown⟩
    have hs := hown.sl encB_ok
    have hx1 := hown.ext
    clear hown
    obtain ⟨a1, c1, b1, o1, rfl, _⟩ := Bs.open hs
    go_wp2_with fail
    refine (hashOf_any _ _ [itemB x] _ ?_).mono ?_
    · refine ⟨[.slice a1 _ c1], rfl, Sl.lit (fun _ => rfl) (by (repeat refine (heap_drew_at _ _).trans ?_); first | (refine heap_new_at _ _ _ ?_ <;> (first | rfl | (simp; done) | (simp; omega))) | (refine (heap_old_at _ _ _ ?_).trans (heap_new_at _ _ _ ?_) <;> (first | rfl | (simp; done) | (simp; omega))) | (refine (heap_old_at _ _ _ ?_).trans ((heap_old_at _ _ _ ?_).trans (heap_new_at _ _ _ ?_)) <;> (first | rfl | (simp; done) | (simp; omega))) | (refine (heap_old_at _ _ _ ?_).trans ((heap_old_at _ _ _ ?_).trans ((heap_old_at _ _ _ ?_).trans (heap_new_at _ _ _ ?_))) <;> (first | rfl | (simp; done) | (simp; omega))) | (refine (heap_old_at _ _ _ ?_).trans ((heap_old_at _ _ _ ?_).trans ((heap_old_at _ _ _ ?_).trans ((heap_old_at _ _ _ ?_).trans (heap_new_at _ _ _ ?_)))) <;> (first | rfl | (simp; done) | (simp; omega)))) rfl rfl (by decide) (by decide), ?_⟩
      intro i h1 h2
      obtain rfl : i = 0 := by simp at h1; omega
      exact hs.ext (by repeat (first | assumption | exact Ext.refl _ | refine Ext.alloc ?_ _ | refine Ext.drew ?_ | refine Ext.drewN ?_ _))
    · rw [← HH.out]
      rintro e w2 ⟨rfl, rfl⟩
      go_wp2
      go_ret
      exact ⟨rfl, (((Ext.refl _).alloc _).trans hx1).alloc _⟩
  · have HR : Hid (itR x = false) := Lib.hid (by simpa using hr)
    have HH : Hid (hItem seed x = 0) := Lib.hid (by unfold hItem; rw [if_neg hr])
    clear hr
    unfold itV
    go_enter Try.func33, Try.ntmps33
    go_wp2_with fail
    refine (item_bad x _ HR.out).mono ?_
    rintro e w1 ⟨rfl, hx1⟩
    go_wp2
    go_ret
    exact ⟨by rw [HH.out]; rfl, ((Ext.refl _).alloc _).trans hx1⟩

def itSize (x : It) : Nat := if itR x then (itemB x).length else 0
def hSum (seed : Int) (l : List It) : Int := l.foldl (fun s x => IntKind.u64.wrap (s + hItem seed x)) 0
theorem hSum_snoc (seed : Int) (l : List It) (x : It) : hSum seed (l ++ [x]) = IntKind.u64.wrap (hSum seed l + hItem seed x) := by simp [hSum]

end Go.Proofs.Ytpndnlnjgnckdaa
