/- The chapter's examples of numbers as bytes (law02.awake). -/
import Derived.Test.YtjohkaonokghbaaReader2
import Derived.Test.YtjohkaonokghbaaParseLaw
import Derived.Test.YtjohkaonokghbaaBytesEq
namespace Go.Proofs.Ytjohkaonokghbaa
open Go.RowKit

theorem num300 : numB 300 = [172, 2] := by rw [numB_ge (by decide), numB_lt (by decide)]; rfl
theorem textAb : textB ⟨#[97, 98]⟩ = [2, 97, 98] := by
  unfold textB
  rw [numB_lt (show (ByteArray.mk #[97, 98]).size < 128 by decide)]; rfl
theorem st300 : numSt [172, 2] 0 = (300, [], 0) := by decide

set_option maxRecDepth 10000 in
set_option maxHeartbeats 1600000 in
theorem awake02_any (w : World) : Calls Try.prog 25 #[] w fun e w' => e = .returned (.bool true) ∧ Ext w w' := by
  have E1 : Hid (([] : List UInt8) ++ [(300 : Int)].flatMap numI = [172, 2]) := Lib.hid (by simpa [numI] using num300)
  have E2 : Hid (([] : List UInt8) ++ [(⟨#[97, 98]⟩ : ByteArray)].flatMap textB = [2, 97, 98]) := Lib.hid (by simpa using textAb)
  go_enter Try.func25, Try.ntmps25
  go_wp2_with fail
  refine Calls.mono (put_ok _ _ [] [300] _ ?_ ?_ ?_ ?_) ?_
  · exact Sl.nil _
  · exact Sl.new1 encI_ok.len _ _ _ _ rfl
  · simp
  · intro n hn; simp at hn; subst hn; unfold okNum; omega
  rw [E1.out]
  rintro e w1 ⟨v1, rfl, hown1⟩
  have hx1 : Ext w w1 := Ext.trans (by repeat (first | assumption | exact Ext.refl _ | refine Ext.alloc ?_ _ | refine Ext.drew ?_ | refine Ext.drewN ?_ _)) hown1.ext
  have hs1 := hown1.sl encB_ok
  clear hown1
  go_wp2_with fail
  refine Calls.mono (text_any _ _ [] [⟨#[97, 98]⟩] _ ?_ ?_ ?_) ?_
  · exact Sl.nil _
  · exact Sl.new1 encS_ok.len _ _ _ _ rfl
  · rw [← List.length_append, E2.out]; simp
  rw [E2.out]
  rintro e w2 ⟨v2, rfl, hown2⟩
  have hx2 : Ext w1 w2 := Ext.trans (by repeat (first | assumption | exact Ext.refl _ | refine Ext.alloc ?_ _ | refine Ext.drew ?_ | refine Ext.drewN ?_ _)) hown2.ext
  have hs2 := hown2.sl encB_ok
  have hs12 := hs1.ext hx2
  clear hown2
  go_wp2_with fail
  refine Calls.mono (rNew_any _ _ _ hs12 (by simp)) ?_
  rintro e w3 ⟨B, v3, rfl, hB, hrd, hx3⟩
  have hs13 := hs12.ext hx3
  have hs23 := hs2.ext hx3
  obtain ⟨a1, c1, _, _, rfl, -⟩ := Bs.open hs1
  obtain ⟨a2, c2, _, _, rfl, -⟩ := Bs.open hs2
  clear hs1 hs2 hs12
  go_wp2_with fail
  refine Calls.mono (bytesEq_any _ _ [172, 2] [172, 2] _ ?_ ?_) ?_
  · exact hs13.ext (by repeat (first | assumption | exact Ext.refl _ | refine Ext.alloc ?_ _ | refine Ext.drew ?_ | refine Ext.drewN ?_ _))
  · exact Sl.lit encB_ok.len (by (repeat refine (heap_drew_at _ _).trans ?_); first | (refine heap_new_at _ _ _ ?_ <;> (first | rfl | (simp; done) | (simp; omega))) | (refine (heap_old_at _ _ _ ?_).trans (heap_new_at _ _ _ ?_) <;> (first | rfl | (simp; done) | (simp; omega))) | (refine (heap_old_at _ _ _ ?_).trans ((heap_old_at _ _ _ ?_).trans (heap_new_at _ _ _ ?_)) <;> (first | rfl | (simp; done) | (simp; omega))) | (refine (heap_old_at _ _ _ ?_).trans ((heap_old_at _ _ _ ?_).trans ((heap_old_at _ _ _ ?_).trans (heap_new_at _ _ _ ?_))) <;> (first | rfl | (simp; done) | (simp; omega))) | (refine (heap_old_at _ _ _ ?_).trans ((heap_old_at _ _ _ ?_).trans ((heap_old_at _ _ _ ?_).trans ((heap_old_at _ _ _ ?_).trans (heap_new_at _ _ _ ?_)))) <;> (first | rfl | (simp; done) | (simp; omega)))) rfl rfl (by decide) (by decide)
  rintro e w4 ⟨rfl, hx4⟩
  have hx4' : Ext w3 w4 := Ext.trans (by repeat (first | assumption | exact Ext.refl _ | refine Ext.alloc ?_ _ | refine Ext.drew ?_ | refine Ext.drewN ?_ _)) hx4
  have hs24 := hs23.ext hx4'
  have hrd4 := hrd.ext hx4'
  go_wp2_with fail
  refine Calls.mono (bytesEq_any _ _ [2, 97, 98] [2, 97, 98] _ ?_ ?_) ?_
  · exact hs24.ext (by repeat (first | assumption | exact Ext.refl _ | refine Ext.alloc ?_ _ | refine Ext.drew ?_ | refine Ext.drewN ?_ _))
  · exact Sl.lit encB_ok.len (by (repeat refine (heap_drew_at _ _).trans ?_); first | (refine heap_new_at _ _ _ ?_ <;> (first | rfl | (simp; done) | (simp; omega))) | (refine (heap_old_at _ _ _ ?_).trans (heap_new_at _ _ _ ?_) <;> (first | rfl | (simp; done) | (simp; omega))) | (refine (heap_old_at _ _ _ ?_).trans ((heap_old_at _ _ _ ?_).trans (heap_new_at _ _ _ ?_)) <;> (first | rfl | (simp; done) | (simp; omega))) | (refine (heap_old_at _ _ _ ?_).trans ((heap_old_at _ _ _ ?_).trans ((heap_old_at _ _ _ ?_).trans (heap_new_at _ _ _ ?_))) <;> (first | rfl | (simp; done) | (simp; omega))) | (refine (heap_old_at _ _ _ ?_).trans ((heap_old_at _ _ _ ?_).trans ((heap_old_at _ _ _ ?_).trans ((heap_old_at _ _ _ ?_).trans (heap_new_at _ _ _ ?_)))) <;> (first | rfl | (simp; done) | (simp; omega)))) rfl rfl (by decide) (by decide)
  rintro e w5 ⟨rfl, hx5⟩
  have hx5' : Ext w4 w5 := Ext.trans (by repeat (first | assumption | exact Ext.refl _ | refine Ext.alloc ?_ _ | refine Ext.drew ?_ | refine Ext.drewN ?_ _)) hx5
  have hrd5 := hrd4.ext hx5'
  go_wp2_with fail
  refine Calls.mono (rNumber_any hrd5) ?_
  rw [st300]
  rintro e w6 ⟨v6, rfl, hrd6, hg6, _⟩
  have hfin : Ext w w6 := Ext.grown ((((hx1.trans hx2).trans hx3).trans hx4').trans hx5') hg6 (fun k hk => by
    simp at hk; subst hk; have := hx1.size; have := hx2.size; omega)
  go_wp2_with fail
  refine Calls.mono (rEnd_any hrd6) ?_
  rintro e w7 ⟨rfl, rfl⟩
  go_wp2
  go_ret
  exact ⟨rfl, hfin⟩
end Go.Proofs.Ytjohkaonokghbaa
