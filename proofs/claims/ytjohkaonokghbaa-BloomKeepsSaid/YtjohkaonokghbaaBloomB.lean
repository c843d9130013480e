/- Filters of bits: a probe. -/
import Derived.Test.YtjohkaonokghbaaBloomA
import Derived.Deep.QuietTactic
import Derived.BigQuiet
namespace Go.Proofs.Ytjohkaonokghbaa
open Go.RowKit

theorem pow8 (k : Nat) (h : k < 8) : ((2 : Int) ^ k % 256) = ((2 ^ k : Nat) : Int) := by
  have : ∀ k : Fin 8, ((2 : Int) ^ k.val % 256) = ((2 ^ k.val : Nat) : Int) := by decide
  exact this ⟨k, h⟩
theorem of1_any {seed H : Int} {l : List UInt8} (hH : Hid (hashOf seed l = H)) (v : Value) (w : World) (hv : Bs w v l) :
    Calls Try.prog 17 #[.int .u64 seed, v] w fun e w' => e = .returned (.int .u64 H) ∧ w = w' := by
  rw [← hH.out]
  exact refOf_any seed v l w hv

/-- a version's bytes -/
def verB (r c : Int) : List UInt8 := numI r ++ numI c
theorem verB_eq (r c : Int) : [r, c].flatMap numI = verB r c := by simp [verB]

theorem two_small {r c : Int} : [r, c].length ≤ 7036874417766 := by simp
theorem bsV {w : World} {v : Value} {r c : Int} (h : Bs w v ([r, c].flatMap numI)) : Bs w v (verB r c) := by rw [verB_eq] at h; exact h
theorem ok2 {r c : Int} (hr : okNum r) (hc : okNum c) : ∀ n ∈ [r, c], okNum n := by
  intro m hm; simp at hm; rcases hm with rfl | rfl
  · exact hr
  · exact hc
theorem rp {w : World} {sv : Value} {probes seed r c : Int} {T T' : TypeId} {w' : World} (h : Ext ((w.alloc (.cells #[sv, .int .i64 probes, .int .u64 seed] T)).alloc (.cells #[.int .i64 r, .int .i64 c] T')) w') :
    Ext ((w.alloc (.cells #[sv, .int .i64 probes, .int .u64 seed] T)).alloc (.cells #[.int .i64 r, .int .i64 c] T')) w' ∧ w'.cell? ⟨w.heap.size, 2, none⟩ = some (.int .u64 seed) ∧ w'.cell? ⟨w.heap.size + 1, 0, none⟩ = some (.int .i64 r) ∧ w'.cell? ⟨w.heap.size + 1, 1, none⟩ = some (.int .i64 c) := by
  have h1 := (heap_old_at (w.alloc (.cells #[sv, .int .i64 probes, .int .u64 seed] T)) (.cells #[.int .i64 r, .int .i64 c] T') w.heap.size (by simp)).trans (heap_new_at w (.cells #[sv, .int .i64 probes, .int .u64 seed] T) _ rfl)
  have h2 := heap_new_at (w.alloc (.cells #[sv, .int .i64 probes, .int .u64 seed] T)) (.cells #[.int .i64 r, .int .i64 c] T') (w.heap.size + 1) (by simp)
  exact ⟨h, h.cell (cell_of_row _ _ 2 _ _ _ h1), h.cell (cell_of_row _ _ 0 _ _ _ h2), h.cell (cell_of_row _ _ 1 _ _ _ h2)⟩

set_option maxRecDepth 10000 in
set_option maxHeartbeats 200000 in
theorem rprobe_any {w : World} {bits probes seed r c : Int} {a : Option Addr} {n cc : Nat} (hn : (n : Int) = bits)
    (h1 : 1 ≤ bits) (h2 : bits ≤ 4096) (i : Int) (hr : okNum r) (hcn : okNum c) :
    Calls Try.prog 79 #[.agg #[.slice a n cc, .int .i64 probes, .int .u64 seed], .agg #[.int .i64 r, .int .i64 c], .int .i64 i] w fun e w' => e = .returned (.int .i64 (probeN bits seed (verB r c) i : Nat)) ∧ Ext w w' := by
  have hP : Hid (probeN bits seed (verB r c) i = (hashOf (IntKind.u64.wrap (seed + IntKind.u64.wrap i)) (verB r c) % bits).toNat) := Lib.hid rfl
  have hh0 := hashOf_nn (IntKind.u64.wrap (seed + IntKind.u64.wrap i)) (verB r c)
  have hm0 := Int.emod_nonneg (hashOf (IntKind.u64.wrap (seed + IntKind.u64.wrap i)) (verB r c)) (show bits ≠ 0 by omega)
  have hm1 := Int.emod_lt_of_pos (hashOf (IntKind.u64.wrap (seed + IntKind.u64.wrap i)) (verB r c)) (show 0 < bits by omega)
  generalize hH : hashOf (IntKind.u64.wrap (seed + IntKind.u64.wrap i)) (verB r c) = H at *
  have HH := Lib.hid hH
  have hn' := Lib.hid hn
  clear hH hn
  go_enter Try.func79, Try.ntmps79
  go_wp2_with fail
  go_region_held3 (fun w' => Ext ((w.alloc (.cells #[.slice a n cc, .int .i64 probes, .int .u64 seed] 57)).alloc (.cells #[.int .i64 r, .int .i64 c] 33)) w' ∧ w'.cell? ⟨w.heap.size, 2, none⟩ = some (.int .u64 seed) ∧ w'.cell? ⟨w.heap.size + 1, 0, none⟩ = some (.int .i64 r) ∧ w'.cell? ⟨w.heap.size + 1, 1, none⟩ = some (.int .i64 c))
    (first | exact rp (by repeat (first | assumption | exact Ext.refl _ | exact And.left (by assumption) | refine Ext.alloc ?_ _ | refine Ext.drew ?_ | refine Ext.drewN ?_ _)))
    (first | (go_at_call 53; refine Calls.mono (refPut_any _ [r, c] _ ?_ ?_ ?_) ?_; exact Sl.lit encI_ok.len (by (repeat refine (heap_drew_at _ _).trans ?_); first | (refine heap_new_at _ _ _ ?_ <;> (first | rfl | (simp; done) | (simp; omega))) | (refine (heap_old_at _ _ _ ?_).trans (heap_new_at _ _ _ ?_) <;> (first | rfl | (simp; done) | (simp; omega))) | (refine (heap_old_at _ _ _ ?_).trans ((heap_old_at _ _ _ ?_).trans (heap_new_at _ _ _ ?_)) <;> (first | rfl | (simp; done) | (simp; omega))) | (refine (heap_old_at _ _ _ ?_).trans ((heap_old_at _ _ _ ?_).trans ((heap_old_at _ _ _ ?_).trans (heap_new_at _ _ _ ?_))) <;> (first | rfl | (simp; done) | (simp; omega))) | (refine (heap_old_at _ _ _ ?_).trans ((heap_old_at _ _ _ ?_).trans ((heap_old_at _ _ _ ?_).trans ((heap_old_at _ _ _ ?_).trans (heap_new_at _ _ _ ?_)))) <;> (first | rfl | (simp; done) | (simp; omega)))) rfl rfl (Nat.le_refl _) (by simp [maxLen]); exact two_small; exact ok2 hr hcn; rintro e w2 ⟨v2, rfl, hown⟩; have hE2 := hown.ext; have hE := Ext.trans (a := (w.alloc (.cells #[.slice a n cc, .int .i64 probes, .int .u64 seed] 57)).alloc (.cells #[.int .i64 r, .int .i64 c] 33)) (by repeat (first | assumption | exact Ext.refl _ | exact And.left (by assumption) | refine Ext.alloc ?_ _ | refine Ext.drew ?_ | refine Ext.drewN ?_ _)) hE2; have hs2 := bsV (hown.sl encB_ok); clear hown) | (go_at_call 17; refine Calls.mono (of1_any HH _ _ ?_) ?_; exact hs2; rintro e w' ⟨rfl, rfl⟩))
  have hn2 := hn'.out
  subst hn2
  have hwb : IntKind.u64.wrap (n : Int) = (n : Int) := by rw [IntKind.wrap_u64]; omega
  have hbne : (n : Int) ≠ 0 := by omega
  have hc : w2.cell? ⟨w.heap.size, 0, none⟩ = some (.slice a n cc) := hE.cell ((Ext.alloc (Ext.refl _) _).cell (cell_of_row _ _ 0 _ _ _ (heap_alloc_new w _)))
  go_wp2
  go_ret
  refine ⟨ret_eq (int_eq ?_), ((Ext.refl w).alloc _ |>.alloc _).trans hE⟩
  rw [hP.out]; omega
set_option maxRecDepth 10000 in
set_option maxHeartbeats 400000 in
theorem probe_any {w : World} {B : Nat} {v : Value} {l : List UInt8} {bits seed : Int} (hc0 : w.cell? ⟨B, 0, none⟩ = some (.int .i64 bits)) (hc2 : w.cell? ⟨B, 2, none⟩ = some (.int .u64 seed)) (hv : Bs w v l)
    (h1 : 1 ≤ bits) (h2 : bits ≤ 4096) (i : Int) :
    Calls Try.prog 78 #[.pointer (some ⟨B, 0, none⟩), v, .int .i64 i] w fun e w' => e = .returned (.tuple #[.int .i64 ((probeN bits seed l i / 8 : Nat) : Int), .int .u8 ((2 ^ (probeN bits seed l i % 8) : Nat) : Int)]) ∧ Ext w w' := by
  obtain ⟨a, c, _, _, rfl, -⟩ := Bs.open hv
  have hP : Hid (probeN bits seed l i = (hashOf (IntKind.u64.wrap (seed + IntKind.u64.wrap i)) l % bits).toNat) := Lib.hid rfl
  have hh0 := hashOf_nn (IntKind.u64.wrap (seed + IntKind.u64.wrap i)) l
  have hm0 := Int.emod_nonneg (hashOf (IntKind.u64.wrap (seed + IntKind.u64.wrap i)) l) (show bits ≠ 0 by omega)
  have hm1 := Int.emod_lt_of_pos (hashOf (IntKind.u64.wrap (seed + IntKind.u64.wrap i)) l) (show 0 < bits by omega)
  generalize hH : hashOf (IntKind.u64.wrap (seed + IntKind.u64.wrap i)) l = H at *
  have HH := Lib.hid hH
  clear hH
  have hwb : IntKind.u64.wrap bits = bits := by rw [IntKind.wrap_u64]; omega
  have hbne : bits ≠ 0 := by omega
  have htm : H.tmod bits = H % bits := Int.tmod_eq_emod_of_nonneg hh0
  go_enter Try.func78, Try.ntmps78
  go_wp2
  go_region_held3 (fun w' => Ext w w' ∧ w'.cell? ⟨B, 0, none⟩ = some (.int .i64 bits) ∧ w'.cell? ⟨B, 2, none⟩ = some (.int .u64 seed)) (first | exact probeS hc0 hc2 (by repeat (first | assumption | exact Ext.refl _ | exact And.left (by assumption) | refine Ext.alloc ?_ _ | refine Ext.drew ?_ | refine Ext.drewN ?_ _)))
    (first | (go_at_call 16; refine Calls.mono (hash1_any HH _ _ ?_) ?_; exact bss1 (by (repeat refine (heap_drew_at _ _).trans ?_); first | (refine heap_new_at _ _ _ ?_ <;> (first | rfl | (simp; done) | (simp; omega))) | (refine (heap_old_at _ _ _ ?_).trans (heap_new_at _ _ _ ?_) <;> (first | rfl | (simp; done) | (simp; omega))) | (refine (heap_old_at _ _ _ ?_).trans ((heap_old_at _ _ _ ?_).trans (heap_new_at _ _ _ ?_)) <;> (first | rfl | (simp; done) | (simp; omega))) | (refine (heap_old_at _ _ _ ?_).trans ((heap_old_at _ _ _ ?_).trans ((heap_old_at _ _ _ ?_).trans (heap_new_at _ _ _ ?_))) <;> (first | rfl | (simp; done) | (simp; omega))) | (refine (heap_old_at _ _ _ ?_).trans ((heap_old_at _ _ _ ?_).trans ((heap_old_at _ _ _ ?_).trans ((heap_old_at _ _ _ ?_).trans (heap_new_at _ _ _ ?_)))) <;> (first | rfl | (simp; done) | (simp; omega)))) (hv.ext (by repeat (first | assumption | exact Ext.refl _ | exact And.left (by assumption) | refine Ext.alloc ?_ _ | refine Ext.drew ?_ | refine Ext.drewN ?_ _))); rintro e w' ⟨rfl, rfl⟩))
  obtain ⟨p, hp⟩ := Int.eq_ofNat_of_zero_le hm0
  rw [hp] at hm1 hP ⊢
  have hP' : Hid (probeN bits seed l i = p) := Lib.hid (by rw [hP.out]; simp)
  clear hp hm0 hP htm
  go_wp2
  go_quiet (fail)
  go_wp2
  go_ret2
  rw [hP'.out]
  refine ⟨?_, (by repeat (first | assumption | exact Ext.refl _ | refine Ext.alloc ?_ _ | refine Ext.drew ?_ | refine Ext.drewN ?_ _))⟩
  rw [pow8 _ (Nat.mod_lt _ (by decide))]
  simp
end Go.Proofs.Ytjohkaonokghbaa
