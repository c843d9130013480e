/- Filters of bits: as bytes; the chapter's example. -/
import Derived.Test.YtjohkaonokghbaaBloomE
import Derived.Test.YtjohkaonokghbaaAwake02
namespace Go.Proofs.Ytjohkaonokghbaa
open Go.RowKit

def bloomB (bits probes : Int) (row : List UInt8) : List UInt8 := [bits, probes].flatMap numI ++ textB ⟨row.toArray⟩
theorem two0 {w w' : World} {A : Nat} {bits probes : Int} (hc0 : w.cell? ⟨A, 0, none⟩ = some (.int .i64 bits)) (hc1 : w.cell? ⟨A, 1, none⟩ = some (.int .i64 probes)) (h : Ext w w') :
    Ext w w' ∧ w'.cell? ⟨A, 0, none⟩ = some (.int .i64 bits) ∧ w'.cell? ⟨A, 1, none⟩ = some (.int .i64 probes) := ⟨h, h.cell hc0, h.cell hc1⟩
theorem numI_le (n : Int) (h : okNum n) : (numI n).length ≤ 9 := by
  have h' := h
  unfold okNum at h'
  exact numI_len n (by omega)
theorem two_put {a b : Int} : ([] : List UInt8).length + 9 * [a, b].length ≤ 70368744177664 := by simp

theorem flat1 (s : ByteArray) : [s].flatMap textB = textB s := by simp
theorem nil_sl {w : World} : Bs w (.slice none 0 0) [] := Sl.nil w

set_option maxRecDepth 10000 in
set_option maxHeartbeats 800000 in
theorem bBytes_any {w : World} {A B : Nat} {bits probes seed : Int} {row : List UInt8} (h : BlAt w A B bits probes seed row) (hlen : row.length ≤ 4096)
    (h1 : 1 ≤ bits) (h2 : bits ≤ 4096) (h3 : 1 ≤ probes) (h4 : probes ≤ 8) :
    Calls Try.prog 40 #[.pointer (some ⟨A, 0, none⟩)] w (RetOwn 5 1 encB w (bloomB bits probes row)) := by
  have hbz : (bits == 0) = false := by simp; omega
  obtain ⟨c0, c1, c2, c3⟩ := h.cells
  have ob : okNum bits := by unfold okNum; omega
  have op : okNum probes := by unfold okNum; omega
  have hl : Hid (([bits, probes].flatMap numI).length ≤ 18) := Lib.hid (by have := numI_le _ ob; have := numI_le _ op; simp; omega)
  have hl2 : Hid ((textB ⟨row.toArray⟩).length ≤ 9 + row.length) := Lib.hid (by have := numB_len9 (ByteArray.mk row.toArray).size (by show row.toArray.size ≤ _; simp; omega); unfold textB; simp; omega)
  go_enter Try.func40, Try.ntmps40
  go_wp2
  go_region_held3 (fun w' => Ext w w' ∧ w'.cell? ⟨A, 0, none⟩ = some (.int .i64 bits) ∧ w'.cell? ⟨A, 1, none⟩ = some (.int .i64 probes))
    (first | exact two0 c0 c1 (by repeat (first | assumption | exact Ext.refl _ | exact And.left (by assumption) | refine Ext.alloc ?_ _ | refine Ext.drew ?_ | refine Ext.drewN ?_ _)))
    (first | (go_at_call 30; refine Calls.mono (put_ok _ _ [] [bits, probes] _ nil_sl ?_ two_put (ok2 ob op)) ?_; exact Sl.lit encI_ok.len (by (repeat refine (heap_drew_at _ _).trans ?_); first | (refine heap_new_at _ _ _ ?_ <;> (first | rfl | (simp; done) | (simp; omega))) | (refine (heap_old_at _ _ _ ?_).trans (heap_new_at _ _ _ ?_) <;> (first | rfl | (simp; done) | (simp; omega))) | (refine (heap_old_at _ _ _ ?_).trans ((heap_old_at _ _ _ ?_).trans (heap_new_at _ _ _ ?_)) <;> (first | rfl | (simp; done) | (simp; omega))) | (refine (heap_old_at _ _ _ ?_).trans ((heap_old_at _ _ _ ?_).trans ((heap_old_at _ _ _ ?_).trans (heap_new_at _ _ _ ?_))) <;> (first | rfl | (simp; done) | (simp; omega))) | (refine (heap_old_at _ _ _ ?_).trans ((heap_old_at _ _ _ ?_).trans ((heap_old_at _ _ _ ?_).trans ((heap_old_at _ _ _ ?_).trans (heap_new_at _ _ _ ?_)))) <;> (first | rfl | (simp; done) | (simp; omega)))) rfl rfl (Nat.le_refl _) (by simp [maxLen]); rintro e w2 ⟨v2, rfl, hown⟩; have hE := Ext.trans (a := w) (by repeat (first | assumption | exact Ext.refl _ | exact And.left (by assumption) | refine Ext.alloc ?_ _ | refine Ext.drew ?_ | refine Ext.drewN ?_ _)) hown.ext; have hown1 := hown.mono (w0 := w) (by repeat (first | assumption | exact Ext.refl _ | exact And.left (by assumption) | refine Ext.alloc ?_ _ | refine Ext.drew ?_ | refine Ext.drewN ?_ _)); clear hown))
  rw [List.nil_append] at hown1
  have hb2 := h.ext hE
  have hs1 := hown1.sl encB_ok
  have hbs := hb2.bs (by unfold maxLen; omega)
  have hcv := Bs.toStr (P := Try.prog) Try.underlying25 Try.underlying5 Try.underlying9 hbs
  obtain ⟨d0, d1, d2, d3⟩ := hb2.cells
  clear hbs h c0 c1 c2 c3
  go_wp2_with fail
  refine Calls.mono (text_any _ _ _ [⟨row.toArray⟩] _ (hs1.ext (by repeat (first | assumption | exact Ext.refl _ | refine Ext.alloc ?_ _ | refine Ext.drew ?_ | refine Ext.drewN ?_ _))) (Sl.new1 encS_ok.len _ _ _ _ rfl) ?_) ?_
  · have := hl.out; have := hl2.out; rw [flat1]; omega
  rintro e w3 ⟨v3, rfl, hown3⟩
  have hown4 := hown3.mono (w0 := w) (hE.trans (by repeat (first | assumption | exact Ext.refl _ | refine Ext.alloc ?_ _ | refine Ext.drew ?_ | refine Ext.drewN ?_ _)))
  clear hown3
  go_wp2
  go_ret
  refine ⟨_, rfl, ?_⟩
  rw [flat1] at hown4
  exact hown4

theorem probe1 (seed : Int) (l : List UInt8) (i : Int) : probeN 1 seed l i = 0 := by
  have := probeN_lt 1 seed l i (by decide); omega
theorem aw_has0 : hasV [0] 1 1 0 1 1 = false := by
  have : hasP [0] 1 0 (verB 1 1) 1 = false := by simp [hasP, probe1]; decide
  simp [hasV, this]
theorem aw_add : addAll [0] 1 1 0 [(2, 2)] = [1] := by
  have : addP [0] 1 0 (verB 2 2) 1 = [1] := by simp [addP, probe1]; decide
  simp only [addAll, List.foldl_cons, List.foldl_nil, addV]
  rw [if_pos (by decide)]; exact this
theorem aw_has1 : hasV [1] 1 1 0 1 1 = true := by
  have : hasP [1] 1 0 (verB 1 1) 1 = true := by simp [hasP, probe1]; decide
  unfold hasV
  rw [show verR 1 1 = true by decide]; exact this
theorem aw_bytes : bloomB 1 1 [1] = [1, 1, 1, 1] := by
  unfold bloomB textB
  rw [numB_lt (show (ByteArray.mk [(1 : UInt8)].toArray).size < 128 by decide)]
  simp [numI]
  rw [numB_lt (by decide)]; rfl

set_option maxRecDepth 10000 in
set_option maxHeartbeats 1600000 in
theorem awake31_any (w : World) : Calls Try.prog 32 #[] w fun e w' => e = .returned (.bool true) ∧ Ext w w' := by
  have hv1 : Value.agg #[Value.int IntKind.i64 1, Value.int IntKind.i64 1] = Value.agg #[Value.int IntKind.i64 1, Value.int IntKind.i64 1] := rfl
  go_enter Try.func32, Try.ntmps32
  go_wp2_with fail
  refine Calls.mono (bNew_ok 1 1 0 _ (by decide) (by decide) (by decide) (by decide)) ?_
  rintro e w1 ⟨A, B, rfl, hA, hB, hne, hb1, hx1⟩
  have hrow : List.replicate (((1 : Int).toNat + 7) / 8) (0 : UInt8) = [0] := rfl
  rw [hrow] at hb1
  clear hrow
  go_wp2_with fail
  refine Calls.mono (bHas_any hb1 rfl (by decide) (by decide) (by decide) (by decide) 1 1) ?_
  rw [aw_has0]
  rintro e w2 ⟨rfl, hx2⟩
  have hb2 := hb1.ext hx2
  have hx12 := hx1.trans hx2
  clear hb1 hx1 hx2
  go_wp2_with fail
  refine Calls.mono (bAdd_any (hb2.ext (by repeat (first | assumption | exact Ext.refl _ | refine Ext.alloc ?_ _ | refine Ext.drew ?_ | refine Ext.drewN ?_ _))) hne rfl (by decide) (by decide) (by decide) (by decide) (vs := [(2, 2)]) (Sl.new1 encV_ok.len _ _ _ _ rfl)) ?_
  rw [aw_add]
  rintro e w3 ⟨rfl, hb3, hg3⟩
  have hx3 : Ext w w3 := (hx12.trans (by repeat (first | assumption | exact Ext.refl _ | refine Ext.alloc ?_ _ | refine Ext.drew ?_ | refine Ext.drewN ?_ _))).grown hg3 (by intro k hk; cases hk; exact hB)
  clear hb2 hx12 hg3
  go_wp2_with fail
  refine Calls.mono (bHas_any hb3 rfl (by decide) (by decide) (by decide) (by decide) 1 1) ?_
  rw [aw_has1]
  rintro e w4 ⟨rfl, hx4⟩
  have hb4 := hb3.ext hx4
  have hx34 := hx3.trans hx4
  clear hb3 hx3 hx4
  have hO : Hid (onesR [1] = 1) := Lib.hid (by decide)
  go_wp2_with fail
  refine Calls.mono (bOnes_any hb4 (by decide)) ?_
  rw [hO.out]
  rintro e w5 ⟨rfl, rfl⟩
  go_wp2_with fail
  refine Calls.mono (bBytes_any hb4 (by decide) (by decide) (by decide) (by decide) (by decide)) ?_
  rw [aw_bytes]
  rintro e w5 ⟨v5, rfl, hown⟩
  have hs5 := hown.sl encB_ok
  have hx5 := hx34.trans hown.ext
  clear hown hb4
  go_wp2_with fail
  refine Calls.mono (bytesEq_any _ _ [1, 1, 1, 1] [1, 1, 1, 1] _ (hs5.ext (by repeat (first | assumption | exact Ext.refl _ | refine Ext.alloc ?_ _ | refine Ext.drew ?_ | refine Ext.drewN ?_ _))) (Sl.lit encB_ok.len (by (repeat refine (heap_drew_at _ _).trans ?_); first | (refine heap_new_at _ _ _ ?_ <;> (first | rfl | (simp; done) | (simp; omega))) | (refine (heap_old_at _ _ _ ?_).trans (heap_new_at _ _ _ ?_) <;> (first | rfl | (simp; done) | (simp; omega))) | (refine (heap_old_at _ _ _ ?_).trans ((heap_old_at _ _ _ ?_).trans (heap_new_at _ _ _ ?_)) <;> (first | rfl | (simp; done) | (simp; omega))) | (refine (heap_old_at _ _ _ ?_).trans ((heap_old_at _ _ _ ?_).trans ((heap_old_at _ _ _ ?_).trans (heap_new_at _ _ _ ?_))) <;> (first | rfl | (simp; done) | (simp; omega))) | (refine (heap_old_at _ _ _ ?_).trans ((heap_old_at _ _ _ ?_).trans ((heap_old_at _ _ _ ?_).trans ((heap_old_at _ _ _ ?_).trans (heap_new_at _ _ _ ?_)))) <;> (first | rfl | (simp; done) | (simp; omega)))) rfl rfl (by decide) (by decide))) ?_
  rintro e w6 ⟨rfl, hx6⟩
  have hx7 : Ext w w6 := hx5.trans (Ext.trans (by repeat (first | assumption | exact Ext.refl _ | refine Ext.alloc ?_ _ | refine Ext.drew ?_ | refine Ext.drewN ?_ _)) hx6)
  go_wp2
  go_ret
  exact ⟨rfl, hx7⟩
end Go.Proofs.Ytjohkaonokghbaa
