/- The references' reader: texts. -/
import Derived.Test.YtjohkaonokghbaaRefReader2
namespace Go.Proofs.Ytjohkaonokghbaa
open Go.RowKit
section
variable {w w' : World} {B : Nat} {v : Value} {b : List UInt8} {at0 : Nat} {e : Int}
set_option maxRecDepth 10000 in
set_option maxHeartbeats 1600000 in
theorem rrText_any (h : RRAt w B v b at0 e) (most : Int) :
    Calls Try.prog 61 #[.pointer (some ⟨B, 0, none⟩), .int .i64 most] w (RetRR w B v b (.string ⟨(textSt most (b.drop at0) e).1.toArray⟩) (textSt most (b.drop at0) e).2.1 (textSt most (b.drop at0) e).2.2) := by
  have htx : Hid (textSt most (b.drop at0) e = if (withinSt 0 most (b.drop at0) e).2.2 ≠ 0 then ([], (withinSt 0 most (b.drop at0) e).2)
    else if (withinSt 0 most (b.drop at0) e).2.1.length < (withinSt 0 most (b.drop at0) e).1 then ([], b.drop at0, 10)
    else ((withinSt 0 most (b.drop at0) e).2.1.take (withinSt 0 most (b.drop at0) e).1.toNat, (withinSt 0 most (b.drop at0) e).2.1.drop (withinSt 0 most (b.drop at0) e).1.toNat, 0)) := Lib.hid rfl
  have hnn := withinSt_nn 0 most (b.drop at0) e
  generalize hns : withinSt 0 most (b.drop at0) e = st at *
  have HNS := Lib.hid hns
  obtain ⟨n, l', e'⟩ := st
  replace hnn : 0 ≤ n := hnn
  obtain ⟨m, rfl⟩ := Int.eq_ofNat_of_zero_le hnn
  obtain ⟨c0, c1, c2, f0, f1, f2⟩ := h.cells
  have hlen : b.length ≤ 9223372036854775807 := by
    obtain ⟨_, _, _, _, _, g1, g2, _⟩ := h.bs; exact len_le g1 g2
  have hle0 := h.le
  obtain ⟨a, c, rfl⟩ := h.slice
  clear hns hnn
  by_cases he : e' = 0
  case neg =>
    have hf : Hid (textSt most (b.drop at0) e = ([], l', e')) := Lib.hid (by rw [htx.out, if_pos he])
    have hbe : (e' == 0) = false := by simp [he]
    clear he htx
    go_enter Try.func61, Try.ntmps61
    go_wp2_with fail
    refine (rrWithin_any h 0 most).mono ?_
    rw [HNS.out]
    rintro e1 w1 ⟨at1, rfl, h1, hl1, hg⟩
    dsimp only at h1 hl1
    have HL := Lib.hid hl1
    obtain ⟨d0, d1, d2, -, -, -⟩ := h1.cells
    clear hl1 c0 c1 c2 f0 f1 f2
    go_wp2
    go_ret
    rw [hf.out]
    exact ⟨at1, rfl, h1, HL.out, hg⟩
  subst he
  by_cases hbig : (l'.length : Int) < (m : Int)
  · have hf : Hid (textSt most (b.drop at0) e = ([], b.drop at0, 10)) := Lib.hid (by rw [htx.out]; simp only [ne_eq, not_true_eq_false, if_false]; rw [if_pos hbig])
    clear htx
    go_enter Try.func61, Try.ntmps61
    go_wp2_with fail
    refine (rrWithin_any h 0 most).mono ?_
    rw [HNS.out]
    rintro e1 w1 ⟨at1, rfl, h1, hl1, hg⟩
    dsimp only at h1 hl1
    have hll : l'.length = b.length - at1 := by rw [← hl1, List.length_drop]
    have hm : ((b.length : Int) - (at1 : Int)) < (m : Int) := by have := h1.le; omega
    have hle1 := h1.le
    clear hl1 c0 c1 c2 f0 f1 f2 hll
    obtain ⟨d0, d1, d2, g0, g1, g2⟩ := h1.cells
    go_wp2
    go_quiet (fail)
    have h2 : RRAt (w1.drewN nq) B (.slice a b.length c) b at1 0 := h1.ext ((Ext.refl _).drewN _)
    have hg2 : w.grownBy (w1.drewN nq) (some B) := grownBy_trans hg (grownBy_ext ((Ext.refl _).drewN _))
    generalize w1.drewN nq = wq at *
    have h3 := h2.setA at0 hle0
    clear d0 d1 d2 g0 g1 g2
    obtain ⟨d0, d1, d2, g0, g1, g2⟩ := h2.cells
    obtain ⟨k0, k1, k2, j0, j1, j2⟩ := h3.cells
    go_wp2
    go_ret
    rw [hf.out]
    exact ⟨at0, rfl, h3.setE 10, rfl, grownBy_trans hg2 (grownBy_trans (grownBy_setCell _ ⟨B, 1, none⟩ _) (grownBy_setCell _ ⟨B, 2, none⟩ _))⟩
  · have hf : Hid (textSt most (b.drop at0) e = (l'.take m, l'.drop m, 0)) := Lib.hid (by rw [htx.out]; simp only [ne_eq, not_true_eq_false, if_false]; rw [if_neg hbig]; simp)
    have hm : m ≤ l'.length := by omega
    clear htx
    go_enter Try.func61, Try.ntmps61
    go_wp2_with fail
    refine (rrWithin_any h 0 most).mono ?_
    rw [HNS.out]
    rintro e1 w1 ⟨at1, rfl, h1, hl1, hg⟩
    dsimp only at h1 hl1
    have hll : l'.length = b.length - at1 := by rw [← hl1, List.length_drop]
    have hle1 := h1.le
    have hm2 : ¬ ((b.length : Int) - (at1 : Int)) < (m : Int) := by omega
    have hm3 : at1 + m ≤ b.length := by omega
    obtain ⟨a1, c1', hmid, hs1, -⟩ := Sl.mid tiB h1.bs at1 (at1 + m) (by omega) hm3 .i64 .i64
    rw [show ((at1 + m : Nat) : Int) = (at1 : Int) + (m : Int) by omega, Nat.add_sub_cancel_left] at hmid
    rw [Nat.add_sub_cancel_left, hl1] at hs1
    have hcv := fun n => Bs.toStr Try.underlying25 Try.underlying5 Try.underlying9 (Sl.ext hs1 ((Ext.refl w1).drewN n))
    have HL : Hid (b.drop (at1 + m) = l'.drop m) := Lib.hid (by rw [← hl1, List.drop_drop])
    have h3 := fun n => (h1.ext ((Ext.refl w1).drewN n)).setA (at1 + m) hm3
    have H3 := Lib.hid h3
    clear hl1 c0 c1 c2 f0 f1 f2 hll hs1 h3
    obtain ⟨d0, d1, d2, g0, g1, g2⟩ := h1.cells
    go_wp2
    go_quiet (fail)
    go_wp2
    go_quiet (fail)
    go_wp2
    go_ret
    rw [hf.out]
    exact ⟨at1 + m, rfl, H3.out _, HL.out, grownBy_trans (grownBy_trans hg (grownBy_ext ((Ext.refl _).drewN _))) (grownBy_setCell _ ⟨B, 1, none⟩ _)⟩
end
end Go.Proofs.Ytjohkaonokghbaa
