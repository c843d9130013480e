/- The references' reader: its methods. -/
import Derived.Test.YtjohkaonokghbaaRefReader
namespace Go.Proofs.Ytjohkaonokghbaa
open Go.RowKit

/-- block B is the references' reader of the bytes b, at at, with the error e -/
structure RRAt (w : World) (B : Nat) (v : Value) (b : List UInt8) (at0 : Nat) (e : Int) : Prop where
  obj : ObjAt w B 93 #[v, .int .i64 at0, .int .i64 e]
  bs : Bs w v b
  le : at0 ≤ b.length
section
variable {w w' : World} {B : Nat} {v : Value} {b : List UInt8} {at0 : Nat} {e : Int}
theorem RRAt.ext (h : RRAt w B v b at0 e) (he : Ext w w') : RRAt w' B v b at0 e := ⟨h.obj.ext he, h.bs.ext he, h.le⟩
theorem RRAt.cells (h : RRAt w B v b at0 e) :
    w.cell? ⟨B, 0, none⟩ = some v ∧ w.cell? ⟨B, 1, none⟩ = some (.int .i64 at0) ∧ w.cell? ⟨B, 2, none⟩ = some (.int .i64 e) ∧ w.frozen? ⟨B, 0, none⟩ = false ∧ w.frozen? ⟨B, 1, none⟩ = false ∧ w.frozen? ⟨B, 2, none⟩ = false :=
  ⟨h.obj.cell 0, h.obj.cell 1, h.obj.cell 2, h.obj.frozen 0, h.obj.frozen 1, h.obj.frozen 2⟩
theorem RRAt.slice (h : RRAt w B v b at0 e) : ∃ a c, v = .slice a b.length c := by
  obtain ⟨a, c, _, _, hv, _⟩ := h.bs; exact ⟨a, c, hv⟩
theorem RRAt.setE (h : RRAt w B v b at0 e) (x : Int) : RRAt (w.setCell ⟨B, 2, none⟩ (.int .i64 x)) B v b at0 x := by
  obtain ⟨a, c, rfl⟩ := h.slice
  exact ⟨h.obj.set 2 _, h.bs.grown (grownBy_setCell w ⟨B, 2, none⟩ _) (h.obj.noB (by simp)), h.le⟩
theorem RRAt.setA (h : RRAt w B v b at0 e) (x : Nat) (hx : x ≤ b.length) : RRAt (w.setCell ⟨B, 1, none⟩ (.int .i64 x)) B v b x e := by
  obtain ⟨a, c, rfl⟩ := h.slice
  exact ⟨h.obj.set 1 _, h.bs.grown (grownBy_setCell w ⟨B, 1, none⟩ _) (h.obj.noB (by simp)), hx⟩

theorem withinSt_eq (lo hi : Int) (l : List UInt8) : withinSt lo hi l 0 = if (rdNum l).2.2 ≠ 0 then (0, l, (rdNum l).2.2) else if ((rdNum l).1 : Int) < lo ∨ hi < ((rdNum l).1 : Int) then (0, l, 11) else (((rdNum l).1 : Int), l.drop (rdNum l).2.1, 0) := by
  unfold withinSt
  by_cases h0 : (rdNum l).2.2 = 0
  · rw [numSt_ok h0]
    by_cases hr : ((rdNum l).1 : Int) < lo ∨ hi < ((rdNum l).1 : Int)
    · rw [if_pos ⟨rfl, hr⟩, if_neg (fun h => h h0), if_pos hr]
    · rw [if_neg (fun h => hr h.2), if_neg (fun h => h h0), if_neg hr]
  · rw [numSt_bad h0, if_pos h0, if_neg (fun h => h0 h.1)]

/-- what a call leaves -/
def RetRR (w : World) (B : Nat) (v : Value) (b : List UInt8) (r : Value) (l : List UInt8) (e : Int) (en : Ending) (w' : World) : Prop :=
  ∃ at1, en = .returned r ∧ RRAt w' B v b at1 e ∧ b.drop at1 = l ∧ w.grownBy w' (some B)

set_option maxRecDepth 10000 in
set_option maxHeartbeats 1600000 in
theorem rrWithin_any (h : RRAt w B v b at0 e) (lo hi : Int) :
    Calls Try.prog 59 #[.pointer (some ⟨B, 0, none⟩), .int .i64 lo, .int .i64 hi] w (RetRR w B v b (.int .i64 (withinSt lo hi (b.drop at0) e).1) (withinSt lo hi (b.drop at0) e).2.1 (withinSt lo hi (b.drop at0) e).2.2) := by
  obtain ⟨c0, c1, c2, f0, f1, f2⟩ := h.cells
  by_cases he : e = 0
  case neg =>
    have hb1 : (e == 0) = false := by simp [he]
    have hns : numSt (b.drop at0) e = (0, b.drop at0, e) := if_pos he
    have hf : Hid (withinSt lo hi (b.drop at0) e = (0, b.drop at0, e)) := Lib.hid (by unfold withinSt; rw [hns, if_neg (fun hh => he hh.1)])
    clear he hns
    go_enter Try.func59, Try.ntmps59
    go_wp2
    go_ret
    rw [hf.out]
    exact ⟨at0, rfl, h, rfl, grownBy_refl _ _⟩
  subst he
  obtain ⟨a, c, rfl⟩ := h.slice
  obtain ⟨a', c', hsl, hs', -⟩ := Sl.from tiB h.bs at0 h.le .i64
  go_enter Try.func59, Try.ntmps59
  go_wp2
  go_quiet ((go_at_call 87; exact Calls.quiet_of_same ((refNum_any _ _ _ (hs'.ext (Ext.drewN (Ext.refl _) _))).mono fun e w' ⟨h1, h2⟩ => ⟨h1, h2.symm⟩)))
  have hdl : (b.drop at0).length = b.length - at0 := List.length_drop
  have hrp := fun h => @rd_put (b.drop at0) h
  have hwi := Lib.hid (withinSt_eq lo hi (b.drop at0))
  have hle := h.le
  have hlen : b.length ≤ 9223372036854775807 := by
    obtain ⟨_, _, _, _, _, g1, g2, _⟩ := h.bs; exact len_le g1 g2
  generalize rdNum (b.drop at0) = rn at *
  obtain ⟨n, k, e3⟩ := rn
  have hrp' := Lib.hid hrp
  clear hrp
  have h0 : RRAt (w.drewN nq) B (.slice a b.length c) b at0 0 := h.ext ((Ext.refl _).drewN _)
  have hg0 : w.grownBy (w.drewN nq) (some B) := grownBy_ext ((Ext.refl _).drewN _)
  generalize w.drewN nq = wq at *
  obtain ⟨c0, c1, c2, f0, f1, f2⟩ := h0.cells
  by_cases he3 : e3 = 0
  · subst he3
    obtain ⟨p1, p2, p3, p4⟩ := hrp'.out rfl
    rw [hdl] at p3
    clear hrp' p1 hdl
    by_cases hlo : (n : Int) < lo
    · have hf : Hid (withinSt lo hi (b.drop at0) 0 = (0, b.drop at0, 11)) := Lib.hid (by rw [hwi.out, if_neg (fun h => h rfl), if_pos (.inl hlo)])
      clear hwi
      go_wp2
      go_ret
      rw [hf.out]
      exact ⟨at0, rfl, h0.setE 11, rfl, grownBy_trans hg0 (grownBy_setCell _ ⟨B, 2, none⟩ _)⟩
    · by_cases hhi : hi < (n : Int)
      · have hf : Hid (withinSt lo hi (b.drop at0) 0 = (0, b.drop at0, 11)) := Lib.hid (by rw [hwi.out, if_neg (fun h => h rfl), if_pos (.inr hhi)])
        clear hwi
        go_wp2
        go_ret
        rw [hf.out]
        exact ⟨at0, rfl, h0.setE 11, rfl, grownBy_trans hg0 (grownBy_setCell _ ⟨B, 2, none⟩ _)⟩
      · have hf : Hid (withinSt lo hi (b.drop at0) 0 = ((n : Int), b.drop (at0 + k), 0)) := Lib.hid (by
          rw [hwi.out, if_neg (fun h => h rfl), if_neg (fun h => by rcases h with h | h; exact hlo h; exact hhi h)]
          simp only [List.drop_drop])
        clear hwi
        have h1 := h0.setA (at0 + k) (by have : k ≤ b.length - at0 := p3
                                         omega)
        have hk : k ≤ b.length - at0 := p3
        go_wp2
        go_ret
        rw [hf.out]
        exact ⟨at0 + k, rfl, h1, rfl, grownBy_trans hg0 (grownBy_setCell _ ⟨B, 1, none⟩ _)⟩
  · have hb1 : (e3 == 0) = false := by simp [he3]
    have hb2 : (e3 != 0) = true := by simp [he3]
    have hf : Hid (withinSt lo hi (b.drop at0) 0 = (0, b.drop at0, e3)) := Lib.hid (by rw [hwi.out, if_pos he3])
    clear hwi hrp' he3
    go_wp2
    go_ret
    rw [hf.out]
    exact ⟨at0, rfl, h0.setE e3, rfl, grownBy_trans hg0 (grownBy_setCell _ ⟨B, 2, none⟩ _)⟩

theorem numSt_within (l : List UInt8) (e : Int) : withinSt 0 281474976710656 l e = numSt l e := by
  unfold withinSt
  rw [if_neg]
  rintro ⟨h0, h⟩
  have hn := numSt_nn l e
  have : (numSt l e).1 ≤ 281474976710656 := by
    unfold numSt
    split
    · simp
    · split
      · simp
      · rename_i h2
        have := (@rd_put l (by simpa using h2)).2.2.2
        show ((rdNum l).1 : Int) ≤ _
        omega
  omega

set_option maxHeartbeats 400000 in
theorem rrNumber_any (h : RRAt w B v b at0 e) :
    Calls Try.prog 57 #[.pointer (some ⟨B, 0, none⟩)] w (RetRR w B v b (.int .i64 (numSt (b.drop at0) e).1) (numSt (b.drop at0) e).2.1 (numSt (b.drop at0) e).2.2) := by
  have HN := Lib.hid (numSt_within (b.drop at0) e)
  go_enter Try.func57, Try.ntmps57
  go_wp2_with fail
  refine (rrWithin_any h 0 281474976710656).mono ?_
  rw [HN.out]
  rintro e1 w1 ⟨at1, rfl, h1, h2, h3⟩
  have H2 := Lib.hid h2
  clear h2
  go_wp2
  go_ret
  exact ⟨at1, rfl, h1, H2.out, h3⟩
set_option maxHeartbeats 400000 in
theorem rrFail_any (h : RRAt w B v b at0 e) (x : Int) :
    Calls Try.prog 63 #[.pointer (some ⟨B, 0, none⟩), .int .i64 x] w (RetRR w B v b (.tuple #[]) (failSt x (b.drop at0) e).1 (failSt x (b.drop at0) e).2) := by
  obtain ⟨c0, c1, c2, f0, f1, f2⟩ := h.cells
  by_cases he : e = 0
  · subst he
    go_enter Try.func63, Try.ntmps63
    go_wp2
    go_end0
    exact ⟨at0, rfl, h.setE x, rfl, grownBy_setCell _ _ _⟩
  · have hb : (e == 0) = false := by simp [he]
    have hf : Hid (failSt x (b.drop at0) e = (b.drop at0, e)) := Lib.hid (if_neg he)
    clear he
    go_enter Try.func63, Try.ntmps63
    go_wp2
    go_end0
    rw [hf.out]
    exact ⟨at0, rfl, h, rfl, grownBy_refl _ _⟩
/-- a call that only looks, in an open order -/
def RetE (w : World) (r : Value) (en : Ending) (w' : World) : Prop := en = .returned r ∧ ∃ n, w' = w.drewN n
set_option maxRecDepth 10000 in
set_option maxHeartbeats 800000 in
theorem rrEnd_any (h : RRAt w B v b at0 e) :
    Calls Try.prog 64 #[.pointer (some ⟨B, 0, none⟩)] w (RetE w (.int .i64 (endSt (b.drop at0) e))) := by
  obtain ⟨c0, c1, c2, f0, f1, f2⟩ := h.cells
  obtain ⟨a, c, rfl⟩ := h.slice
  have hle := h.le
  have hf : Hid (endSt (b.drop at0) e = if e = 0 ∧ 0 < (b.drop at0).length then 14 else e) := Lib.hid rfl
  by_cases he : e = 0
  · subst he
    by_cases hl : at0 < b.length
    · have hf1 : Hid (endSt (b.drop at0) 0 = 14) := Lib.hid (if_pos ⟨rfl, by rw [List.length_drop]; omega⟩)
      have hl' : ((at0 : Int) < (b.length : Int)) := by omega
      have hd : decide (at0 < b.length) = true := by simpa using hl
      clear hf
      go_enter Try.func64, Try.ntmps64
      go_wp2
      go_quiet (fail)
      go_wp2
      go_ret
      rw [hf1.out]
      exact ⟨rfl, _, rfl⟩
    · have hf1 : Hid (endSt (b.drop at0) 0 = 0) := Lib.hid (if_neg (fun h => by have := h.2; rw [List.length_drop] at this; omega))
      have hl' : ¬ ((at0 : Int) < (b.length : Int)) := by omega
      have hd : decide (at0 < b.length) = false := by simpa using hl
      clear hf
      go_enter Try.func64, Try.ntmps64
      go_wp2
      go_quiet (fail)
      go_wp2
      go_ret
      rw [hf1.out]
      exact ⟨rfl, _, rfl⟩
  · have hb : (e == 0) = false := by simp [he]
    have hf1 : Hid (endSt (b.drop at0) e = e) := Lib.hid (if_neg (fun h => he h.1))
    clear hf he
    go_enter Try.func64, Try.ntmps64
    go_wp2
    go_quiet (fail)
    go_wp2
    go_ret
    rw [hf1.out]
    exact ⟨rfl, _, rfl⟩
end
end Go.Proofs.Ytjohkaonokghbaa
