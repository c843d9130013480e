/- Texts joined: Rd. -/
import Derived.Test.YtoiaegbmbhgdpaaGreatJ09
import Derived.Test.YtoiaegbmbhgdpaaGreatJ18
import Derived.Test.YtoiaegbmbhgdpaaGreatJ11
import Derived.Test.YtoiaegbmbhgdpaaGreatJ10
namespace Go.Proofs.YtoiaegbmbhgdpaaGreat
open Go.RowKit
abbrev bysP (l : List UInt8) : PV := lstP 1 (l.map byteP)
abbrev rdBox (l : List UInt8) (e : Int) : Blk := .box 177 [.per (bysP l), iC .i64 e]
abbrev rdC : Cnt := .ptr 1000 0 0
section
set_option maxRecDepth 10000
set_option maxHeartbeats 4000000
theorem n_Err (l : List UInt8) (e : Int) : FnM Tryz.prog 165 [rdC] [(1000, rdBox l e)] (iC .i64 e) [(1000, rdBox l e)] := by
  refine fnm_intro Tryz.func165 rfl (by kernel_rfl) Tryz.ntmps165 (Nat.le_of_ble_eq_true rfl) ?_
  (refine w0 ?_; (repeat' (first | refine W2.mk ?_ ?_ | refine W1.mk fun hc => ?_)))
  (refine ⟨(by first | exact .inl rfl | exact .inr rfl), resM1 [(1000, 1000)] rfl rfl ?_ ?_⟩; (focus (repeat (first | exact AllX.nil | (refine AllX.cons rfl ?_ ?_; (focus first | rfl | skip))))))
  exact rvm_int rfl rfl
theorem n_Left (l : List UInt8) (e : Int) : FnM Tryz.prog 166 [rdC] [(1000, rdBox l e)] (iC .i64 (l.length : Int)) [(1000, rdBox l e)] := by
  refine fnm_intro Tryz.func166 rfl (by kernel_rfl) Tryz.ntmps166 (Nat.le_of_ble_eq_true rfl) ?_
  (refine w0 ?_; (repeat' (first | refine W2.mk ?_ ?_ | refine W1.mk fun hc => ?_)))
  (refine ⟨(by first | exact .inl rfl | exact .inr rfl), resM1 [(1000, 1000)] rfl rfl ?_ ?_⟩; (focus (repeat (first | exact AllX.nil | (refine AllX.cons rfl ?_ ?_; (focus first | rfl | skip))))))
  exact rvm_int rfl (by simp)
theorem n_Fail (l : List UInt8) (e x : Int) : FnM Tryz.prog 198 [rdC, iC .i64 x] [(1000, rdBox l e)] .any [(1000, rdBox l (failSt x l e).2)] := by
  unfold failSt
  by_cases h0 : e = 0
  · subst h0
    refine fnm_intro Tryz.func198 rfl (by kernel_rfl) Tryz.ntmps198 (Nat.le_of_ble_eq_true rfl) ?_
    (refine w0 ?_; (repeat' (first | refine W2.mk ?_ ?_ | refine W1.mk fun hc => ?_)))
    (refine ⟨(by first | exact .inl rfl | exact .inr rfl), resM0 [(1000, 1000)] rfl rfl ?_⟩; (focus (repeat (first | exact AllX.nil | (refine AllX.cons rfl ?_ ?_; (focus first | rfl | skip))))))
  · rw [if_neg h0]
    refine fnm_intro Tryz.func198 rfl (by kernel_rfl) Tryz.ntmps198 (Nat.le_of_ble_eq_true rfl) ?_
    (refine w0 ?_; (repeat' (first | refine W2.mk ?_ ?_ | refine W1.mk fun hc => ?_)))
    (refine ⟨(by first | exact .inl rfl | exact .inr rfl), resM0 [(1000, 1000)] rfl rfl ?_⟩; (focus (repeat (first | exact AllX.nil | (refine AllX.cons rfl ?_ ?_; (focus first | rfl | skip))))))
def sizeSt (l : List UInt8) : Nat × Int := if 8 ≤ lead l then (0, 11) else if l.length ≤ lead l then (0, 10) else (lead l + 1, 0)
theorem n_size (l : List UInt8) (e : Int) : FnM Tryz.prog 201 [rdC] [(1000, rdBox l e)] (.tup2 (iC .i64 ((sizeSt l).1 : Nat)) (iC .i64 (sizeSt l).2)) [(1000, rdBox l e)] := by
  have hll := lead_le l
  refine fnm_intro Tryz.func201 rfl (by kernel_rfl) Tryz.ntmps201 (Nat.le_of_ble_eq_true rfl) ?_
  (refine w0 ?_; (repeat' (first | refine W2.mk ?_ ?_ | refine W1.mk fun hc => ?_)))
  refine AW_loopP (fun k => k ≤ lead l ∧ k ≤ 8) (fun k => mkSt [(0, rdC), (10, iC .i64 (if 8 < l.length then 8 else l.length : Int)), (11, iC .i64 (k : Nat))] [(1000, rdBox l e)]) (fun k => 8 - k) 0 ⟨Nat.zero_le _, by omega⟩ ?_ ?_
  · exact le_auto
  · rintro k ⟨hk, hk8⟩
    have hst := lead_step l k
    (refine w0 ?_; (repeat' (first | refine W2.mk ?_ ?_ | refine W1.mk fun hc => ?_)))
    · have hkl : k < l.length := by omega
      have h1 := (hst hkl hk).2 (by omega)
      (refine ⟨(by first | exact .inl rfl | exact .inr rfl), resM2 [(1000, 1000)] rfl rfl ?_ ?_ ?_⟩; (focus (repeat (first | exact AllX.nil | (refine AllX.cons rfl ?_ ?_; (focus first | rfl | skip))))))
      · exact rvm_int rfl (by unfold sizeSt; rw [if_neg (by omega), if_neg (by omega)]; simp; omega)
      · exact rvm_int rfl (by unfold sizeSt; rw [if_neg (by omega), if_neg (by omega)])
    · have hkl : k < l.length := by omega
      have h1 := (hst hkl hk).1 (by omega)
      refine ⟨k + 1, ⟨by omega, by omega⟩, by omega, ?_⟩
      exact le_auto
    · (refine ⟨(by first | exact .inl rfl | exact .inr rfl), resM2 [(1000, 1000)] rfl rfl ?_ ?_ ?_⟩; (focus (repeat (first | exact AllX.nil | (refine AllX.cons rfl ?_ ?_; (focus first | rfl | skip))))))
      · exact rvm_int rfl (by unfold sizeSt; rw [if_pos (by omega)]; rfl)
      · exact rvm_int rfl (by unfold sizeSt; rw [if_pos (by omega)])
    · (refine ⟨(by first | exact .inl rfl | exact .inr rfl), resM2 [(1000, 1000)] rfl rfl ?_ ?_ ?_⟩; (focus (repeat (first | exact AllX.nil | (refine AllX.cons rfl ?_ ?_; (focus first | rfl | skip))))))
      · exact rvm_int rfl (by unfold sizeSt; rw [if_neg (by omega), if_pos (by omega)]; rfl)
      · exact rvm_int rfl (by unfold sizeSt; rw [if_neg (by omega), if_pos (by omega)])
theorem leVal_drop (l : List UInt8) (k : Nat) (h : k < l.length) : leVal (l.drop k) = l[k].toNat % 128 + 128 * leVal (l.drop (k + 1)) := by
  rw [List.drop_eq_getElem_cons h]; rfl
theorem n_Number (l : List UInt8) (e : Int) : FnM Tryz.prog 164 [rdC] [(1000, rdBox l e)] (iC .i64 (numSt l e).1) [(1000, rdBox (numSt l e).2.1 (numSt l e).2.2)] := by
  have hll := lead_le l
  by_cases he : e = 0
  · subst he
    by_cases hs : (sizeSt l).2 = 0
    · have hz : lead l < 8 ∧ lead l < l.length ∧ sizeSt l = (lead l + 1, 0) := by
        unfold sizeSt at hs ⊢
        split at hs
        · simp at hs
        · split at hs
          · simp at hs
          · rename_i h1 h2; rw [if_neg h1, if_neg h2]; exact ⟨by omega, by omega, rfl⟩
      obtain ⟨z1, z2, z3⟩ := hz
      have hns := n_size l 0
      rw [z3] at hns
      have hb : numSt l 0 = if rdBad l then (0, l, 11) else (((leVal (l.take (lead l + 1)) : Nat) : Int), l.drop (lead l + 1), 0) := by
        unfold numSt rdNum
        rw [if_neg (by simp), if_neg (show ¬ 8 ≤ lead l by omega), if_neg (show ¬ l.length ≤ lead l by omega)]
        by_cases hb : rdBad l
        · simp [hb]
        · simp [hb]
      rw [hb]
      clear hb z3 hs
      have h128 : ∀ k, k ≤ lead l + 1 → leVal ((l.take (lead l + 1)).drop k) ≤ 72057594037927935 := by
        intro k hk
        have h1 := leVal_lt ((l.take (lead l + 1)).drop k)
        have h2 : (128 : Nat) ^ ((l.take (lead l + 1)).drop k).length ≤ 128 ^ 8 := Nat.pow_le_pow_right (by decide) (by simp; omega)
        have h3 : (128 : Nat) ^ 8 = 72057594037927936 := by decide
        omega
      have hbad : rdBad l ↔ ((lead l + 1 > 1 ∧ l[lead l].toNat = 0) ∨ leVal (l.take (lead l + 1)) > 281474976710656) := by
        unfold rdBad
        have h0 : l[lead l]? = some 0 ↔ l[lead l].toNat = 0 := by
          rw [List.getElem?_eq_getElem z2, Option.some.injEq, ← UInt8.toNat_inj]; rfl
        rw [h0]
        constructor
        · rintro (⟨a, b⟩ | a)
          · exact .inl ⟨by omega, b⟩
          · exact .inr a
        · rintro (⟨a, b⟩ | a)
          · exact .inl ⟨by omega, b⟩
          · exact .inr a
      refine fnm_intro Tryz.func164 rfl (by kernel_rfl) Tryz.ntmps164 (Nat.le_of_ble_eq_true rfl) ?_
      (have kr1 := n_Err l 0; have kr2 := hns; refine w0 ?_; (repeat' (first | refine W2.mk ?_ ?_ | refine W1.mk fun hc => ?_)); all_goals clear kr2 kr1)
      refine AW_loopP (fun j => j ≤ lead l + 1) (fun j => mkSt [(0, rdC), (3, iC .i64 ((lead l + 1 : Nat) : Int)), (5, iC .i64 (leVal ((l.take (lead l + 1)).drop j) : Nat)), (6, iC .i64 ((j : Int) - 1))] [(1000, rdBox l 0)]) (fun j => j) (lead l + 1) (Nat.le_refl _) ?_ ?_
      · have h0 : (l.take (lead l + 1)).drop (lead l + 1) = [] := by simp
        rw [h0]
        exact le_auto
      · intro j hj
        cases j with
        | succ j =>
          have hv := leVal_drop (l.take (lead l + 1)) j (by simp; omega)
          have hb1 := h128 j (by omega)
          have hb2 := h128 (j + 1) (by omega)
          rw [List.getElem_take] at hv
          rw [show ((j + 1 : Nat) : Int) - 1 = (j : Int) by omega]
          (refine w0 ?_; (repeat' (first | refine W2.mk ?_ ?_ | refine W1.mk fun hc => ?_)))
          refine ⟨j, by omega, by omega, ?_⟩
          exact le_auto
        | zero =>
          rw [List.drop_zero]
          have hb1 := h128 0 (by omega)
          rw [List.drop_zero] at hb1
          have hnb : ∀ h : ¬ rdBad l, (if rdBad l then ((0 : Int), l, (11 : Int)) else (((leVal (l.take (lead l + 1)) : Nat) : Int), l.drop (lead l + 1), 0)) = (((leVal (l.take (lead l + 1)) : Nat) : Int), l.drop (lead l + 1), 0) := fun h => if_neg h
          by_cases h1 : lead l + 1 > 1
          · (have kr1 := n_Fail l 0 11; refine w0 ?_; (repeat' (first | refine W2.mk ?_ ?_ | refine W1.mk fun hc => ?_)); all_goals clear kr1)
            · rw [if_pos (hbad.2 (.inl ⟨h1, by omega⟩))]
              (refine ⟨(by first | exact .inl rfl | exact .inr rfl), resM1 [(1000, 1000)] rfl rfl ?_ ?_⟩; (focus (repeat (first | exact AllX.nil | (refine AllX.cons rfl ?_ ?_; (focus first | rfl | skip))))))
              exact rvm_int rfl rfl
            · rw [if_pos (hbad.2 (.inr (by omega)))]
              (refine ⟨(by first | exact .inl rfl | exact .inr rfl), resM1 [(1000, 1000)] rfl rfl ?_ ?_⟩; (focus (repeat (first | exact AllX.nil | (refine AllX.cons rfl ?_ ?_; (focus first | rfl | skip))))))
              exact rvm_int rfl rfl
            · rw [hnb (fun h => by have := hbad.1 h; omega)]
              (refine ⟨(by first | exact .inl rfl | exact .inr rfl), resM1 [(1000, 1000)] rfl rfl ?_ ?_⟩; (focus (repeat (first | exact AllX.nil | (refine AllX.cons rfl ?_ ?_; (focus first | rfl | skip))))))
              exact rvm_int rfl rfl
          · (have kr1 := n_Fail l 0 11; refine w0 ?_; (repeat' (first | refine W2.mk ?_ ?_ | refine W1.mk fun hc => ?_)); all_goals clear kr1)
            · rw [if_pos (hbad.2 (.inr (by omega)))]
              (refine ⟨(by first | exact .inl rfl | exact .inr rfl), resM1 [(1000, 1000)] rfl rfl ?_ ?_⟩; (focus (repeat (first | exact AllX.nil | (refine AllX.cons rfl ?_ ?_; (focus first | rfl | skip))))))
              exact rvm_int rfl rfl
            · rw [hnb (fun h => by have := hbad.1 h; omega)]
              (refine ⟨(by first | exact .inl rfl | exact .inr rfl), resM1 [(1000, 1000)] rfl rfl ?_ ?_⟩; (focus (repeat (first | exact AllX.nil | (refine AllX.cons rfl ?_ ?_; (focus first | rfl | skip))))))
              exact rvm_int rfl rfl
    · have hb : numSt l 0 = (0, l, (sizeSt l).2) := by
        unfold numSt rdNum sizeSt at *
        rw [if_neg (by simp)]
        by_cases h1 : 8 ≤ lead l
        · simp [h1]
        · by_cases h2 : l.length ≤ lead l
          · simp [h1, h2]
          · rw [if_neg h1, if_neg h2] at hs; exact absurd rfl hs
      rw [hb]
      refine fnm_intro Tryz.func164 rfl (by kernel_rfl) Tryz.ntmps164 (Nat.le_of_ble_eq_true rfl) ?_
      (have kr1 := n_Err l 0; have kr2 := n_size l 0; refine w0 ?_; (repeat' (first | refine W2.mk ?_ ?_ | refine W1.mk fun hc => ?_ | ((first | apply AL_t rfl | apply AL_0 rfl | apply AD_t rfl | apply AD_0 rfl); (focus (first | exact c_RA (n_Fail l 0 _) | (apply u_g; (focus rfl); apply op_gyes rfl rfl rfl rfl rfl; first | exact c_RA (n_Fail l 0 _)))); refine w0 ?_))); all_goals clear kr2 kr1)
      rw [show sizeSt l = sizeSt l from rfl]
      (refine ⟨(by first | exact .inl rfl | exact .inr rfl), resM1 [(1000, 1000)] rfl rfl ?_ ?_⟩; (focus (repeat (first | exact AllX.nil | (refine AllX.cons rfl ?_ ?_; (focus first | rfl | skip))))))
      exact rvm_int rfl rfl
  · have hb : numSt l e = (0, l, e) := by unfold numSt; rw [if_pos he]
    rw [hb]
    refine fnm_intro Tryz.func164 rfl (by kernel_rfl) Tryz.ntmps164 (Nat.le_of_ble_eq_true rfl) ?_
    (have kr1 := n_Err l e; refine w0 ?_; (repeat' (first | refine W2.mk ?_ ?_ | refine W1.mk fun hc => ?_)); all_goals clear kr1)
    (refine ⟨(by first | exact .inl rfl | exact .inr rfl), resM1 [(1000, 1000)] rfl rfl ?_ ?_⟩; (focus (repeat (first | exact AllX.nil | (refine AllX.cons rfl ?_ ?_; (focus first | rfl | skip))))))
    exact rvm_int rfl rfl
end
end Go.Proofs.YtoiaegbmbhgdpaaGreat
namespace Go.Proofs.YtoiaegbmbhgdpaaGreat
open Go.RowKit
section
set_option maxRecDepth 10000
set_option maxHeartbeats 4000000
variable (l : List UInt8) (e : Int)
theorem r_at : FnM Tryz.prog 163 [rdC] [(1000, rdBox l e)] rdC [(1000, rdBox l e)] := by
  refine fnm_intro Tryz.func163 rfl (by kernel_rfl) Tryz.ntmps163 (Nat.le_of_ble_eq_true rfl) ?_
  (refine w0 ?_; (repeat' (first | refine W2.mk ?_ ?_ | refine W1.mk fun hc => ?_)))
  (refine ⟨(by first | exact .inl rfl | exact .inr rfl), resM1 [(1000, 1000)] rfl rfl ?_ ?_⟩; (focus (repeat (first | exact AllX.nil | (refine AllX.cons rfl ?_ ?_; (focus first | rfl | skip))))))
  exact rvm rfl rfl
theorem r_Err : FnM Tryz.prog 118 [rdC] [(1000, rdBox l e)] (iC .i64 e) [(1000, rdBox l e)] := by
  refine fnm_intro Tryz.func118 rfl (by kernel_rfl) Tryz.ntmps118 (Nat.le_of_ble_eq_true rfl) ?_
  (have kr1 := r_at l e; have kr2 := n_Err l e; refine w0 ?_; (repeat' (first | refine W2.mk ?_ ?_ | refine W1.mk fun hc => ?_)); all_goals clear kr2 kr1)
  (refine ⟨(by first | exact .inl rfl | exact .inr rfl), resM1 [(1000, 1000)] rfl rfl ?_ ?_⟩; (focus (repeat (first | exact AllX.nil | (refine AllX.cons rfl ?_ ?_; (focus first | rfl | skip))))))
  exact rvm_int rfl rfl
theorem r_Left : FnM Tryz.prog 119 [rdC] [(1000, rdBox l e)] (iC .i64 (l.length : Int)) [(1000, rdBox l e)] := by
  refine fnm_intro Tryz.func119 rfl (by kernel_rfl) Tryz.ntmps119 (Nat.le_of_ble_eq_true rfl) ?_
  (have kr1 := r_at l e; have kr2 := n_Left l e; refine w0 ?_; (repeat' (first | refine W2.mk ?_ ?_ | refine W1.mk fun hc => ?_)); all_goals clear kr2 kr1)
  (refine ⟨(by first | exact .inl rfl | exact .inr rfl), resM1 [(1000, 1000)] rfl rfl ?_ ?_⟩; (focus (repeat (first | exact AllX.nil | (refine AllX.cons rfl ?_ ?_; (focus first | rfl | skip))))))
  exact rvm_int rfl rfl
theorem r_Fail (x : Int) : FnM Tryz.prog 143 [rdC, iC .i64 x] [(1000, rdBox l e)] .any [(1000, rdBox l (failSt x l e).2)] := by
  refine fnm_intro Tryz.func143 rfl (by kernel_rfl) Tryz.ntmps143 (Nat.le_of_ble_eq_true rfl) ?_
  (have kr1 := r_at l e; have kr2 := n_Fail l e x; refine w0 ?_; (repeat' (first | refine W2.mk ?_ ?_ | refine W1.mk fun hc => ?_)); all_goals clear kr2 kr1)
  (refine ⟨(by first | exact .inl rfl | exact .inr rfl), resM0 [(1000, 1000)] rfl rfl ?_⟩; (focus (repeat (first | exact AllX.nil | (refine AllX.cons rfl ?_ ?_; (focus first | rfl | skip))))))
theorem r_Number : FnM Tryz.prog 115 [rdC] [(1000, rdBox l e)] (iC .i64 (numSt l e).1) [(1000, rdBox (numSt l e).2.1 (numSt l e).2.2)] := by
  refine fnm_intro Tryz.func115 rfl (by kernel_rfl) Tryz.ntmps115 (Nat.le_of_ble_eq_true rfl) ?_
  (have kr1 := r_at l e; have kr2 := n_Number l e; refine w0 ?_; (repeat' (first | refine W2.mk ?_ ?_ | refine W1.mk fun hc => ?_)); all_goals clear kr2 kr1)
  (refine ⟨(by first | exact .inl rfl | exact .inr rfl), resM1 [(1000, 1000)] rfl rfl ?_ ?_⟩; (focus (repeat (first | exact AllX.nil | (refine AllX.cons rfl ?_ ?_; (focus first | rfl | skip))))))
  exact rvm_int rfl rfl
theorem r_keep : FnM Tryz.prog 142 [rdC] [(1000, rdBox l e)] (.per (bysP l)) [(1000, rdBox l e)] := by
  refine fnm_intro Tryz.func142 rfl (by kernel_rfl) Tryz.ntmps142 (Nat.le_of_ble_eq_true rfl) ?_
  (refine w0 ?_; (repeat' (first | refine W2.mk ?_ ?_ | refine W1.mk fun hc => ?_)))
  (refine ⟨(by first | exact .inl rfl | exact .inr rfl), resM1 [(1000, 1000)] rfl rfl ?_ ?_⟩; (focus (repeat (first | exact AllX.nil | (refine AllX.cons rfl ?_ ?_; (focus first | rfl | skip))))))
  exact rvm_per rfl rfl
theorem r_Within (lo hi : Int) : FnM Tryz.prog 83 [rdC, iC .i64 lo, iC .i64 hi] [(1000, rdBox l e)] (iC .i64 (withinSt lo hi l e).1) [(1000, rdBox (withinSt lo hi l e).2.1 (withinSt lo hi l e).2.2)] := by
  have hN := r_Number l e
  generalize hQ : withinSt lo hi l e = Q at *
  unfold withinSt at hQ
  generalize numSt l e = q at *
  obtain ⟨m, l', e'⟩ := q
  simp only at hN hQ
  refine fnm_intro Tryz.func83 rfl (by kernel_rfl) Tryz.ntmps83 (Nat.le_of_ble_eq_true rfl) ?_
  (have kr1 := r_keep l e; have kr2 := hN; have kr3 := r_Err l' e'; have kr4 := r_Fail l e' 11; refine w0 ?_; (repeat' (first | refine W2.mk ?_ ?_ | refine W1.mk fun hc => ?_)); all_goals clear kr4 kr3 kr2 kr1)
  · rw [if_pos ⟨by assumption, .inl (by assumption)⟩] at hQ
    subst hQ
    have h0 : e' = 0 := by assumption
    subst h0
    (refine ⟨(by first | exact .inl rfl | exact .inr rfl), resM1 [(1000, 1000)] rfl rfl ?_ ?_⟩; (focus (repeat (first | exact AllX.nil | (refine AllX.cons rfl ?_ ?_; (focus first | rfl | skip))))))
    exact rvm_int rfl rfl
  · rw [if_pos ⟨by assumption, .inr (by omega)⟩] at hQ
    subst hQ
    have h0 : e' = 0 := by assumption
    subst h0
    (refine ⟨(by first | exact .inl rfl | exact .inr rfl), resM1 [(1000, 1000)] rfl rfl ?_ ?_⟩; (focus (repeat (first | exact AllX.nil | (refine AllX.cons rfl ?_ ?_; (focus first | rfl | skip))))))
    exact rvm_int rfl rfl
  · rw [if_neg (by omega)] at hQ
    subst hQ
    (refine ⟨(by first | exact .inl rfl | exact .inr rfl), resM1 [(1000, 1000)] rfl rfl ?_ ?_⟩; (focus (repeat (first | exact AllX.nil | (refine AllX.cons rfl ?_ ?_; (focus first | rfl | skip))))))
    exact rvm_int rfl rfl
  · rw [if_neg (by omega)] at hQ
    subst hQ
    (refine ⟨(by first | exact .inl rfl | exact .inr rfl), resM1 [(1000, 1000)] rfl rfl ?_ ?_⟩; (focus (repeat (first | exact AllX.nil | (refine AllX.cons rfl ?_ ?_; (focus first | rfl | skip))))))
    exact rvm_int rfl rfl
theorem r_Bool : FnM Tryz.prog 116 [rdC] [(1000, rdBox l e)] (bC ((withinSt 0 1 l e).1 == 1)) [(1000, rdBox (withinSt 0 1 l e).2.1 (withinSt 0 1 l e).2.2)] := by
  refine fnm_intro Tryz.func116 rfl (by kernel_rfl) Tryz.ntmps116 (Nat.le_of_ble_eq_true rfl) ?_
  (have kr1 := r_Within l e 0 1; refine w0 ?_; (repeat' (first | refine W2.mk ?_ ?_ | refine W1.mk fun hc => ?_)); all_goals clear kr1)
  (refine ⟨(by first | exact .inl rfl | exact .inr rfl), resM1 [(1000, 1000)] rfl rfl ?_ ?_⟩; (focus (repeat (first | exact AllX.nil | (refine AllX.cons rfl ?_ ?_; (focus first | rfl | skip))))))
  exact rvm_bool rfl rfl
theorem r_End : FnM Tryz.prog 49 [rdC] [(1000, rdBox l e)] (iC .i64 (endSt l e)) [(1000, rdBox l e)] := by
  unfold endSt
  refine fnm_intro Tryz.func49 rfl (by kernel_rfl) Tryz.ntmps49 (Nat.le_of_ble_eq_true rfl) ?_
  (have kr1 := r_Err l e; have kr2 := r_Left l e; refine w0 ?_; (repeat' (first | refine W2.mk ?_ ?_ | refine W1.mk fun hc => ?_)); all_goals clear kr2 kr1)
  all_goals (refine ⟨(by first | exact .inl rfl | exact .inr rfl), resM1 [(1000, 1000)] rfl rfl ?_ ?_⟩; (focus (repeat (first | exact AllX.nil | (refine AllX.cons rfl ?_ ?_; (focus first | rfl | skip))))))
  · exact rvm_int rfl (by rw [if_pos (by omega)])
  · exact rvm_int rfl (by rw [if_neg (by omega)])
  · exact rvm_int rfl (by rw [if_neg (by omega)])
theorem withinSt_rng (most : Int) (h0 : (withinSt 0 most l e).2.2 = 0) : 0 ≤ (withinSt 0 most l e).1 ∧ (withinSt 0 most l e).1 ≤ most := by
  unfold withinSt at *
  split at h0
  · simp at h0
  · rename_i h
    rw [if_neg h]
    omega
theorem r_Text (most : Int) : FnM Tryz.prog 84 [rdC, iC .i64 most] [(1000, rdBox l e)] (sC ⟨(textSt most l e).1.toArray⟩) [(1000, rdBox (textSt most l e).2.1 (textSt most l e).2.2)] := by
  have hN := r_Within l e 0 most
  have hrg := withinSt_rng l e most
  generalize hQ : textSt most l e = Q at *
  unfold textSt at hQ
  generalize withinSt 0 most l e = q at *
  obtain ⟨m, l', e'⟩ := q
  simp only at hN hQ hrg
  by_cases h0 : e' = 0
  · subst h0
    obtain ⟨h1, h2⟩ := hrg rfl
    rw [if_neg (by simp)] at hQ
    by_cases h3 : (l'.length : Int) < m
    · rw [if_pos h3] at hQ
      subst hQ
      refine fnm_intro Tryz.func84 rfl (by kernel_rfl) Tryz.ntmps84 (Nat.le_of_ble_eq_true rfl) ?_
      (have kr1 := r_keep l e; have kr2 := hN; have kr3 := r_Err l' 0; have kr4 := r_Left l' 0; have kr5 := r_Fail l 0 10; refine w0 ?_; (repeat' (first | refine W2.mk ?_ ?_ | refine W1.mk fun hc => ?_)); all_goals clear kr5 kr4 kr3 kr2 kr1)
      (refine ⟨(by first | exact .inl rfl | exact .inr rfl), resM1 [(1000, 1000)] rfl rfl ?_ ?_⟩; (focus (repeat (first | exact AllX.nil | (refine AllX.cons rfl ?_ ?_; (focus first | rfl | skip))))))
      exact rvm_str rfl rfl
    · rw [if_neg h3] at hQ
      subst hQ
      obtain ⟨k, rfl⟩ := Int.eq_ofNat_of_zero_le h1
      have hk : k ≤ l'.length := by omega
      refine fnm_intro Tryz.func84 rfl (by kernel_rfl) Tryz.ntmps84 (Nat.le_of_ble_eq_true rfl) ?_
      (have kr1 := r_keep l e; have kr2 := hN; have kr3 := r_Err l' 0; have kr4 := r_Left l' 0; refine w0 ?_; (repeat' (first | refine W2.mk ?_ ?_ | refine W1.mk fun hc => ?_)); all_goals clear kr4 kr3 kr2 kr1)
      (refine ⟨(by first | exact .inl rfl | exact .inr rfl), resM1 [(1000, 1000)] rfl rfl ?_ ?_⟩; (focus (repeat (first | exact AllX.nil | (refine AllX.cons rfl ?_ ?_; (focus first | rfl | skip))))))
      · exact rvm_str rfl rfl
  · rw [if_pos h0] at hQ
    subst hQ
    refine fnm_intro Tryz.func84 rfl (by kernel_rfl) Tryz.ntmps84 (Nat.le_of_ble_eq_true rfl) ?_
    (have kr1 := r_keep l e; have kr2 := hN; have kr3 := r_Err l' e'; refine w0 ?_; (repeat' (first | refine W2.mk ?_ ?_ | refine W1.mk fun hc => ?_)); all_goals clear kr3 kr2 kr1)
    (refine ⟨(by first | exact .inl rfl | exact .inr rfl), resM1 [(1000, 1000)] rfl rfl ?_ ?_⟩; (focus (repeat (first | exact AllX.nil | (refine AllX.cons rfl ?_ ?_; (focus first | rfl | skip))))))
    exact rvm_str rfl rfl
theorem v_New (hl : l.length ≤ 1000000000) : FnM Tryz.prog 47 [bytesB l] [] (.ptr 3000 0 0) [(3000, rdBox l 0)] := by
  refine fnm_intro Tryz.func47 rfl (by kernel_rfl) Tryz.ntmps47 (Nat.le_of_ble_eq_true rfl) ?_
  (refine w0 ?_; (repeat' (first | refine W2.mk ?_ ?_ | refine W1.mk fun hc => ?_)))
  refine ⟨.inl rfl, ResM_le (Le_fz 3 _ 5 1 rfl rfl) ?_⟩
  refine resM1 [(8, 3000)] rfl rfl ?_ (rvm rfl rfl)
  (repeat (first | exact AllX.nil | (refine AllX.cons rfl ?_ ?_; (focus first | rfl | skip))))
end
end Go.Proofs.YtoiaegbmbhgdpaaGreat
namespace Go.Proofs.YtoiaegbmbhgdpaaGreat
open Go.RowKit
/-! what is left is always the end of the bytes -/
theorem numSt_suf (l : List UInt8) (e : Int) : (numSt l e).2.1 <:+ l := by
  unfold numSt
  split
  · exact List.suffix_refl l
  · split
    · exact List.suffix_refl l
    · exact List.drop_suffix _ _
theorem withinSt_suf (lo hi : Int) (l : List UInt8) (e : Int) : (withinSt lo hi l e).2.1 <:+ l := by
  unfold withinSt
  split
  · exact List.suffix_refl l
  · exact numSt_suf l e
theorem textSt_suf (most : Int) (l : List UInt8) (e : Int) : (textSt most l e).2.1 <:+ l := by
  unfold textSt
  split
  · exact withinSt_suf 0 most l e
  · split
    · exact List.suffix_refl l
    · exact (List.drop_suffix _ _).trans (withinSt_suf 0 most l e)
theorem suf_drop {b l : List UInt8} (h : l <:+ b) : b.drop (b.length - l.length) = l ∧ l.length ≤ b.length := by
  obtain ⟨t, rfl⟩ := h
  simp
/-- the references' reader: all bytes, where it stands, the first error -/
abbrev rrBox (b l : List UInt8) (e : Int) : Blk := .box 106 [.per (bysP b), iC .i64 ((b.length - l.length : Nat) : Int), iC .i64 e]
theorem rdNum_rng (l : List UInt8) : (rdNum l).1 ≤ 281474976710656 ∧ (rdNum l).2.1 ≤ l.length ∧ (rdNum l).2.1 ≤ 8 ∧ ((rdNum l).2.2 ≠ 0 → (rdNum l).1 = 0 ∧ (rdNum l).2.1 = 0) := by
  unfold rdNum
  have := lead_le l
  split
  · simp
  · split
    · simp
    · split
      · simp
      · rename_i h1 h2 h3
        refine ⟨?_, by simp only; omega, by simp only; omega, fun h => absurd rfl h⟩
        unfold rdBad at h3
        simp only; omega
section
set_option maxRecDepth 10000
set_option maxHeartbeats 4000000
theorem rr_Right (n : Int) : Fn Tryz.prog 169 [iC .i64 n] (boR (decide (0 ≤ n ∧ n ≤ 281474976710656))) := by
  refine fn_intro Tryz.func169 rfl (by kernel_rfl) Tryz.ntmps169 (Nat.le_of_ble_eq_true rfl) ?_
  (refine w0 ?_; (repeat' (first | refine W2.mk ?_ ?_ | refine W1.mk fun hc => ?_)))
  all_goals (refine ⟨(by first | exact .inl rfl | exact .inr rfl), res1 rfl ?_⟩)
  · exact rv_bool rfl (by simp; omega)
  · exact rv_bool rfl (by simp; omega)
theorem rr_num (b : List UInt8) : Fn Tryz.prog 122 [bytesB b] (.tup3 (.per (rawP (.int .i64 ((rdNum b).1 : Nat)))) (.per (rawP (.int .i64 ((rdNum b).2.1 : Nat)))) (.per (rawP (.int .i64 (rdNum b).2.2)))) := by
  have hll := lead_le b
  generalize hQ : rdNum b = Q at *
  refine fn_intro Tryz.func122 rfl (by kernel_rfl) Tryz.ntmps122 (Nat.le_of_ble_eq_true rfl) ?_
  (refine w0 ?_; (repeat' (first | refine W2.mk ?_ ?_ | refine W1.mk fun hc => ?_)))
  refine AW_loopP (fun k => k ≤ lead b ∧ k ≤ 8) (fun k => mkSt [(0, bytesB b), (5, iC .i64 (k : Nat))] []) (fun k => 8 - k) 0 ⟨Nat.zero_le _, by omega⟩ ?_ ?_
  · exact le_auto
  · rintro k ⟨hk, hk8⟩
    have hst := lead_step b k
    by_cases hkl : k < b.length
    · have h1 := hst hkl hk
      by_cases hk7 : k < 8
      · by_cases hbig : 128 ≤ b[k].toNat
        · have h2 := h1.1 hbig
          (refine w0 ?_; (repeat' (first | refine W2.mk ?_ ?_ | refine W1.mk fun hc => ?_)))
          refine ⟨k + 1, ⟨by omega, by omega⟩, by omega, ?_⟩
          exact le_auto
        · have h2 := h1.2 (by omega)
          clear h1 hst
          have h128 : ∀ k, k ≤ lead b + 1 → leVal ((b.take (lead b + 1)).drop k) ≤ 72057594037927935 := by
            intro k hk
            have h1 := leVal_lt ((b.take (lead b + 1)).drop k)
            have h2 : (128 : Nat) ^ ((b.take (lead b + 1)).drop k).length ≤ 128 ^ 8 := Nat.pow_le_pow_right (by decide) (by simp; omega)
            have h3 : (128 : Nat) ^ 8 = 72057594037927936 := by decide
            omega
          have hbad : rdBad b ↔ ((k > 0 ∧ b[k].toNat = 0) ∨ leVal (b.take (k + 1)) > 281474976710656) := by
            unfold rdBad
            have h0 : b[lead b]? = some 0 ↔ b[k].toNat = 0 := by
              rw [h2, List.getElem?_eq_getElem hkl, Option.some.injEq, ← UInt8.toNat_inj]; rfl
            rw [h0, h2]
          rw [h2] at h128
          have hQ2 : Q = if rdBad b then (0, 0, 11) else (leVal (b.take (k + 1)), k + 1, 0) := by
            rw [← hQ]
            unfold rdNum
            rw [if_neg (by omega), if_neg (by omega), h2]
          clear hQ
          (refine w0 ?_; (repeat' (first | refine W2.mk ?_ ?_ | refine W1.mk fun hc => ?_)))
          refine AW_loopP (fun j => j ≤ k + 1) (fun j => mkSt [(0, bytesB b), (5, iC .i64 (k : Nat)), (6, iC .i64 (leVal ((b.take (k + 1)).drop j) : Nat)), (7, iC .i64 ((j : Int) - 1))] []) (fun j => j) (k + 1) (Nat.le_refl _) ?_ ?_
          · have h0 : (b.take (k + 1)).drop (k + 1) = [] := by simp
            rw [h0]
            exact le_auto
          · intro j hj
            cases j with
            | succ j =>
              have hv := leVal_drop (b.take (k + 1)) j (by simp; omega)
              have hb1 := h128 j (by omega)
              have hb2 := h128 (j + 1) (by omega)
              rw [List.getElem_take] at hv
              rw [show ((j + 1 : Nat) : Int) - 1 = (j : Int) by omega]
              (refine w0 ?_; (repeat' (first | refine W2.mk ?_ ?_ | refine W1.mk fun hc => ?_)))
              refine ⟨j, by omega, by omega, ?_⟩
              exact le_auto
            | zero =>
              rw [List.drop_zero]
              have hb1 := h128 0 (by omega)
              rw [List.drop_zero] at hb1
              (refine w0 ?_; (repeat' (first | refine W2.mk ?_ ?_ | refine W1.mk fun hc => ?_ | ((first | apply AL_t rfl | apply AL_0 rfl | apply AD_t rfl | apply AD_0 rfl); (focus (first | exact c_A (rr_Right _) | (apply u_g; (focus rfl); apply op_gyes rfl rfl rfl rfl rfl; first | exact c_A (rr_Right _)))); refine w0 ?_))))
              · rw [if_pos (hbad.2 (.inl ⟨by omega, by omega⟩))] at hQ2
                subst hQ2
                refine ⟨.inl rfl, res3 rfl (rv_int rfl rfl) (rv_int rfl rfl) (rv_int rfl rfl)⟩
              · rw [if_pos (hbad.2 (.inr (by omega)))] at hQ2
                subst hQ2
                refine ⟨.inl rfl, res3 rfl (rv_int rfl rfl) (rv_int rfl rfl) (rv_int rfl rfl)⟩
              · rw [if_neg (fun h => by have := hbad.1 h; omega)] at hQ2
                subst hQ2
                refine ⟨.inl rfl, res3 rfl (rv_int rfl rfl) (rv_int rfl rfl) (rv_int rfl rfl)⟩
              · rw [if_pos (hbad.2 (.inr (by omega)))] at hQ2
                subst hQ2
                refine ⟨.inl rfl, res3 rfl (rv_int rfl rfl) (rv_int rfl rfl) (rv_int rfl rfl)⟩
              · rw [if_neg (fun h => by have := hbad.1 h; omega)] at hQ2
                subst hQ2
                refine ⟨.inl rfl, res3 rfl (rv_int rfl rfl) (rv_int rfl rfl) (rv_int rfl rfl)⟩
      · have hQ2 : Q = (0, 0, 11) := by
          rw [← hQ]; unfold rdNum; rw [if_pos (by omega)]
        subst hQ2
        (refine w0 ?_; (repeat' (first | refine W2.mk ?_ ?_ | refine W1.mk fun hc => ?_)))
        refine ⟨.inl rfl, res3 rfl (rv_int rfl rfl) (rv_int rfl rfl) (rv_int rfl rfl)⟩
    · by_cases h8 : k = 8
      · have hQ2 : Q = (0, 0, 11) := by
          rw [← hQ]; unfold rdNum; rw [if_pos (by omega)]
        subst hQ2
        (refine w0 ?_; (repeat' (first | refine W2.mk ?_ ?_ | refine W1.mk fun hc => ?_)))
        refine ⟨.inl rfl, res3 rfl (rv_int rfl rfl) (rv_int rfl rfl) (rv_int rfl rfl)⟩
      · have hQ2 : Q = (0, 0, 10) := by
          rw [← hQ]; unfold rdNum; rw [if_neg (by omega), if_pos (by omega)]
        subst hQ2
        (refine w0 ?_; (repeat' (first | refine W2.mk ?_ ?_ | refine W1.mk fun hc => ?_)))
        refine ⟨.inl rfl, res3 rfl (rv_int rfl rfl) (rv_int rfl rfl) (rv_int rfl rfl)⟩
end
end Go.Proofs.YtoiaegbmbhgdpaaGreat
namespace Go.Proofs.YtoiaegbmbhgdpaaGreat
open Go.RowKit
theorem adv {b l l' : List UInt8} (h : l <:+ b) {k : Nat} (hk : k ≤ l.length) (h' : l' = l.drop k) : b.length - l.length + k = b.length - l'.length := by
  have := (suf_drop h).2
  rw [h', List.length_drop]; omega
theorem withinSt_e {lo hi : Int} {l : List UInt8} {e : Int} (h : e ≠ 0) : withinSt lo hi l e = (0, l, e) := by
  unfold withinSt numSt
  simp [h]
theorem withinSt_0 (lo hi : Int) (l : List UInt8) : withinSt lo hi l 0 = if (rdNum l).2.2 ≠ 0 then (0, l, (rdNum l).2.2) else if ((rdNum l).1 : Int) < lo ∨ hi < ((rdNum l).1 : Int) then (0, l, 11) else (((rdNum l).1 : Int), l.drop (rdNum l).2.1, 0) := by
  unfold withinSt numSt
  by_cases h : (rdNum l).2.2 = 0
  · simp [h]
  · simp [h]
section
set_option maxRecDepth 10000
set_option maxHeartbeats 4000000
variable (b l : List UInt8) (e : Int) (hs : l <:+ b) (hb : b.length ≤ 1000000000000)
include hs hb
theorem rr_Within (lo hi : Int) : FnM Tryz.prog 58 [rdC, iC .i64 lo, iC .i64 hi] [(1000, rrBox b l e)] (iC .i64 (withinSt lo hi l e).1) [(1000, rrBox b (withinSt lo hi l e).2.1 (withinSt lo hi l e).2.2)] := by
  obtain ⟨hd, hlen⟩ := suf_drop hs
  have hn := rr_num (b.drop (b.length - l.length))
  rw [show rdNum (b.drop (b.length - l.length)) = rdNum l by rw [hd]] at hn
  obtain ⟨r1, r2, r3, r4⟩ := rdNum_rng l
  by_cases h0 : e = 0
  · subst h0
    rw [withinSt_0]
    have ha := adv hs r2 rfl
    generalize rdNum l = q at *
    obtain ⟨m, k, e'⟩ := q
    simp only at hn r1 r2 r3 r4 ha ⊢
    by_cases h1 : e' = 0
    · subst h1
      rw [if_neg (by simp)]
      by_cases h2 : (m : Int) < lo ∨ hi < (m : Int)
      · rw [if_pos h2]
        refine fnm_intro Tryz.func58 rfl (by kernel_rfl) Tryz.ntmps58 (Nat.le_of_ble_eq_true rfl) ?_
        (have kc1 := hn; refine w0 ?_; (repeat' (first | refine W2.mk ?_ ?_ | refine W1.mk fun hc => ?_)); all_goals clear kc1)
        all_goals (refine ⟨(by first | exact .inl rfl | exact .inr rfl), resM1 [(1000, 1000)] rfl rfl ?_ ?_⟩; (focus (repeat (first | exact AllX.nil | (refine AllX.cons rfl ?_ ?_; (focus first | rfl | skip))))))
        all_goals exact rvm_int rfl rfl
      · rw [if_neg h2]
        refine fnm_intro Tryz.func58 rfl (by kernel_rfl) Tryz.ntmps58 (Nat.le_of_ble_eq_true rfl) ?_
        (have kc1 := hn; refine w0 ?_; (repeat' (first | refine W2.mk ?_ ?_ | refine W1.mk fun hc => ?_)); all_goals clear kc1)
        rw [show ((b.length - l.length : Nat) : Int) + (k : Int) = ((b.length - (l.drop k).length : Nat) : Int) by omega]
        (refine ⟨(by first | exact .inl rfl | exact .inr rfl), resM1 [(1000, 1000)] rfl rfl ?_ ?_⟩; (focus (repeat (first | exact AllX.nil | (refine AllX.cons rfl ?_ ?_; (focus first | rfl | skip))))))
        exact rvm_int rfl rfl
    · rw [if_pos h1]
      obtain ⟨rfl, rfl⟩ := r4 h1
      refine fnm_intro Tryz.func58 rfl (by kernel_rfl) Tryz.ntmps58 (Nat.le_of_ble_eq_true rfl) ?_
      (have kc1 := hn; refine w0 ?_; (repeat' (first | refine W2.mk ?_ ?_ | refine W1.mk fun hc => ?_)); all_goals clear kc1)
      (refine ⟨(by first | exact .inl rfl | exact .inr rfl), resM1 [(1000, 1000)] rfl rfl ?_ ?_⟩; (focus (repeat (first | exact AllX.nil | (refine AllX.cons rfl ?_ ?_; (focus first | rfl | skip))))))
      exact rvm_int rfl rfl
  · rw [withinSt_e h0]
    refine fnm_intro Tryz.func58 rfl (by kernel_rfl) Tryz.ntmps58 (Nat.le_of_ble_eq_true rfl) ?_
    (refine w0 ?_; (repeat' (first | refine W2.mk ?_ ?_ | refine W1.mk fun hc => ?_)))
    (refine ⟨(by first | exact .inl rfl | exact .inr rfl), resM1 [(1000, 1000)] rfl rfl ?_ ?_⟩; (focus (repeat (first | exact AllX.nil | (refine AllX.cons rfl ?_ ?_; (focus first | rfl | skip))))))
    exact rvm_int rfl rfl
omit hb in
theorem rr_End : FnM Tryz.prog 61 [rdC] [(1000, rrBox b l e)] (iC .i64 (endSt l e)) [(1000, rrBox b l e)] := by
  obtain ⟨hd, hlen⟩ := suf_drop hs
  unfold endSt
  refine fnm_intro Tryz.func61 rfl (by kernel_rfl) Tryz.ntmps61 (Nat.le_of_ble_eq_true rfl) ?_
  (refine w0 ?_; (repeat' (first | refine W2.mk ?_ ?_ | refine W1.mk fun hc => ?_)))
  all_goals (refine ⟨(by first | exact .inl rfl | exact .inr rfl), resM1 [(1000, 1000)] rfl rfl ?_ ?_⟩; (focus (repeat (first | exact AllX.nil | (refine AllX.cons rfl ?_ ?_; (focus first | rfl | skip))))))
  · exact rvm_int rfl (by rw [if_pos (by omega)])
  · exact rvm_int rfl (by rw [if_neg (by omega)])
  · exact rvm_int rfl (by rw [if_neg (by omega)])
theorem rr_Text (most : Int) : FnM Tryz.prog 60 [rdC, iC .i64 most] [(1000, rrBox b l e)] (sC ⟨(textSt most l e).1.toArray⟩) [(1000, rrBox b (textSt most l e).2.1 (textSt most l e).2.2)] := by
  obtain ⟨hd, hlen⟩ := suf_drop hs
  have hW := rr_Within b l e hs hb 0 most
  have hrg := withinSt_rng l e most
  have hsuf := (withinSt_suf 0 most l e).trans hs
  generalize hQ : textSt most l e = Q at *
  unfold textSt at hQ
  generalize withinSt 0 most l e = q at *
  obtain ⟨m, l', e'⟩ := q
  simp only at hW hQ hrg hsuf
  obtain ⟨hd', hlen'⟩ := suf_drop hsuf
  by_cases h0 : e' = 0
  · subst h0
    obtain ⟨h1, h2⟩ := hrg rfl
    rw [if_neg (by simp)] at hQ
    by_cases h3 : (l'.length : Int) < m
    · rw [if_pos h3] at hQ
      subst hQ
      refine fnm_intro Tryz.func60 rfl (by kernel_rfl) Tryz.ntmps60 (Nat.le_of_ble_eq_true rfl) ?_
      (have kr1 := hW; refine w0 ?_; (repeat' (first | refine W2.mk ?_ ?_ | refine W1.mk fun hc => ?_)); all_goals clear kr1)
      (refine ⟨(by first | exact .inl rfl | exact .inr rfl), resM1 [(1000, 1000)] rfl rfl ?_ ?_⟩; (focus (repeat (first | exact AllX.nil | (refine AllX.cons rfl ?_ ?_; (focus first | rfl | skip))))))
      exact rvm_str rfl rfl
    · rw [if_neg h3] at hQ
      subst hQ
      obtain ⟨k, rfl⟩ := Int.eq_ofNat_of_zero_le h1
      have hk : k ≤ l'.length := by omega
      refine fnm_intro Tryz.func60 rfl (by kernel_rfl) Tryz.ntmps60 (Nat.le_of_ble_eq_true rfl) ?_
      (have kr1 := hW; refine w0 ?_; (repeat' (first | refine W2.mk ?_ ?_ | refine W1.mk fun hc => ?_)); all_goals clear kr1)
      rw [show ((b.length - l'.length : Nat) : Int) + (k : Int) = ((b.length - (l'.drop k).length : Nat) : Int) by rw [List.length_drop]; omega, show b.length - l'.length + k - (b.length - l'.length) = k by omega, hd']
      (refine ⟨(by first | exact .inl rfl | exact .inr rfl), resM1 [(1000, 1000)] rfl rfl ?_ ?_⟩; (focus (repeat (first | exact AllX.nil | (refine AllX.cons rfl ?_ ?_; (focus first | rfl | skip))))))
      exact rvm_str rfl rfl
  · rw [if_pos h0] at hQ
    subst hQ
    refine fnm_intro Tryz.func60 rfl (by kernel_rfl) Tryz.ntmps60 (Nat.le_of_ble_eq_true rfl) ?_
    (have kr1 := hW; refine w0 ?_; (repeat' (first | refine W2.mk ?_ ?_ | refine W1.mk fun hc => ?_)); all_goals clear kr1)
    (refine ⟨(by first | exact .inl rfl | exact .inr rfl), resM1 [(1000, 1000)] rfl rfl ?_ ?_⟩; (focus (repeat (first | exact AllX.nil | (refine AllX.cons rfl ?_ ?_; (focus first | rfl | skip))))))
    exact rvm_str rfl rfl
end
end Go.Proofs.YtoiaegbmbhgdpaaGreat
