/- Texts joined: OpenRg OpenKn OpenMs Lw36. -/
import Derived.Test.YtoiaegbmbhgdpaaGreatJ38
import Derived.Test.YtoiaegbmbhgdpaaGreatJ16
import Derived.Test.YtoiaegbmbhgdpaaGreatJ44
import Derived.Test.YtoiaegbmbhgdpaaGreatJ22
import Derived.Test.YtoiaegbmbhgdpaaGreatJ39
namespace Go.Proofs.YtoiaegbmbhgdpaaGreat
open Go.RowKit
theorem list3 {α : Type} (l : List α) (h : l.length = 3) : ∃ a b c, l = [a, b, c] := by
  match l, h with | [a, b, c], _ => exact ⟨a, b, c, rfl⟩
theorem list4 {α : Type} (l : List α) (h : l.length = 4) : ∃ a b c d, l = [a, b, c, d] := by
  match l, h with | [a, b, c, d], _ => exact ⟨a, b, c, d, rfl⟩
def RgWf (x : Rg) : Prop := x.lo.size ≤ maxLen ∧ x.hi.size ≤ maxLen
theorem rdRg (w : World) : Rd Tryz.prog w 26 (fun cs => ∃ x, cs = encRg x ∧ RgWf x) := by
  refine (Rd.struct' Tryz.underlying26).mono ?_
  rintro cs ⟨hl, hf⟩
  obtain ⟨c0, c1, c2, rfl⟩ := list3 cs (hl.trans (by kernel_rfl))
  obtain ⟨s0, h0, w0⟩ := hf 0 0 9 1 _ rfl (by kernel_rfl) (Rd.string Tryz.underlying9)
  obtain ⟨s1, h1, w1⟩ := hf 1 1 9 1 _ rfl (by kernel_rfl) (Rd.string Tryz.underlying9)
  obtain ⟨b2, h2⟩ := hf 2 2 4 1 _ rfl (by kernel_rfl) (Rd.bool Tryz.underlying4)
  simp at h0 h1 h2
  subst h0 h1 h2
  exact ⟨⟨s0, s1, b2⟩, rfl, w0, w1⟩
theorem Arg.range {w : World} {v : Value} (h : Arg Tryz.prog w 26 v) : ∃ x, v = .agg (encRg x).toArray ∧ RgWf x := by
  obtain ⟨cs, rfl⟩ := h.cells (by rw [Tryz.underlying26])
  obtain ⟨x, h1, h2⟩ := h.rd _ (rdRg w)
  refine ⟨x, ?_, h2⟩
  rw [← h1]; simp [Value.cells]
end Go.Proofs.YtoiaegbmbhgdpaaGreat
namespace Go.Proofs.YtoiaegbmbhgdpaaGreat
open Go.RowKit
theorem rdRn (w : World) : Rd Tryz.prog w 197 (fun cs => ∃ x, cs = encRn x ∧ True) := by
  refine (Rd.struct' Tryz.underlying197).mono ?_
  rintro cs ⟨hl, hf⟩
  obtain ⟨c0, c1, rfl⟩ := list2 cs (hl.trans (by kernel_rfl))
  obtain ⟨n0, h0, w0⟩ := hf 0 0 3 1 _ rfl (by kernel_rfl) (Rd.int Tryz.underlying3)
  obtain ⟨n1, h1, w1⟩ := hf 1 1 3 1 _ rfl (by kernel_rfl) (Rd.int Tryz.underlying3)
  simp at h0 h1
  subst h0 h1
  exact ⟨⟨n0, n1⟩, rfl, trivial⟩
theorem rdpRn (w : World) : RdP Tryz.prog w 197 2 rnP (fun _ => True) := RdP.flat encRn_ok (rdRn w)
theorem rdpKn (w : World) : RdP Tryz.prog w 195 2 knP (fun _ => True) := by
  refine (Rd.struct' Tryz.underlying195).mono ?_
  rintro cs ⟨hl, hf⟩
  obtain ⟨c0, c1, rfl⟩ := list2 cs (hl.trans (by kernel_rfl))
  obtain ⟨n0, h0, w0⟩ := hf 0 0 3 1 _ rfl (by kernel_rfl) (Rd.int Tryz.underlying3)
  obtain ⟨v, l, h1, h2, _⟩ := hf 1 1 193 1 _ rfl (by kernel_rfl) ((rdpRn w).slice Tryz.underlying193 (by kernel_rfl) (by decide))
  simp at h0 h1
  subst h0 h1
  refine ⟨⟨n0, l⟩, trivial, rfl, rfl, fun j A u hj hu => ?_⟩
  match j, hj, hu with
  | 0, hj, hu => cases hj; cases hu; exact ⟨rfl, rfl⟩
  | 1, hj, hu => cases hj; cases hu; exact ⟨by obtain ⟨a, c, b, o, rfl, _⟩ := h2; rfl, h2⟩
  | _ + 2, hj, _ => simp at hj
theorem rdpPc (w : World) : RdP Tryz.prog w 158 4 pcP (fun p => RgWf p.rg) := by
  refine (Rd.struct' Tryz.underlying158).mono ?_
  rintro cs ⟨hl, hf⟩
  obtain ⟨c0, c1, c2, c3, rfl⟩ := list4 cs (hl.trans (by kernel_rfl))
  obtain ⟨r, h0, w0⟩ := hf 0 0 26 3 _ rfl (by kernel_rfl) (rdRg w)
  obtain ⟨v, l, h1, h2, _⟩ := hf 1 3 156 1 _ rfl (by kernel_rfl) ((rdpKn w).slice Tryz.underlying156 (by kernel_rfl) (by decide))
  simp [encRg] at h0 h1
  obtain ⟨rfl, rfl, rfl⟩ := h0
  subst h1
  refine ⟨⟨r, l⟩, w0, rfl, rfl, fun j A u hj hu => ?_⟩
  match j, hj, hu with
  | 0, hj, hu => cases hj; cases hu; exact ⟨rfl, rfl⟩
  | 1, hj, hu => cases hj; cases hu; exact ⟨rfl, rfl⟩
  | 2, hj, hu => cases hj; cases hu; exact ⟨rfl, rfl⟩
  | 3, hj, hu => cases hj; cases hu; exact ⟨by obtain ⟨a, c, b, o, rfl, _⟩ := h2; rfl, h2⟩
  | _ + 4, hj, _ => simp at hj
end Go.Proofs.YtoiaegbmbhgdpaaGreat
namespace Go.Proofs.YtoiaegbmbhgdpaaGreat
open Go.RowKit
theorem list19 {α : Type} (l : List α) (h : l.length = 19) : ∃ a0 a1 a2 a3 a4 a5 a6 a7 a8 a9 a10 a11 a12 a13 a14 a15 a16 a17 a18, l = [a0, a1, a2, a3, a4, a5, a6, a7, a8, a9, a10, a11, a12, a13, a14, a15, a16, a17, a18] := by
  match l, h with | [a0, a1, a2, a3, a4, a5, a6, a7, a8, a9, a10, a11, a12, a13, a14, a15, a16, a17, a18], _ => exact ⟨a0, a1, a2, a3, a4, a5, a6, a7, a8, a9, a10, a11, a12, a13, a14, a15, a16, a17, a18, rfl⟩
def MsWf (m : Msg) : Prop := m.sum < 18446744073709551616 ∧ RgWf m.rg ∧ (∀ r ∈ m.flt, RgWf r) ∧ (∀ p ∈ m.know, RgWf p.rg) ∧ (∀ x ∈ m.its, ItWf x)
theorem rdU8 (w : World) : Rd Tryz.prog w 5 (fun cs => ∃ x : UInt8, cs = encB x ∧ True) := (Rd.int Tryz.underlying5).mono Rd.u8dec
theorem one_lst {N : BP} {w : World} {k : Nat} {es : List (List PV)} {v : Value} (h : (lstP k es).p N w v) : v.oneCell' = true := by obtain ⟨a, c, b, o, rfl, _⟩ := h; rfl
theorem rdMs (w : World) : Rd Tryz.prog w 30 (fun cs => ∃ m : Msg, MsWf m ∧ Wr w 19 msCs cs m) := by
  refine (Rd.struct' Tryz.underlying30).mono ?_
  rintro cs ⟨hl, hf⟩
  obtain ⟨c0, c1, c2, c3, c4, c5, c6, c7, c8, c9, c10, c11, c12, c13, c14, c15, c16, c17, c18, rfl⟩ := list19 cs (hl.trans (by kernel_rfl))
  obtain ⟨n0, h0, _⟩ := hf 0 0 3 1 _ rfl (by kernel_rfl) (Rd.int Tryz.underlying3)
  obtain ⟨n1, h1, _⟩ := hf 1 1 3 1 _ rfl (by kernel_rfl) (Rd.int Tryz.underlying3)
  obtain ⟨n2, h2, _⟩ := hf 2 2 3 1 _ rfl (by kernel_rfl) (Rd.int Tryz.underlying3)
  obtain ⟨n3, h3, _⟩ := hf 3 3 3 1 _ rfl (by kernel_rfl) (Rd.int Tryz.underlying3)
  obtain ⟨n4, h4, _⟩ := hf 4 4 3 1 _ rfl (by kernel_rfl) (Rd.int Tryz.underlying3)
  obtain ⟨n5, h5, _⟩ := hf 5 5 3 1 _ rfl (by kernel_rfl) (Rd.int Tryz.underlying3)
  obtain ⟨n6, h6, _⟩ := hf 6 6 3 1 _ rfl (by kernel_rfl) (Rd.int Tryz.underlying3)
  obtain ⟨n7, h7, _⟩ := hf 7 7 3 1 _ rfl (by kernel_rfl) (Rd.int Tryz.underlying3)
  obtain ⟨b8, h8⟩ := hf 8 8 4 1 _ rfl (by kernel_rfl) (Rd.bool Tryz.underlying4)
  obtain ⟨b9, h9⟩ := hf 9 9 4 1 _ rfl (by kernel_rfl) (Rd.bool Tryz.underlying4)
  obtain ⟨b10, h10⟩ := hf 10 10 4 1 _ rfl (by kernel_rfl) (Rd.bool Tryz.underlying4)
  obtain ⟨v11, l11, h11, p11, w11⟩ := hf 11 11 22 1 _ rfl (by kernel_rfl) ((RdP.flat encRg_ok (rdRg w)).slice Tryz.underlying22 (by kernel_rfl) (by decide))
  obtain ⟨v12, l12, h12, p12, w12⟩ := hf 12 12 23 1 _ rfl (by kernel_rfl) ((rdpPc w).slice Tryz.underlying23 (by kernel_rfl) (by decide))
  obtain ⟨v13, l13, h13, p13, w13⟩ := hf 13 13 24 1 _ rfl (by kernel_rfl) ((RdP.flat encB_ok (rdU8 w)).slice Tryz.underlying24 (by kernel_rfl) (by decide))
  obtain ⟨r, h14, w14⟩ := hf 14 14 26 3 _ rfl (by kernel_rfl) (rdRg w)
  obtain ⟨n17, h17, w17⟩ := hf 15 17 27 1 _ rfl (by kernel_rfl) (Rd.int Tryz.underlying27)
  obtain ⟨v18, l18, h18, p18, w18⟩ := hf 16 18 28 1 _ rfl (by kernel_rfl) ((RdP.flat encIt_ok (rdIt w)).slice Tryz.underlying28 (by kernel_rfl) (by decide))
  simp [encRg] at h0 h1 h2 h3 h4 h5 h6 h7 h8 h9 h10 h11 h12 h13 h14 h17 h18
  subst h0 h1 h2 h3 h4 h5 h6 h7 h8 h9 h10 h11 h12 h13 h17 h18
  obtain ⟨rfl, rfl, rfl⟩ := h14
  have hu := bounds_u64 w17
  obtain ⟨s, rfl⟩ := Int.eq_ofNat_of_zero_le hu.1
  refine ⟨⟨n0, n1, n2, n3, n4, n5, n6, n7, b8, b9, b10, l11, l12, l13, r, s, l18⟩, ⟨by have := hu.2; simp only; omega, w14, w11, w12, w18⟩, rfl, rfl, fun j A u hj hu => ?_⟩
  match j, hj, hu with
  | 0, hj, hu | 1, hj, hu | 2, hj, hu | 3, hj, hu | 4, hj, hu | 5, hj, hu | 6, hj, hu | 7, hj, hu | 8, hj, hu | 9, hj, hu | 10, hj, hu | 14, hj, hu | 15, hj, hu | 16, hj, hu | 17, hj, hu => cases hj; cases hu; exact ⟨rfl, rfl⟩
  | 11, hj, hu => cases hj; cases hu; exact ⟨one_lst p11, p11⟩
  | 12, hj, hu => cases hj; cases hu; exact ⟨one_lst p12, p12⟩
  | 13, hj, hu => cases hj; cases hu; exact ⟨one_lst p13, p13⟩
  | 18, hj, hu => cases hj; cases hu; exact ⟨one_lst p18, p18⟩
  | _ + 19, hj, _ => simp at hj
theorem Arg.message {w : World} {v : Value} (h : Arg Tryz.prog w 30 v) : ∃ m : Msg, MsWf m ∧ In w v (msC m) := by
  obtain ⟨cs, rfl⟩ := h.cells (by rw [Tryz.underlying30])
  obtain ⟨m, h1, h2, h3, h4⟩ := h.rd _ (rdMs w)
  refine ⟨m, h1, cs, rfl, ?_, fun j A hj => ?_⟩
  · have : cs.toList.length = 19 := h2
    simpa using this
  · have hjl : j < cs.toList.length := by
      have := (List.getElem?_eq_some_iff.1 hj).1
      show j < (Value.agg cs).cells.toList.length
      rw [h2]; exact this
    obtain ⟨q1, q2⟩ := h4 j A cs.toList[j] hj (List.getElem?_eq_getElem hjl)
    exact ⟨cs.toList[j], by simp at hjl ⊢, q1, q2⟩
end Go.Proofs.YtoiaegbmbhgdpaaGreat
namespace Go.Proofs.YtoiaegbmbhgdpaaGreat
open Go.RowKit
abbrev ex36 : Msg := { kind := 3, ses := 1, num := 2, nxt := 3 }
abbrev ex36Cs : List PV := [rawP (.int .i64 3), rawP (.int .i64 1), rawP (.int .i64 2), zIP, zIP, zIP, rawP (.int .i64 3), zIP, zBP, zBP, zBP, nilP, nilP, nilP, eP, eP, zBP, rawP (.int .u64 0), nilP]
theorem ex36_R : msR ex36 = true := by decide
theorem ex36_L : loadB ex36 = [3, 1, 2, 3] := by
  have h : ∀ n : Nat, n < 128 → numI (n : Int) = [UInt8.ofNat n] := fun n hn => by unfold numI; rw [Int.toNat_natCast, numB_lt hn]
  have e : msNums ex36 = [((3 : Nat) : Int), ((1 : Nat) : Int), ((2 : Nat) : Int), ((3 : Nat) : Int)] := rfl
  unfold loadB
  rw [e, show msParts ex36 = [] from rfl]
  simp only [List.flatMap_cons, List.flatMap_nil, List.append_nil]
  rw [h 3 (by decide), h 1 (by decide), h 2 (by decide)]
  rfl
theorem few0 : fewK [] := fun p hp => by simp at hp
theorem ex36_B : MsB ex36 := ⟨by simp, pcsSz_e, few0, by simp, by simp, by simp, fun p hp => by
  rw [show (prtP ex36).1 = [] from rfl] at hp; simp at hp⟩
theorem ex36_put : putM ex36 = (frB [3, 1, 2, 3], 0) := by
  unfold putM
  rw [if_pos ex36_R, ex36_L, if_pos (by decide)]
theorem ex36_rd : rdM (frB [3, 1, 2, 3]) = (ex36, 0) := by
  unfold rdM
  rw [open_frB (by decide), if_neg (by decide)]
  dsimp only
  rw [← ex36_L, load_put ex36_R (by simp) few0 (by simp) (by decide) (fun p hp => by rw [show msParts ex36 = [] from rfl] at hp; simp at hp)]
  rfl
theorem ex36_len : (frB [3, 1, 2, 3]).length ≤ 1000 := by
  have := numI_len (([3, 1, 2, 3] : List UInt8).length : Int) (by decide)
  rw [frB_len]; simp at this ⊢; omega
section
set_option maxRecDepth 10000
set_option maxHeartbeats 8000000
theorem awake36 : Fn Tryz.prog 9 [] (boR true) := by
  have a1 : Fn Tryz.prog 11 [.per (aggP ex36Cs)] _ := (ms_Put ex36 ex36_B).arg1 (agg_imp (by (repeat (first | exact PW.nil | (refine PW.cons (by first | exact Imp.refl | exact nil_imp) ?_)))))
  rw [ex36_put] at a1
  have hl := ex36_len
  have a2 := ms_Read (frB [3, 1, 2, 3]) (by omega)
  rw [ex36_rd] at a2
  have a3 := rfr_Make [3, 1, 2, 3] (by decide)
  have a4 := ref_BytesEq (frB [3, 1, 2, 3]) (frB [3, 1, 2, 3]) (by omega)
  rw [decide_eq_true rfl] at a4
  generalize frB [3, 1, 2, 3] = B at *
  refine fn_intro Tryz.func9 rfl (by kernel_rfl) Tryz.ntmps9 (Nat.le_of_ble_eq_true rfl) ?_
  (have kc1 := a1; have kc2 := a2; have kc3 := a3; have kc4 := a4; refine w0 ?_; (repeat' (first | refine W2.mk ?_ ?_ | refine W1.mk fun hc => ?_)); all_goals clear kc4 kc3 kc2 kc1)
  all_goals
    (refine ⟨(by first | exact .inl rfl | exact .inr rfl), res1 rfl ?_⟩)
    refine rv_bool rfl ?_
    first | rfl | (simp; done)
theorem lawMessagePuts (m : Msg) (hs : m.sum < 18446744073709551616) (cut : Nat) (hc : cut ≤ 65535) : Fn Tryz.prog 3 [msC m, iC .u16 (cut : Nat)] (boR true) := by
  have a0 := awake36
  have a1 := rm_Long m
  cases hlg : longM m with
  | true =>
    rw [hlg] at a1
    refine fn_intro Tryz.func3 rfl (by kernel_rfl) Tryz.ntmps3 (Nat.le_of_ble_eq_true rfl) ?_
    (have kc1 := a0; have kc2 := a1; refine w0 ?_; (repeat' (first | refine W2.mk ?_ ?_ | refine W1.mk fun hc => ?_)); all_goals clear kc2 kc1)
    (refine ⟨(by first | exact .inl rfl | exact .inr rfl), res1 rfl ?_⟩)
    exact rv_bool rfl rfl
  | false =>
    rw [hlg] at a1
    obtain ⟨hB, hk24⟩ := longM_B hlg
    have a2 := ms_Put m hB
    have a3 := (rm_Put m hB hs).frz
    have hbl : (putM m).1.length ≤ 1000000 := by
      unfold putM
      split
      · split
        · rename_i h
          have := numI_len ((loadB m).length : Int) (by omega)
          rw [frB_len]; omega
        · simp
      · simp
    have a4 := ref_BytesEq (putM m).1 (putM m).1 (by omega)
    rw [decide_eq_true rfl] at a4
    by_cases hf : (putM m).2 = 0
    · have hp : msR m = true ∧ (loadB m).length ≤ 32768 ∧ (putM m).1 = frB (loadB m) := by
        unfold putM at hf ⊢
        by_cases c : msR m = true
        · rw [if_pos c] at hf ⊢
          by_cases d : (loadB m).length ≤ 32768
          · rw [if_pos d]; exact ⟨c, d, rfl⟩
          · rw [if_neg d] at hf; simp at hf
        · rw [if_neg c] at hf; simp at hf
      obtain ⟨p1, p2, p3⟩ := hp
      have hpl : ∀ p ∈ msParts m, p.length ≤ 1000000000 := fun p hp => by have := part_load hp; omega
      have e1 : rdM (frB (loadB m)) = (plainM m, 0) := by
        unfold rdM
        rw [open_frB p2, if_neg (show ¬ (0 : Int) ≠ 0 by decide)]
        dsimp only
        exact load_put p1 (by have := hB.flt; omega) hB.kfew hB.kln hs hpl
      have hpos : 0 < (frB (loadB m)).length := by rw [frB_len]; omega
      have hcl : cut % (frB (loadB m)).length < (frB (loadB m)).length := Nat.mod_lt _ hpos
      have e2 : rdM ((frB (loadB m)).take (cut % (frB (loadB m)).length)) = ({}, 10) := by
        unfold rdM
        rw [open_short p2 hcl, if_pos (show (10 : Int) ≠ 0 by decide)]
      rw [p3] at a2 a3 a4 hbl
      rw [hf] at a2 a3
      have a5 := ms_Read (frB (loadB m)) hbl
      have a6 := ms_Read ((frB (loadB m)).take (cut % (frB (loadB m)).length)) (by rw [List.length_take]; omega)
      rw [e1] at a5
      rw [e2] at a6
      have a7 := rm_Plain m
      have hE := plain_E hB.e
      have a8 := rm_Same (plainM m) (by have := hE.flt; omega) hE.ksz (by have := hE.its; omega)
      clear e1 e2 hlg hE hB hpl p1 p2 p3 hf
      generalize frB (loadB m) = B at *
      replace a6 : Fn Tryz.prog 14 [.per (bysP (B.take (cut % ((B.length : Nat) : Int).natAbs)))] _ := a6
      refine fn_intro Tryz.func3 rfl (by kernel_rfl) Tryz.ntmps3 (Nat.le_of_ble_eq_true rfl) ?_
      (have kc1 := a0; have kc2 := a1; have kc3 := a2; have kc4 := a3; have kc5 := a4; have kc6 := a7; have kc7 := a8; have kf1 := a5; have kf2 := a6; refine w0 ?_; (repeat' (first | refine W2.mk ?_ ?_ | refine W1.mk fun hc => ?_)); all_goals clear kf2 kf1 kc7 kc6 kc5 kc4 kc3 kc2 kc1)
      all_goals
        (refine ⟨(by first | exact .inl rfl | exact .inr rfl), res1 rfl ?_⟩)
        refine rv_bool rfl ?_
        first | rfl | (simp; done)
    · generalize (putM m).1 = B at *
      generalize (putM m).2 = f at *
      clear hlg hB
      refine fn_intro Tryz.func3 rfl (by kernel_rfl) Tryz.ntmps3 (Nat.le_of_ble_eq_true rfl) ?_
      (have kc1 := a0; have kc2 := a1; have kc3 := a2; have kc4 := a3; have kc5 := a4; refine w0 ?_; (repeat' (first | refine W2.mk ?_ ?_ | refine W1.mk fun hc => ?_)); all_goals clear kc5 kc4 kc3 kc2 kc1)
      all_goals
        (refine ⟨(by first | exact .inl rfl | exact .inr rfl), res1 rfl ?_⟩)
        refine rv_bool rfl ?_
        first | rfl | (simp; done)
end
end Go.Proofs.YtoiaegbmbhgdpaaGreat
