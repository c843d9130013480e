/- Texts joined: Lt36 AbsMix. -/
import Derived.Test.YtoiaegbmbhgdpaaGreatJ45
import Derived.Test.YtoiaegbmbhgdpaaGreatJ04
namespace Go.Proofs.YtoiaegbmbhgdpaaGreat
open Go.RowKit
theorem shr_pow {t i b : Nat} (h : i ≤ b) : (t : Int) / 2 ^ min ((i : Nat) : Int).toNat b = ((t / 2 ^ i : Nat) : Int) := by
  have e : min ((i : Nat) : Int).toNat b = i := by omega
  have e2 : (2 : Int) ^ i = ((2 ^ i : Nat) : Int) := by simp
  rw [e, e2]; rfl
theorem tl_bit (t i : Nat) (h : t / 2 ^ i % 2 = 1) : t % 2 ^ (i + 1) ≠ 0 := by
  rw [Nat.mod_pow_succ, h, Nat.mul_one]
  have := Nat.two_pow_pos i
  omega
theorem xor_byte (x : UInt8) (k : Nat) : bits .xor .u8 (x.toNat : Int) ((2 ^ (k % 8) : Nat) : Int) = ((UInt8.ofNat (x.toNat ^^^ 2 ^ (k % 8))).toNat : Int) := by
  have hx := x.toNat_lt
  have hp : 2 ^ (k % 8) < 256 := Nat.lt_of_lt_of_le (Nat.pow_lt_pow_right (by decide) (Nat.mod_lt k (by decide : 8 > 0))) (by decide)
  have h := u8_xor_nat x.toNat (2 ^ (k % 8)) (by omega) hp
  rw [h, UInt8.toNat_ofNat', Nat.mod_eq_of_lt (Nat.xor_lt_two_pow (n := 8) (by omega) hp)]
theorem get_mid {N C T : List UInt8} {j : Nat} (h : j < C.length) : (N ++ C ++ T)[N.length + j]? = some C[j] := by
  rw [List.append_assoc, List.getElem?_append_right (by omega), show N.length + j - N.length = j by omega, List.getElem?_append_left h, List.getElem?_eq_getElem h]
theorem set_mid {N C T : List UInt8} {j : Nat} (h : j < C.length) (x : UInt8) : (N ++ C ++ T).set (N.length + j) x = N ++ C.set j x ++ T := by
  rw [List.append_assoc, List.set_append_right _ _ (by omega), show N.length + j - N.length = j by omega, List.set_append_left _ _ h, List.append_assoc]
section
set_option maxRecDepth 10000
set_option maxHeartbeats 8000000
theorem lawMessageTurned (m : Msg) (hs : m.sum < 18446744073709551616) (a : Nat) (ha : a ≤ 65535) (t : Nat) (ht : t < 4294967296) : Fn Tryz.prog 5 [msC m, iC .u16 (a : Nat), iC .u32 (t : Nat)] (boR true) := by
  have a0 := awake36
  have a1 := rm_Long m
  cases hlg : longM m with
  | true =>
    rw [hlg] at a1
    refine fn_intro Tryz.func5 rfl (by kernel_rfl) Tryz.ntmps5 (Nat.le_of_ble_eq_true rfl) ?_
    (have kc1 := a0; have kc2 := a1; refine w0 ?_; (repeat' (first | refine W2.mk ?_ ?_ | refine W1.mk fun hc => ?_)); all_goals clear kc2 kc1)
    (refine ⟨(by first | exact .inl rfl | exact .inr rfl), res1 rfl ?_⟩)
    exact rv_bool rfl rfl
  | false =>
    rw [hlg] at a1
    obtain ⟨hB, hk24⟩ := longM_B hlg
    have a2 := rm_Right m (by have := hB.flt; omega) hB.ksz hB.thr (by have := hB.its; omega)
    cases hR : msR m with
    | false =>
      rw [hR] at a2
      clear hB hlg
      refine fn_intro Tryz.func5 rfl (by kernel_rfl) Tryz.ntmps5 (Nat.le_of_ble_eq_true rfl) ?_
      (have kc1 := a0; have kc2 := a1; have kc3 := a2; refine w0 ?_; (repeat' (first | refine W2.mk ?_ ?_ | refine W1.mk fun hc => ?_)); all_goals clear kc3 kc2 kc1)
      (refine ⟨(by first | exact .inl rfl | exact .inr rfl), res1 rfl ?_⟩)
      exact rv_bool rfl rfl
    | true =>
      rw [hR] at a2
      have a3 := rm_Put m hB hs
      have hP : putM m = if (loadB m).length ≤ 32768 then (frB (loadB m), 0) else ([], 12) := by unfold putM; rw [if_pos hR]
      rw [hP] at a3
      by_cases hL : ¬ (loadB m).length ≤ 32768
      · rw [if_neg hL] at a3
        clear hB hlg hP
        refine fn_intro Tryz.func5 rfl (by kernel_rfl) Tryz.ntmps5 (Nat.le_of_ble_eq_true rfl) ?_
        (have kc1 := a0; have kc2 := a1; have kc3 := a2; have kc4 := a3; refine w0 ?_; (repeat' (first | refine W2.mk ?_ ?_ | refine W1.mk fun hc => ?_)); all_goals clear kc4 kc3 kc2 kc1)
        (refine ⟨(by first | exact .inl rfl | exact .inr rfl), res1 rfl ?_⟩)
        exact rv_bool rfl rfl
      replace hL := Decidable.not_not.1 hL
      rw [if_pos hL] at a3
      have hpl : ∀ p ∈ msParts m, p.length ≤ 1000000000 := fun p hp => by have := part_load hp; omega
      have hrd : rdL (loadB m) = (plainM m, 0) := load_put hR (by have := hB.flt; omega) hB.kfew hB.kln hs hpl
      have hl1 : 1 ≤ (loadB m).length := by
        unfold loadB
        rw [show msNums m = m.kind :: (msNums m).drop 1 from rfl, List.flatMap_cons, List.length_append, List.length_append]
        obtain ⟨xs, d, hsh, _⟩ := numB_shape m.kind.toNat
        have : (numI m.kind).length = xs.length + 1 := by unfold numI; rw [hsh]; simp
        omega
      clear hB hlg hP hpl hR
      generalize loadB m = L at *
      obtain ⟨xs, d, hsh, hx, hd, _, _⟩ := numB_shape L.length
      have hN : numI (L.length : Nat) = xs ++ [d] := by unfold numI; simpa using hsh
      have hN9 := numI_len (L.length : Int) (by omega)
      have hNl : (numI (L.length : Nat)).length = xs.length + 1 := by rw [hN]; simp
      have hfr : frB L = numI (L.length : Nat) ++ L ++ tailS (crcS (frH L)) := rfl
      have hTl : (tailS (crcS (frH L))).length = 4 := rfl
      have hAt : ∀ j, j < xs.length → (frB L)[j]? = some (xs.getD j 0) ∧ 128 ≤ (xs.getD j 0).toNat := fun j hj => by
        rw [hfr, hN, List.append_assoc, List.append_assoc, List.getElem?_append_left hj, List.getD_eq_getElem?_getD, List.getElem?_eq_getElem hj]
        exact ⟨rfl, hx _ (List.getElem_mem hj)⟩
      have hAd : (frB L)[xs.length]? = some d := by
        rw [hfr, hN, List.append_assoc, List.append_assoc, List.getElem?_append_right (Nat.le_refl _), Nat.sub_self]; rfl
      have hBl : (frB L).length = xs.length + 1 + L.length + 4 := by rw [frB_len, hNl]
      refine fn_intro Tryz.func5 rfl (by kernel_rfl) Tryz.ntmps5 (Nat.le_of_ble_eq_true rfl) ?_
      (have kc1 := a0; have kc2 := a1; have kc3 := a2; have kc4 := a3; refine w0 ?_; (repeat' (first | refine W2.mk ?_ ?_ | refine W1.mk fun hc => ?_)); all_goals clear kc4 kc3 kc2 kc1)
      refine AW_le (Le_mv 28 600) ?_
      refine AW_loopP (X := Nat) (fun j => j ≤ xs.length) (fun j => mkSt [(1, iC .u16 (a : Nat)), (2, iC .u32 (t : Nat)), (7, .row 600 0), (9, iC .i64 ((j + 1 : Nat) : Int))] [(600, .row 5 1 ((frB L).map byteP))]) (fun j => xs.length - j) 0 (Nat.zero_le _) ?_ ?_
      · exact le_auto
      · intro j hj
        clear a0 a1 a2 a3
        by_cases hjx : j < xs.length
        · obtain ⟨q1, q2⟩ := hAt j hjx
          have HJ : ((frB L).map byteP)[j]? = some (byteP (xs.getD j 0)) := by rw [List.getElem?_map, q1]; rfl
          clear hAt hAd hfr hrd hx hN
          generalize xs.getD j 0 = x at *
          generalize frB L = B at *
          (refine w0 ?_; (repeat' (first | refine W2.mk ?_ ?_ | refine W1.mk fun hc => ?_ | ((first | apply AL_t rfl | apply AL_0 rfl | apply AD_t rfl | apply AD_0 rfl); (focus (first | ((apply u_k 5; (focus rfl); exact u_load_r1 ⟨rfl, rfl, rfl⟩ rfl inferInstance rfl rfl rfl HJ rfl)) | (apply u_g; (focus rfl); apply op_gyes rfl rfl rfl rfl rfl; first | ((apply u_k 5; (focus rfl); exact u_load_r1 ⟨rfl, rfl, rfl⟩ rfl inferInstance rfl rfl rfl HJ rfl))))); refine w0 ?_))))
          refine ⟨j + 1, by omega, by omega, ?_⟩
          exact le_auto
        · obtain rfl : j = xs.length := by omega
          have HJ : ((frB L).map byteP)[xs.length]? = some (byteP d) := by rw [List.getElem?_map, hAd]; rfl
          have h0 : 0 ≤ (a : Int) % (8 * (L.length : Int)) := Int.emod_nonneg _ (by omega)
          have h1 : (a : Int) % (8 * (L.length : Int)) < 8 * (L.length : Int) := Int.emod_lt_of_pos _ (by omega)
          have hE1 : ((frB L).length : Int) - ((xs.length + 1 : Nat) : Int) - 4 = ((L.length : Nat) : Int) := by omega
          clear hAt hAd hx hN
          (have ke1 := Lib.hid (hE1); refine w0e ?_; (repeat' (first | refine W2.mk ?_ ?_ | refine W1.mk fun hc => ?_ | ((first | apply AL_t rfl | apply AL_0 rfl | apply AD_t rfl | apply AD_0 rfl); (focus (first | ((apply u_k 5; (focus rfl); exact u_load_r1 ⟨rfl, rfl, rfl⟩ rfl inferInstance rfl rfl rfl HJ rfl)) | (apply u_g; (focus rfl); apply op_gyes rfl rfl rfl rfl rfl; first | ((apply u_k 5; (focus rfl); exact u_load_r1 ⟨rfl, rfl, rfl⟩ rfl inferInstance rfl rfl rfl HJ rfl))))); refine w0e ?_))); all_goals clear ke1)
          generalize (a : Int) % (8 * (L.length : Int)) = P at *
          obtain ⟨p, rfl⟩ := Int.eq_ofNat_of_zero_le h0
          refine AW_loopP (X := Nat × List UInt8) (fun x => x.1 ≤ 32 ∧ p + x.1 ≤ 8 * L.length ∧ x.2.length = L.length ∧ numL x.2 = numL L ^^^ 2 ^ p * (t % 2 ^ x.1))
            (fun x => mkSt [(2, iC .u32 (t : Nat)), (7, .row 600 0), (9, iC .i64 ((xs.length + 1 : Nat) : Int)), (10, iC .i64 (L.length : Nat)), (11, iC .i64 (p : Nat)), (12, bC (decide (t % 2 ^ x.1 ≠ 0))), (13, iC .i64 (x.1 : Nat))] [(600, .row 5 1 ((numI (L.length : Nat) ++ x.2 ++ tailS (crcS (frH L))).map byteP))]) (fun x => 32 - x.1) (0, L) ⟨Nat.zero_le _, by simp only; omega, rfl, by simp only [Nat.pow_zero, Nat.mod_one, Nat.mul_zero, Nat.xor_zero]⟩ ?_ ?_
          · rw [hfr]
            have : decide (t % 2 ^ 0 ≠ 0) = false := by rw [Nat.pow_zero, Nat.mod_one]; rfl
            rw [this]
            exact le_auto
          · rintro ⟨i, C⟩ ⟨g1, g2, g3, g4⟩
            simp only at g1 g2 g3 g4 ⊢
            by_cases hgo : i < 32 ∧ p + i < 8 * L.length
            · obtain ⟨k1, k2⟩ := hgo
              have hS := shr_pow (t := t) (i := i) (b := IntKind.u32.bits) (by show i ≤ 32; omega)
              have hA : bits .and .u32 ((t / 2 ^ i : Nat) : Int) 1 = ((t / 2 ^ i % 2 : Nat) : Int) := by
                have := u32_and_nat (t / 2 ^ i) 1 (Nat.lt_of_le_of_lt (Nat.div_le_self _ _) ht) (by omega)
                rw [Nat.and_one_is_mod] at this; exact this
              by_cases hb : t / 2 ^ i % 2 = 1
              · have hst := flip_step g4 hb (by omega)
                have hnz := tl_bit t i hb
                have hk8 : (p + i) / 8 < C.length := by omega
                have hmid := get_mid (N := numI (L.length : Nat)) (T := tailS (crcS (frH L))) hk8
                have hset := set_mid (N := numI (L.length : Nat)) (T := tailS (crcS (frH L))) hk8 (UInt8.ofNat (C[(p + i) / 8].toNat ^^^ 2 ^ ((p + i) % 8)))
                have hfl : C.set ((p + i) / 8) (UInt8.ofNat (C[(p + i) / 8].toNat ^^^ 2 ^ ((p + i) % 8))) = flipB C (p + i) := by
                  unfold flipB
                  rw [List.getD_eq_getElem?_getD, List.getElem?_eq_getElem hk8]; rfl
                rw [hfl] at hset
                have hfll := flipB_len C (p + i)
                have hxr := xor_byte C[(p + i) / 8] (p + i)
                have hsh2 := @shl_bit (p + i)
                rw [show (((p + i) % 8 : Nat) : Int) = ((p + i : Nat) : Int) % 8 by omega] at hsh2
                generalize C[(p + i) / 8] = x at *
                rw [hNl] at hmid hset
                have HJ : ((numI (L.length : Nat) ++ C ++ tailS (crcS (frH L))).map byteP)[xs.length + 1 + (p + i) / 8]? = some (byteP x) := by rw [List.getElem?_map, hmid]; rfl
                have HS : ((numI (L.length : Nat) ++ C ++ tailS (crcS (frH L))).map byteP).set (xs.length + 1 + (p + i) / 8) (setP (byteP x) 0 (byteP (UInt8.ofNat (x.toNat ^^^ 2 ^ ((p + i) % 8))))) = (numI (L.length : Nat) ++ flipB C (p + i) ++ tailS (crcS (frH L))).map byteP := by
                  rw [← hset, List.map_set]; rfl
                have hlen : (numI (L.length : Nat) ++ C ++ tailS (crcS (frH L))).length = xs.length + 1 + L.length + 4 := by rw [List.length_append, List.length_append, hNl, g3, hTl]
                have hidx : xs.length + 1 + (p + i) / 8 < (numI (L.length : Nat) ++ C ++ tailS (crcS (frH L))).length := by omega
                rw [hb] at hA
                clear hmid hset hfl hfr hrd hBl hE1 hb h0 h1 hd
                generalize flipB C (p + i) = C' at *
                generalize hRow : numI (L.length : Nat) ++ C ++ tailS (crcS (frH L)) = Row at *
                generalize t / 2 ^ i = t2 at *
                (have ke1 := Lib.hid ((show (p : Int) + (i : Int) = ((p + i : Nat) : Int) by omega)); have ke2 := Lib.hid ((show ((xs.length + 1 : Nat) : Int) + ((p + i : Nat) : Int) / 8 = ((xs.length + 1 + (p + i) / 8 : Nat) : Int) by omega)); refine w0e ?_; (repeat' (first | refine W2.mk ?_ ?_ | refine W1.mk fun hc => ?_ | ((first | apply AL_t rfl | apply AL_0 rfl | apply AD_t rfl | apply AD_0 rfl); (focus (first | ((exact op_shrB ⟨rfl, rfl, rfl⟩ rfl rfl rfl (by omega) hS)) | ((exact op_and ⟨rfl, rfl, rfl⟩ rfl rfl rfl hA)) | ((exact op_shl ⟨rfl, rfl, rfl⟩ rfl rfl rfl (by omega) hsh2)) | ((exact op_xor ⟨rfl, rfl, rfl⟩ rfl rfl rfl hxr)) | ((apply u_k 5; (focus rfl); exact u_load_r1 ⟨rfl, rfl, rfl⟩ rfl inferInstance rfl rfl rfl HJ rfl)) | ((apply u_k 6; (focus rfl); exact u_store_r ⟨rfl, rfl⟩ rfl inferInstance rfl rfl rfl rfl HJ rfl (part_raw rfl rfl rfl) rfl HS)) | (apply u_g; (focus rfl); apply op_gyes rfl rfl rfl rfl rfl; first | ((exact op_shrB ⟨rfl, rfl, rfl⟩ rfl rfl rfl (by omega) hS)) | ((exact op_and ⟨rfl, rfl, rfl⟩ rfl rfl rfl hA)) | ((exact op_shl ⟨rfl, rfl, rfl⟩ rfl rfl rfl (by omega) hsh2)) | ((exact op_xor ⟨rfl, rfl, rfl⟩ rfl rfl rfl hxr)) | ((apply u_k 5; (focus rfl); exact u_load_r1 ⟨rfl, rfl, rfl⟩ rfl inferInstance rfl rfl rfl HJ rfl)) | ((apply u_k 6; (focus rfl); exact u_store_r ⟨rfl, rfl⟩ rfl inferInstance rfl rfl rfl rfl HJ rfl (part_raw rfl rfl rfl) rfl HS))))); refine w0e ?_))); all_goals clear ke2 ke1)
                refine ⟨(i + 1, C'), ⟨by simp only; omega, by simp only; omega, hfll.trans g3, hst⟩, by simp only; omega, ?_⟩
                rw [decide_eq_true hnz]
                exact le_auto
              · have hb0 : t / 2 ^ i % 2 = 0 := by omega
                have hno := mod_pow_no hb0
                rw [hb0] at hA
                clear hfr hrd hBl hE1 hb h0 h1 hd
                generalize t / 2 ^ i = t2 at *
                generalize hRow : numI (L.length : Nat) ++ C ++ tailS (crcS (frH L)) = Row at *
                (have ke1 := Lib.hid ((show (p : Int) + (i : Int) = ((p + i : Nat) : Int) by omega)); refine w0e ?_; (repeat' (first | refine W2.mk ?_ ?_ | refine W1.mk fun hc => ?_ | ((first | apply AL_t rfl | apply AL_0 rfl | apply AD_t rfl | apply AD_0 rfl); (focus (first | ((exact op_shrB ⟨rfl, rfl, rfl⟩ rfl rfl rfl (by omega) hS)) | ((exact op_and ⟨rfl, rfl, rfl⟩ rfl rfl rfl hA)) | (apply u_g; (focus rfl); apply op_gyes rfl rfl rfl rfl rfl; first | ((exact op_shrB ⟨rfl, rfl, rfl⟩ rfl rfl rfl (by omega) hS)) | ((exact op_and ⟨rfl, rfl, rfl⟩ rfl rfl rfl hA))))); refine w0e ?_))); all_goals clear ke1)
                refine ⟨(i + 1, C), ⟨by simp only; omega, by simp only; omega, g3, by simp only [hno]; exact g4⟩, by simp only; omega, ?_⟩
                simp only
                rw [hno, hRow]
                exact le_auto
            · have hlen : (numI (L.length : Nat) ++ C ++ tailS (crcS (frH L))).length = xs.length + 1 + L.length + 4 := by rw [List.length_append, List.length_append, hNl, g3, hTl]
              have a5 := ms_Read (numI (L.length : Nat) ++ C ++ tailS (crcS (frH L))) (by omega)
              refine AW_le (Le_fz 600 _ 5 1 rfl rfl) ?_
              by_cases hw : t % 2 ^ i = 0
              · rw [hw, Nat.mul_zero, Nat.xor_zero] at g4
                have hCL : C = L := numL_inj g3 g4
                have e1 : rdM (numI (L.length : Nat) ++ C ++ tailS (crcS (frH L))) = (plainM m, 0) := by
                  rw [hCL]
                  show rdM (frB L) = _
                  unfold rdM
                  rw [open_frB hL, if_neg (show ¬ (0 : Int) ≠ 0 by decide)]
                  exact hrd
                rw [e1] at a5
                rw [hw, show decide ((0 : Nat) ≠ 0) = false from rfl]
                clear e1 hCL g4 hfr hrd hBl hE1 h0 h1 hd hlen
                generalize numI (L.length : Nat) ++ C ++ tailS (crcS (frH L)) = Row at *
                (have ke1 := Lib.hid ((show (p : Int) + (i : Int) = ((p + i : Nat) : Int) by omega)); have kc1 := a5; refine w0e ?_; (repeat' (first | refine W2.mk ?_ ?_ | refine W1.mk fun hc => ?_)); all_goals clear kc1 ke1)
                all_goals
                  (refine ⟨(by first | exact .inl rfl | exact .inr rfl), res1 rfl ?_⟩)
                  exact rv_bool rfl rfl
              · have hlt : t % 2 ^ i < 4294967296 := Nat.lt_of_le_of_lt (Nat.mod_le _ _) ht
                have e1 : rdM (numI (L.length : Nat) ++ C ++ tailS (crcS (frH L))) = ({}, 13) := by
                  unfold rdM
                  rw [open_turn hL g3 g4 (by omega) hw hlt, if_pos (show (13 : Int) ≠ 0 by decide)]
                rw [e1] at a5
                rw [decide_eq_true hw]
                clear e1 g4 hfr hrd hBl hE1 h0 h1 hd hlen
                generalize numI (L.length : Nat) ++ C ++ tailS (crcS (frH L)) = Row at *
                (have ke1 := Lib.hid ((show (p : Int) + (i : Int) = ((p + i : Nat) : Int) by omega)); have kc1 := a5; refine w0e ?_; (repeat' (first | refine W2.mk ?_ ?_ | refine W1.mk fun hc => ?_)); all_goals clear kc1 ke1)
                all_goals
                  (refine ⟨(by first | exact .inl rfl | exact .inr rfl), res1 rfl ?_⟩)
                  refine rv_bool rfl ?_
                  first | rfl | (simp; done)
end
end Go.Proofs.YtoiaegbmbhgdpaaGreat
namespace Go.Proofs.YtoiaegbmbhgdpaaGreat
open Go.RowKit
section
variable {P : Program} {n : Nat} {ops : Array Oper} {o : Oper} {F : List Nat} {S T : St} {C : Ctx} {g : Gh} {a : Act} {w w' : World} {t : Nat}

/-- a step that turns what is said of a block alone -/
theorem R_blk {id vr : Nat} {B : Blk} (hR : RG C n S g a w) (hv : S.ver id = vr) (hb : brep C S.ver g w id B) : RG C n (S.putB [(id, vr, B)]) g a w := by
  have hver : (S.putB [(id, vr, B)]).ver = S.ver := by
    funext i
    rw [St.putB_ver]
    split
    · rename_i h; subst h; exact hv.symm
    · rfl
  refine ⟨hR.defers, hR.tsz, hR.nle, hR.keep, hR.os, hR.tape, hR.output, hR.size, hR.old, hR.n0, hR.n0l, hR.dom, fun t => ?_, fun i => ?_⟩
  · rw [hver]; exact hR.slots t
  · rw [hver, St.putB_blk]
    split
    · rename_i h; subst h; exact hb
    · exact hR.blks i
end
end Go.Proofs.YtoiaegbmbhgdpaaGreat
