/- Filters of bits: the reference's way. -/
import Derived.Test.YtbpmafpmlapekaaBl
import Derived.Test.YtbpmafpmlapekaaByt
namespace Go.Proofs.Ytbpmafpmlapekaa
open Go.RowKit
def boolP (b : Bool) : List PV := [rawP (.bool b)]
abbrev rblP (bs : List Bool) (probes seed : Int) : PV := aggP [lstP 1 (bs.map boolP), rawP (.int .i64 probes), rawP (.int .u64 seed)]
abbrev rblRow (bs : List Bool) : Blk := .row 4 1 (bs.map boolP)
theorem falses_map (n : Nat) : List.replicate n [rawP (.bool false)] = (List.replicate n false).map boolP := by
  rw [List.map_replicate]; rfl
def raddP (bs : List Bool) (bits seed : Int) (l : List UInt8) (k : Nat) : List Bool := (List.range k).foldl (fun b (i : Nat) => b.set (probeN bits seed l (i : Int)) true) bs
theorem raddP_succ (bs : List Bool) (bits seed : Int) (l : List UInt8) (k : Nat) : raddP bs bits seed l (k + 1) = (raddP bs bits seed l k).set (probeN bits seed l k) true := by
  simp [raddP, List.range_succ]
theorem raddP_len (bs : List Bool) (bits seed : Int) (l : List UInt8) (k : Nat) : (raddP bs bits seed l k).length = bs.length := by
  induction k with
  | zero => rfl
  | succ k ih => rw [raddP_succ, List.length_set, ih]
def raddV (bs : List Bool) (bits probes seed r c : Int) : List Bool := if verR r c then raddP bs bits seed (verB r c) probes.toNat else bs
def addBs : List UInt8 → Nat → List Bool → List UInt8
  | row, _, [] => row
  | row, i, b :: bs => addBs (if b then addBit row i else row) (i + 1) bs
theorem addBs_len : ∀ (bs : List Bool) (row : List UInt8) (i : Nat), (addBs row i bs).length = row.length
  | [], _, _ => rfl
  | b :: bs, row, i => by
    rw [addBs, addBs_len bs]
    split
    · exact addBit_len _ _
    · rfl
theorem mul_bit {k : Nat} (h : k < 7) : IntKind.u8.wrap (((2 ^ k : Nat) : Int) * 2) = ((2 ^ (k + 1) : Nat) : Int) := by
  have : ∀ k : Fin 7, IntKind.u8.wrap (((2 ^ k.val : Nat) : Int) * 2) = ((2 ^ (k.val + 1) : Nat) : Int) := by decide
  exact this ⟨k, h⟩
theorem add_bit {x : UInt8} {n : Nat} (h : (x &&& bitOf n) = 0) : IntKind.u8.wrap ((x.toNat : Int) + ((2 ^ (n % 8) : Nat) : Int)) = ((x ||| bitOf n).toNat : Int) := by
  have : ∀ k : Fin 8, ∀ x : Fin 256, (UInt8.ofNat x.val &&& UInt8.ofNat (2 ^ k.val)) = 0 → IntKind.u8.wrap (((UInt8.ofNat x.val).toNat : Int) + ((2 ^ k.val : Nat) : Int)) = ((UInt8.ofNat x.val ||| UInt8.ofNat (2 ^ k.val)).toNat : Int) := by decide +kernel
  have := this ⟨n % 8, Nat.mod_lt _ (by decide)⟩ ⟨x.toNat, x.toNat_lt⟩
  simpa [bitOf] using this (by simpa [bitOf] using h)
theorem bit_div {x : UInt8} {n : Nat} : (((x.toNat / 2 ^ (n % 8) : Nat) : Int) % 2 = 1) ↔ (x &&& bitOf n != 0) = true := by
  have : ∀ k : Fin 8, ∀ x : Fin 256, ((((UInt8.ofNat x.val).toNat / 2 ^ k.val : Nat) : Int) % 2 = 1) ↔ (UInt8.ofNat x.val &&& UInt8.ofNat (2 ^ k.val) != 0) = true := by decide +kernel
  have := this ⟨n % 8, Nat.mod_lt _ (by decide)⟩ ⟨x.toNat, x.toNat_lt⟩
  simpa [bitOf] using this
section
set_option maxRecDepth 10000
set_option maxHeartbeats 4000000
theorem rb_NewM (n : Nat) (hn : n ≤ 4096) (probes seed : Int) : FnM Try.prog 14 [iC .i64 (n : Nat), iC .i64 probes, iC .u64 seed] [] (aggOf [.row 3000 0, iC .i64 probes, iC .u64 seed]) [(3000, rblRow (List.replicate n false))] := by
  refine fnm_intro Try.func14 rfl (by kernel_rfl) Try.ntmps14 (Nat.le_of_ble_eq_true rfl) ?_
  (repeat' (first | refine AW_seq ?_ | refine AW_block ?_ | refine AW_skip ?_ | refine AW_exit ?_ | refine AW_ret ?_ | refine AW_region ?_ | refine AW_draw mixed0 ?_ | refine AL_nil ?_ | refine AD_nil (by kernel_rfl) ?_ | (refine AW_cl rfl rfl ⟨fun hc => ?_, fun hc => ?_⟩ <;> (repeat rw [List.length_map] at hc) <;> (try exact absd hc)) | ((first | apply AL_t rfl | apply AL_0 rfl | apply AD_t rfl | apply AD_0 rfl); focus (first | ((exact u_mk (m := n) ⟨rfl, rfl, rfl⟩ rfl inferInstance inferInstance rfl rfl rfl rfl (by omega) (by omega))) | (apply u_g; (focus rfl); apply op_gyes rfl rfl rfl rfl rfl; ((exact u_mk (m := n) ⟨rfl, rfl, rfl⟩ rfl inferInstance inferInstance rfl rfl rfl rfl (by omega) (by omega)))) | exact z_auto | fail)) | refine thenA_n ?_ | refine thenA_r ?_ | refine thenA_e ?_ | refine inB_n ?_ | refine inB_r ?_ | refine inB_hit ?_ | refine inB_miss rfl ?_ | ((first | refine AL_cl rfl rfl rfl ⟨fun hc => ?_, fun hc => ?_⟩ | refine AD_cl rfl rfl rfl ⟨fun hc => ?_, fun hc => ?_⟩) <;> (fail_if_success (have q : (true = true) := hc)) <;> (fail_if_success (have q : (false = false) := hc)) <;> (repeat rw [List.length_map] at hc) <;> (try exact absd hc)) | refine AW_cond_nil rfl rfl (fun hc => ?_) ?_))
  (refine ⟨(by first | exact .inl rfl | exact .inr rfl), resM1 [(8, 3000)] rfl rfl ?_ ?_⟩; (focus (repeat (first | exact AllX.nil | (refine AllX.cons rfl ?_ ?_; (focus first | rfl | skip))))))
  · first | exact congrArg (Blk.row _ 1) (falses_map _) | exact congrArg (Blk.row _ 1) (falses_map _).symm
  · exact AllX.nil
  · exact rvm_cellC rfl inferInstance inferInstance rfl rfl rfl rfl rfl rfl
theorem rb_New (n : Nat) (hn : n ≤ 4096) (probes seed : Int) : Fn Try.prog 14 [iC .i64 (n : Nat), iC .i64 probes, iC .u64 seed] (.per (rblP (List.replicate n false) probes seed)) := by
  refine fn_intro Try.func14 rfl (by kernel_rfl) Try.ntmps14 (Nat.le_of_ble_eq_true rfl) ?_
  (repeat' (first | refine AW_seq ?_ | refine AW_block ?_ | refine AW_skip ?_ | refine AW_exit ?_ | refine AW_ret ?_ | refine AW_region ?_ | refine AW_draw mixed0 ?_ | refine AL_nil ?_ | refine AD_nil (by kernel_rfl) ?_ | (refine AW_cl rfl rfl ⟨fun hc => ?_, fun hc => ?_⟩ <;> (repeat rw [List.length_map] at hc) <;> (try exact absd hc)) | ((first | apply AL_t rfl | apply AL_0 rfl | apply AD_t rfl | apply AD_0 rfl); focus (first | ((exact u_mk (m := n) ⟨rfl, rfl, rfl⟩ rfl inferInstance inferInstance rfl rfl rfl rfl (by omega) (by omega))) | (apply u_g; (focus rfl); apply op_gyes rfl rfl rfl rfl rfl; ((exact u_mk (m := n) ⟨rfl, rfl, rfl⟩ rfl inferInstance inferInstance rfl rfl rfl rfl (by omega) (by omega)))) | exact z_auto | fail)) | refine thenA_n ?_ | refine thenA_r ?_ | refine thenA_e ?_ | refine inB_n ?_ | refine inB_r ?_ | refine inB_hit ?_ | refine inB_miss rfl ?_ | ((first | refine AL_cl rfl rfl rfl ⟨fun hc => ?_, fun hc => ?_⟩ | refine AD_cl rfl rfl rfl ⟨fun hc => ?_, fun hc => ?_⟩) <;> (fail_if_success (have q : (true = true) := hc)) <;> (fail_if_success (have q : (false = false) := hc)) <;> (repeat rw [List.length_map] at hc) <;> (try exact absd hc)) | refine AW_cond_nil rfl rfl (fun hc => ?_) ?_))
  rw [falses_map]
  refine ⟨.inl rfl, ResO_le (Le_fz 8 _ 4 1 rfl rfl) (res1 rfl ?_)⟩
  exact rv_cA inferInstance inferInstance rfl rfl rfl rfl rfl rfl
theorem rb_Probe (bs : List Bool) (probes seed r c : Int) (i : Nat) (hi : i ≤ 1000) (h1 : 1 ≤ bs.length) (h2 : bs.length ≤ 4096) (hr : okNum r) (hc : okNum c) :
    Fn Try.prog 63 [.per (rblP bs probes seed), vrC r c, iC .i64 (i : Nat)] (inR ((probeN bs.length seed (verB r c) i : Nat) : Int)) := by
  have hlt := probeN_lt bs.length seed (verB r c) i (by omega)
  have hwi : IntKind.u64.wrap (i : Int) = (i : Int) := wrap_u64B (by omega) (by omega)
  have hp := ref_Put [r, c] (by simp) (ok2 hr hc)
  rw [verB_eq] at hp
  have hH := ref_Of (IntKind.u64.wrap (seed + i)) (verB r c)
  have hP : (hashOf (IntKind.u64.wrap (seed + i)) (verB r c)).tmod bs.length = ((probeN bs.length seed (verB r c) i : Nat) : Int) := by
    have hnn : 0 ≤ hashOf (IntKind.u64.wrap (seed + i)) (verB r c) := by unfold hashOf fnvEnd; exact bits_nn _ _
    unfold probeN
    rw [hwi, Int.tmod_eq_emod_of_nonneg hnn, Int.toNat_of_nonneg (Int.emod_nonneg _ (by omega))]
  generalize hashOf (IntKind.u64.wrap (seed + i)) (verB r c) = H at *
  generalize probeN bs.length seed (verB r c) i = m at *
  generalize verB r c = l at *
  have hmm : (m : Int) = (m : Int) := rfl
  refine fn_intro Try.func63 rfl (by kernel_rfl) Try.ntmps63 (Nat.le_of_ble_eq_true rfl) ?_
  (repeat' (first | refine AW_seq ?_ | refine AW_block ?_ | refine AW_skip ?_ | refine AW_exit ?_ | refine AW_ret ?_ | refine AW_region ?_ | refine AW_draw mixed0 ?_ | refine AL_nil ?_ | refine AD_nil (by kernel_rfl) ?_ | (refine AW_cl rfl rfl ⟨fun hc => ?_, fun hc => ?_⟩ <;> (repeat rw [List.length_map] at hc) <;> (try exact absd hc)) | ((first | apply AL_t rfl | apply AL_0 rfl | apply AD_t rfl | apply AD_0 rfl); focus (first | ((apply u_k 10; (focus rfl); exact u_conv ⟨rfl, rfl, rfl⟩ rfl inferInstance inferInstance rfl (by with_reducible exact wrap_u64B (by omega) (by omega)))) | (apply u_g; (focus rfl); apply op_gyes rfl rfl rfl rfl rfl; ((apply u_k 10; (focus rfl); exact u_conv ⟨rfl, rfl, rfl⟩ rfl inferInstance inferInstance rfl (by with_reducible exact wrap_u64B (by omega) (by omega))))) | ((apply u_k 10; (focus rfl); exact u_conv ⟨rfl, rfl, rfl⟩ rfl inferInstance inferInstance rfl (by with_reducible exact wrap_id64 (by omega) (by omega)))) | (apply u_g; (focus rfl); apply op_gyes rfl rfl rfl rfl rfl; ((apply u_k 10; (focus rfl); exact u_conv ⟨rfl, rfl, rfl⟩ rfl inferInstance inferInstance rfl (by with_reducible exact wrap_id64 (by omega) (by omega))))) | ((exact op_rem ⟨rfl, rfl, rfl⟩ rfl rfl rfl (by omega) hP)) | (apply u_g; (focus rfl); apply op_gyes rfl rfl rfl rfl rfl; ((exact op_rem ⟨rfl, rfl, rfl⟩ rfl rfl rfl (by omega) hP))) | exact z_auto | exact c_A (hp) | exact c_A (hH) | fail)) | refine thenA_n ?_ | refine thenA_r ?_ | refine thenA_e ?_ | refine inB_n ?_ | refine inB_r ?_ | refine inB_hit ?_ | refine inB_miss rfl ?_ | ((first | refine AL_cl rfl rfl rfl ⟨fun hc => ?_, fun hc => ?_⟩ | refine AD_cl rfl rfl rfl ⟨fun hc => ?_, fun hc => ?_⟩) <;> (fail_if_success (have q : (true = true) := hc)) <;> (fail_if_success (have q : (false = false) := hc)) <;> (repeat rw [List.length_map] at hc) <;> (try exact absd hc)) | refine AW_cond_nil rfl rfl (fun hc => ?_) ?_))
  (refine ⟨(by first | exact .inl rfl | exact .inr rfl), res1 rfl ?_⟩)
  exact rv_int rfl rfl
theorem rb_Has (bs : List Bool) (probes seed r c : Int) (h1 : 1 ≤ bs.length) (h2 : bs.length ≤ 4096) (p1 : 0 ≤ probes) (p2 : probes ≤ 8) : Fn Try.prog 16 [.per (rblP bs probes seed), vrC r c] (boR (rhasV bs bs.length probes seed r c)) := by
  have hv := rver_Right r c
  cases hr : verR r c with
  | false =>
    rw [hr] at hv
    rw [show rhasV bs bs.length probes seed r c = false by unfold rhasV; rw [hr]; rfl]
    refine fn_intro Try.func16 rfl (by kernel_rfl) Try.ntmps16 (Nat.le_of_ble_eq_true rfl) ?_
    (repeat' (first | refine AW_seq ?_ | refine AW_block ?_ | refine AW_skip ?_ | refine AW_exit ?_ | refine AW_ret ?_ | refine AW_region ?_ | refine AW_draw mixed0 ?_ | refine AL_nil ?_ | refine AD_nil (by kernel_rfl) ?_ | (refine AW_cl rfl rfl ⟨fun hc => ?_, fun hc => ?_⟩ <;> (repeat rw [List.length_map] at hc) <;> (try exact absd hc)) | ((first | apply AL_t rfl | apply AL_0 rfl | apply AD_t rfl | apply AD_0 rfl); focus (first | exact z_auto | exact c_A (hv) | fail)) | refine thenA_n ?_ | refine thenA_r ?_ | refine thenA_e ?_ | refine inB_n ?_ | refine inB_r ?_ | refine inB_hit ?_ | refine inB_miss rfl ?_ | ((first | refine AL_cl rfl rfl rfl ⟨fun hc => ?_, fun hc => ?_⟩ | refine AD_cl rfl rfl rfl ⟨fun hc => ?_, fun hc => ?_⟩) <;> (fail_if_success (have q : (true = true) := hc)) <;> (fail_if_success (have q : (false = false) := hc)) <;> (repeat rw [List.length_map] at hc) <;> (try exact absd hc)) | refine AW_cond_nil rfl rfl (fun hc => ?_) ?_))
    (refine ⟨(by first | exact .inl rfl | exact .inr rfl), res1 rfl ?_⟩)
    exact rv_bool rfl rfl
  | true =>
    rw [hr] at hv
    obtain ⟨o1, o2⟩ := ok_ver hr
    rw [show rhasV bs bs.length probes seed r c = rhasP bs bs.length seed (verB r c) probes.toNat by unfold rhasV; rw [hr]; rfl]
    refine fn_intro Try.func16 rfl (by kernel_rfl) Try.ntmps16 (Nat.le_of_ble_eq_true rfl) ?_
    (repeat' (first | refine AW_seq ?_ | refine AW_block ?_ | refine AW_skip ?_ | refine AW_exit ?_ | refine AW_ret ?_ | refine AW_region ?_ | refine AW_draw mixed0 ?_ | refine AL_nil ?_ | refine AD_nil (by kernel_rfl) ?_ | (refine AW_cl rfl rfl ⟨fun hc => ?_, fun hc => ?_⟩ <;> (repeat rw [List.length_map] at hc) <;> (try exact absd hc)) | ((first | apply AL_t rfl | apply AL_0 rfl | apply AD_t rfl | apply AD_0 rfl); focus (first | exact z_auto | exact c_A (hv) | fail)) | refine thenA_n ?_ | refine thenA_r ?_ | refine thenA_e ?_ | refine inB_n ?_ | refine inB_r ?_ | refine inB_hit ?_ | refine inB_miss rfl ?_ | ((first | refine AL_cl rfl rfl rfl ⟨fun hc => ?_, fun hc => ?_⟩ | refine AD_cl rfl rfl rfl ⟨fun hc => ?_, fun hc => ?_⟩) <;> (fail_if_success (have q : (true = true) := hc)) <;> (fail_if_success (have q : (false = false) := hc)) <;> (repeat rw [List.length_map] at hc) <;> (try exact absd hc)) | refine AW_cond_nil rfl rfl (fun hc => ?_) ?_))
    refine AW_loopP (X := Nat) (fun k => (k : Int) ≤ probes ∧ rhasP bs bs.length seed (verB r c) k = true)
      (fun k => mkSt [(2, .ptr 2 0 0), (3, .ptr 3 0 0), (5, iC .i64 (k : Nat))] [(2, .box 32 [.per (lstP 1 (bs.map boolP)), iC .i64 probes, iC .u64 seed]), (3, .box 35 [iC .i64 r, iC .i64 c])]) (fun k => probes.toNat - k) 0 ⟨by omega, rfl⟩ ?_ ?_
    · exact le_auto
    · rintro k ⟨hk, hP⟩
      by_cases hlt : (k : Int) < probes
      · have h3 := rb_Probe bs probes seed r c k (by omega) h1 h2 o1 o2
        have hml := probeN_lt bs.length seed (verB r c) k (by omega)
        have hs1 := rhasP_succ bs bs.length seed (verB r c) k
        have hs2 := @rhasP_stop bs bs.length seed (verB r c) k probes.toNat (by omega)
        rw [hP, Bool.true_and] at hs1
        generalize probeN bs.length seed (verB r c) k = m at *
        have hm8 : m < bs.length := by omega
        have hg : bs.getD m false = bs[m] := by rw [List.getD_eq_getElem?_getD, List.getElem?_eq_getElem hm8]; rfl
        rw [hg] at hs1 hs2
        clear hv hP hg
        (repeat' (first | refine AW_seq ?_ | refine AW_block ?_ | refine AW_skip ?_ | refine AW_exit ?_ | refine AW_ret ?_ | refine AW_region ?_ | refine AW_draw mixed0 ?_ | refine AL_nil ?_ | refine AD_nil (by kernel_rfl) ?_ | (refine AW_cl rfl rfl ⟨fun hc => ?_, fun hc => ?_⟩ <;> (repeat rw [List.length_map] at hc) <;> (try exact absd hc)) | ((first | apply AL_t rfl | apply AL_0 rfl | apply AD_t rfl | apply AD_0 rfl); focus (first | exact z_auto | exact c_A (h3) | fail)) | refine thenA_n ?_ | refine thenA_r ?_ | refine thenA_e ?_ | refine inB_n ?_ | refine inB_r ?_ | refine inB_hit ?_ | refine inB_miss rfl ?_ | ((first | refine AL_cl rfl rfl rfl ⟨fun hc => ?_, fun hc => ?_⟩ | refine AD_cl rfl rfl rfl ⟨fun hc => ?_, fun hc => ?_⟩) <;> (fail_if_success (have q : (true = true) := hc)) <;> (fail_if_success (have q : (false = false) := hc)) <;> (repeat rw [List.length_map] at hc) <;> (try exact absd hc)) | refine AW_cond_nil rfl rfl (fun hc => ?_) ?_))
        · rw [hs2 (by assumption)]
          (refine ⟨(by first | exact .inl rfl | exact .inr rfl), res1 rfl ?_⟩)
          exact rv_bool rfl rfl
        · rename_i hc
          refine ⟨k + 1, ⟨by omega, hs1.trans hc⟩, by omega, ?_⟩
          exact le_auto
      · have hkp : probes.toNat = k := by omega
        rw [hkp, hP]
        (repeat' (first | refine AW_seq ?_ | refine AW_block ?_ | refine AW_skip ?_ | refine AW_exit ?_ | refine AW_ret ?_ | refine AW_region ?_ | refine AW_draw mixed0 ?_ | refine AL_nil ?_ | refine AD_nil (by kernel_rfl) ?_ | (refine AW_cl rfl rfl ⟨fun hc => ?_, fun hc => ?_⟩ <;> (repeat rw [List.length_map] at hc) <;> (try exact absd hc)) | ((first | apply AL_t rfl | apply AL_0 rfl | apply AD_t rfl | apply AD_0 rfl); focus (first | exact z_auto | fail)) | refine thenA_n ?_ | refine thenA_r ?_ | refine thenA_e ?_ | refine inB_n ?_ | refine inB_r ?_ | refine inB_hit ?_ | refine inB_miss rfl ?_ | ((first | refine AL_cl rfl rfl rfl ⟨fun hc => ?_, fun hc => ?_⟩ | refine AD_cl rfl rfl rfl ⟨fun hc => ?_, fun hc => ?_⟩) <;> (fail_if_success (have q : (true = true) := hc)) <;> (fail_if_success (have q : (false = false) := hc)) <;> (repeat rw [List.length_map] at hc) <;> (try exact absd hc)) | refine AW_cond_nil rfl rfl (fun hc => ?_) ?_))
        (refine ⟨(by first | exact .inl rfl | exact .inr rfl), res1 rfl ?_⟩)
        exact rv_bool rfl rfl
theorem rb_Add (bs : List Bool) (probes seed r c : Int) (h1 : 1 ≤ bs.length) (h2 : bs.length ≤ 4096) (p1 : 0 ≤ probes) (p2 : probes ≤ 8) : Fn Try.prog 18 [.per (rblP bs probes seed), vrC r c] (.per (rblP (raddV bs bs.length probes seed r c) probes seed)) := by
  have hv := rver_Right r c
  unfold raddV
  cases hr : verR r c with
  | false =>
    rw [hr] at hv
    rw [if_neg (by simp)]
    refine fn_intro Try.func18 rfl (by kernel_rfl) Try.ntmps18 (Nat.le_of_ble_eq_true rfl) ?_
    (repeat' (first | refine AW_seq ?_ | refine AW_block ?_ | refine AW_skip ?_ | refine AW_exit ?_ | refine AW_ret ?_ | refine AW_region ?_ | refine AW_draw mixed0 ?_ | refine AL_nil ?_ | refine AD_nil (by kernel_rfl) ?_ | (refine AW_cl rfl rfl ⟨fun hc => ?_, fun hc => ?_⟩ <;> (repeat rw [List.length_map] at hc) <;> (try exact absd hc)) | ((first | apply AL_t rfl | apply AL_0 rfl | apply AD_t rfl | apply AD_0 rfl); focus (first | exact z_auto | exact c_A (hv) | fail)) | refine thenA_n ?_ | refine thenA_r ?_ | refine thenA_e ?_ | refine inB_n ?_ | refine inB_r ?_ | refine inB_hit ?_ | refine inB_miss rfl ?_ | ((first | refine AL_cl rfl rfl rfl ⟨fun hc => ?_, fun hc => ?_⟩ | refine AD_cl rfl rfl rfl ⟨fun hc => ?_, fun hc => ?_⟩) <;> (fail_if_success (have q : (true = true) := hc)) <;> (fail_if_success (have q : (false = false) := hc)) <;> (repeat rw [List.length_map] at hc) <;> (try exact absd hc)) | refine AW_cond_nil rfl rfl (fun hc => ?_) ?_))
    refine ⟨.inl rfl, ResO_le (Le_fz 7 _ 4 1 rfl rfl) (res1 rfl ?_)⟩
    exact rv_cA inferInstance inferInstance rfl rfl rfl rfl rfl rfl
  | true =>
    rw [hr] at hv
    obtain ⟨o1, o2⟩ := ok_ver hr
    rw [if_pos rfl]
    refine fn_intro Try.func18 rfl (by kernel_rfl) Try.ntmps18 (Nat.le_of_ble_eq_true rfl) ?_
    (repeat' (first | refine AW_seq ?_ | refine AW_block ?_ | refine AW_skip ?_ | refine AW_exit ?_ | refine AW_ret ?_ | refine AW_region ?_ | refine AW_draw mixed0 ?_ | refine AL_nil ?_ | refine AD_nil (by kernel_rfl) ?_ | (refine AW_cl rfl rfl ⟨fun hc => ?_, fun hc => ?_⟩ <;> (repeat rw [List.length_map] at hc) <;> (try exact absd hc)) | ((first | apply AL_t rfl | apply AL_0 rfl | apply AD_t rfl | apply AD_0 rfl); focus (first | exact z_auto | exact c_A (hv) | fail)) | refine thenA_n ?_ | refine thenA_r ?_ | refine thenA_e ?_ | refine inB_n ?_ | refine inB_r ?_ | refine inB_hit ?_ | refine inB_miss rfl ?_ | ((first | refine AL_cl rfl rfl rfl ⟨fun hc => ?_, fun hc => ?_⟩ | refine AD_cl rfl rfl rfl ⟨fun hc => ?_, fun hc => ?_⟩) <;> (fail_if_success (have q : (true = true) := hc)) <;> (fail_if_success (have q : (false = false) := hc)) <;> (repeat rw [List.length_map] at hc) <;> (try exact absd hc)) | refine AW_cond_nil rfl rfl (fun hc => ?_) ?_))
    refine AW_loopP (X := Nat) (fun k => (k : Int) ≤ probes)
      (fun k => mkSt [(2, .ptr 2 0 0), (3, .ptr 3 0 0), (4, .ptr 4 0 0), (5, .ptr 5 0 0), (6, iC .i64 (k : Nat))] [(2, .box 32 [.per (lstP 1 (bs.map boolP)), iC .i64 probes, iC .u64 seed]), (3, .box 35 [iC .i64 r, iC .i64 c]), (4, .box 32 [.per (rawP (.slice none 0 0)), iC .i64 0, iC .u64 0]), (5, .box 32 [.row 7 0, iC .i64 probes, iC .u64 seed]), (7, rblRow (raddP bs bs.length seed (verB r c) k))]) (fun k => probes.toNat - k) 0 (by omega) ?_ ?_
    · exact le_auto
    · rintro k hk
      have hlen := raddP_len bs bs.length seed (verB r c) k
      by_cases hlt : (k : Int) < probes
      · have h3 := rb_Probe bs probes seed r c k (by omega) h1 h2 o1 o2
        have hml := probeN_lt bs.length seed (verB r c) k (by omega)
        have hs1 := raddP_succ bs bs.length seed (verB r c) k
        generalize probeN bs.length seed (verB r c) k = m at *
        generalize raddP bs bs.length seed (verB r c) k = rk at *
        have hm8 : m < rk.length := by omega
        have HJ : (rk.map boolP)[m]? = some (boolP rk[m]) := by rw [List.getElem?_map, List.getElem?_eq_getElem hm8]; rfl
        have HS : (rk.map boolP).set m (setP (boolP rk[m]) 0 (boolP true)) = (rk.set m true).map boolP := by rw [List.map_set]; rfl
        clear hv
        (repeat' (first | refine AW_seq ?_ | refine AW_block ?_ | refine AW_skip ?_ | refine AW_exit ?_ | refine AW_ret ?_ | refine AW_region ?_ | refine AW_draw mixed0 ?_ | refine AL_nil ?_ | refine AD_nil (by kernel_rfl) ?_ | (refine AW_cl rfl rfl ⟨fun hc => ?_, fun hc => ?_⟩ <;> (repeat rw [List.length_map] at hc) <;> (try exact absd hc)) | ((first | apply AL_t rfl | apply AL_0 rfl | apply AD_t rfl | apply AD_0 rfl); focus (first | exact z_auto | exact c_A (h3) | ((apply u_k 6; (focus rfl); exact u_store_r ⟨rfl, rfl⟩ rfl inferInstance rfl rfl rfl rfl HJ rfl (part_raw rfl rfl rfl) rfl HS)) | (apply u_g; (focus rfl); apply op_gyes rfl rfl rfl rfl rfl; ((apply u_k 6; (focus rfl); exact u_store_r ⟨rfl, rfl⟩ rfl inferInstance rfl rfl rfl rfl HJ rfl (part_raw rfl rfl rfl) rfl HS))) | fail)) | refine thenA_n ?_ | refine thenA_r ?_ | refine thenA_e ?_ | refine inB_n ?_ | refine inB_r ?_ | refine inB_hit ?_ | refine inB_miss rfl ?_ | ((first | refine AL_cl rfl rfl rfl ⟨fun hc => ?_, fun hc => ?_⟩ | refine AD_cl rfl rfl rfl ⟨fun hc => ?_, fun hc => ?_⟩) <;> (fail_if_success (have q : (true = true) := hc)) <;> (fail_if_success (have q : (false = false) := hc)) <;> (repeat rw [List.length_map] at hc) <;> (try exact absd hc)) | refine AW_cond_nil rfl rfl (fun hc => ?_) ?_))
        refine ⟨k + 1, by omega, by omega, ?_⟩
        rw [hs1]
        exact le_auto
      · have hkp : probes.toNat = k := by omega
        rw [hkp]
        (repeat' (first | refine AW_seq ?_ | refine AW_block ?_ | refine AW_skip ?_ | refine AW_exit ?_ | refine AW_ret ?_ | refine AW_region ?_ | refine AW_draw mixed0 ?_ | refine AL_nil ?_ | refine AD_nil (by kernel_rfl) ?_ | (refine AW_cl rfl rfl ⟨fun hc => ?_, fun hc => ?_⟩ <;> (repeat rw [List.length_map] at hc) <;> (try exact absd hc)) | ((first | apply AL_t rfl | apply AL_0 rfl | apply AD_t rfl | apply AD_0 rfl); focus (first | exact z_auto | fail)) | refine thenA_n ?_ | refine thenA_r ?_ | refine thenA_e ?_ | refine inB_n ?_ | refine inB_r ?_ | refine inB_hit ?_ | refine inB_miss rfl ?_ | ((first | refine AL_cl rfl rfl rfl ⟨fun hc => ?_, fun hc => ?_⟩ | refine AD_cl rfl rfl rfl ⟨fun hc => ?_, fun hc => ?_⟩) <;> (fail_if_success (have q : (true = true) := hc)) <;> (fail_if_success (have q : (false = false) := hc)) <;> (repeat rw [List.length_map] at hc) <;> (try exact absd hc)) | refine AW_cond_nil rfl rfl (fun hc => ?_) ?_))
        refine ⟨.inl rfl, ResO_le (Le_fz 7 _ 4 1 rfl rfl) (res1 rfl ?_)⟩
        exact rv_cA inferInstance inferInstance rfl rfl rfl rfl rfl rfl
theorem rb_Bytes (bs : List Bool) (probes seed : Int) (h1 : 1 ≤ bs.length) (h2 : bs.length ≤ 4096) (p1 : 1 ≤ probes) (p2 : probes ≤ 8) :
    Fn Try.prog 22 [.per (rblP bs probes seed)] (ownB (bloomB bs.length probes (addBs (List.replicate ((bs.length + 7) / 8) 0) 0 bs))) := by
  have hlen := addBs_len bs (List.replicate ((bs.length + 7) / 8) 0) 0
  rw [List.length_replicate] at hlen
  generalize hR : addBs (List.replicate ((bs.length + 7) / 8) 0) 0 bs = R at *
  have ob : okNum (bs.length : Int) := by unfold okNum; omega
  have op : okNum probes := by unfold okNum; omega
  have hp := ref_Put [(bs.length : Int), probes] (by simp) (ok2 ob op)
  have ht := ref_Text ⟨R.toArray⟩ (by rw [ba_size]; omega)
  have hl1 := numI_le _ ob
  have hl2 := numI_le _ op
  have hl3 : (textB ⟨R.toArray⟩).length ≤ 9 + R.length := by
    have := numB_len9 (ByteArray.mk R.toArray).size (by rw [ba_size]; omega)
    unfold textB; simp; omega
  refine fn_intro Try.func22 rfl (by kernel_rfl) Try.ntmps22 (Nat.le_of_ble_eq_true rfl) ?_
  (repeat' (first | refine AW_seq ?_ | refine AW_block ?_ | refine AW_skip ?_ | refine AW_exit ?_ | refine AW_ret ?_ | refine AW_region ?_ | refine AW_draw mixed0 ?_ | refine AL_nil ?_ | refine AD_nil (by kernel_rfl) ?_ | (refine AW_cl rfl rfl ⟨fun hc => ?_, fun hc => ?_⟩ <;> (repeat rw [List.length_map] at hc) <;> (try exact absd hc)) | ((first | apply AL_t rfl | apply AL_0 rfl | apply AD_t rfl | apply AD_0 rfl); focus (first | ((exact u_mk (m := (bs.length + 7) / 8) ⟨rfl, rfl, rfl⟩ rfl inferInstance inferInstance rfl rfl rfl rfl (by omega) (by omega))) | (apply u_g; (focus rfl); apply op_gyes rfl rfl rfl rfl rfl; ((exact u_mk (m := (bs.length + 7) / 8) ⟨rfl, rfl, rfl⟩ rfl inferInstance inferInstance rfl rfl rfl rfl (by omega) (by omega)))) | exact z_auto | fail)) | refine thenA_n ?_ | refine thenA_r ?_ | refine thenA_e ?_ | refine inB_n ?_ | refine inB_r ?_ | refine inB_hit ?_ | refine inB_miss rfl ?_ | ((first | refine AL_cl rfl rfl rfl ⟨fun hc => ?_, fun hc => ?_⟩ | refine AD_cl rfl rfl rfl ⟨fun hc => ?_, fun hc => ?_⟩) <;> (fail_if_success (have q : (true = true) := hc)) <;> (fail_if_success (have q : (false = false) := hc)) <;> (repeat rw [List.length_map] at hc) <;> (try exact absd hc)) | refine AW_cond_nil rfl rfl (fun hc => ?_) ?_))
  rw [zeros_map]
  refine AW_loopP (X := Nat × List UInt8) (fun x => x.1 ≤ bs.length ∧ x.2.length = (bs.length + 7) / 8 ∧ (∀ m, hasBit x.2 m = true → m < x.1) ∧ addBs x.2 x.1 (bs.drop x.1) = R)
    (fun x => mkSt [(1, .ptr 1 0 0), (3, .row 13 0), (4, iC .i64 (x.1 : Nat))] [(1, .box 32 [.per (lstP 1 (bs.map boolP)), iC .i64 probes, iC .u64 seed]), (13, blRow x.2)]) (fun x => bs.length - x.1) (0, List.replicate ((bs.length + 7) / 8) 0)
    ⟨Nat.zero_le _, by simp, fun m hm => absurd hm (by simp [hasBit_zero]), hR⟩ ?_ ?_
  · exact le_auto
  · rintro ⟨i, rw0⟩ ⟨g1, g2, g3, g4⟩
    simp only at g1 g2 g3 g4 ⊢
    by_cases hi : i < bs.length
    · rw [List.drop_eq_getElem_cons hi, addBs] at g4
      cases hb : bs[i] with
      | false =>
        rw [hb, if_neg (by simp)] at g4
        clear hp ht
        (repeat' (first | refine AW_seq ?_ | refine AW_block ?_ | refine AW_skip ?_ | refine AW_exit ?_ | refine AW_ret ?_ | refine AW_region ?_ | refine AW_draw mixed0 ?_ | refine AL_nil ?_ | refine AD_nil (by kernel_rfl) ?_ | (refine AW_cl rfl rfl ⟨fun hc => ?_, fun hc => ?_⟩ <;> (repeat rw [List.length_map] at hc) <;> (try exact absd hc)) | ((first | apply AL_t rfl | apply AL_0 rfl | apply AD_t rfl | apply AD_0 rfl); focus (first | exact z_auto | fail)) | refine thenA_n ?_ | refine thenA_r ?_ | refine thenA_e ?_ | refine inB_n ?_ | refine inB_r ?_ | refine inB_hit ?_ | refine inB_miss rfl ?_ | ((first | refine AL_cl rfl rfl rfl ⟨fun hc => ?_, fun hc => ?_⟩ | refine AD_cl rfl rfl rfl ⟨fun hc => ?_, fun hc => ?_⟩) <;> (fail_if_success (have q : (true = true) := hc)) <;> (fail_if_success (have q : (false = false) := hc)) <;> (repeat rw [List.length_map] at hc) <;> (try exact absd hc)) | refine AW_cond_nil rfl rfl (fun hc => ?_) ?_))
        refine ⟨(i + 1, rw0), ⟨by simp only; omega, g2, fun m hm => by have := g3 m hm; simp only; omega, g4⟩, by simp only; omega, ?_⟩
        exact le_auto
      | true =>
        rw [hb, if_pos rfl] at g4
        have hi8 : i / 8 < rw0.length := by omega
        have hz : (((i : Int) / 8)).toNat = i / 8 := by omega
        have HJ : (rw0.map byteP)[(((i : Int) / 8)).toNat]? = some (byteP rw0[i / 8]) := by rw [hz, List.getElem?_map, List.getElem?_eq_getElem hi8]; rfl
        have hfree : (rw0[i / 8] &&& bitOf i) = 0 := by
          have hh : hasBit rw0 i = false := by
            cases q : hasBit rw0 i with
            | false => rfl
            | true => have := g3 i q; omega
          unfold hasBit at hh
          rw [List.getElem?_eq_getElem hi8, Option.getD_some] at hh
          simpa using hh
        have hadd := add_bit hfree
        have HS : (rw0.map byteP).set (((i : Int) / 8)).toNat (setP (byteP rw0[i / 8]) 0 (byteP (rw0[i / 8] ||| bitOf i))) = (addBit rw0 i).map byteP := by
          unfold addBit
          rw [hz, List.map_set, List.getElem?_eq_getElem hi8]; rfl
        have hbt := fun m => hasBit_add rw0 i m hi8
        generalize rw0[i / 8] = x at *
        have hal := addBit_len rw0 i
        generalize addBit rw0 i = rw1 at *
        clear hp ht hfree
        (repeat' (first | refine AW_seq ?_ | refine AW_block ?_ | refine AW_skip ?_ | refine AW_exit ?_ | refine AW_ret ?_ | refine AW_region ?_ | refine AL_nil ?_ | refine AD_nil (by kernel_rfl) ?_ | (refine AW_cl rfl rfl ⟨fun hc => ?_, fun hc => ?_⟩ <;> (repeat rw [List.length_map] at hc) <;> (try exact absd hc)) | ((first | apply AL_t rfl | apply AL_0 rfl | apply AD_t rfl | apply AD_0 rfl); focus (first | exact z_auto | fail)) | refine thenA_n ?_ | refine thenA_r ?_ | refine thenA_e ?_ | refine inB_n ?_ | refine inB_r ?_ | refine inB_hit ?_ | refine inB_miss rfl ?_ | ((first | refine AL_cl rfl rfl rfl ⟨fun hc => ?_, fun hc => ?_⟩ | refine AD_cl rfl rfl rfl ⟨fun hc => ?_, fun hc => ?_⟩) <;> (fail_if_success (have q : (true = true) := hc)) <;> (fail_if_success (have q : (false = false) := hc)) <;> (repeat rw [List.length_map] at hc) <;> (try exact absd hc)) | refine AW_cond_nil rfl rfl (fun hc => ?_) ?_))
        refine AW_loopP (X := Nat) (fun k => k ≤ i % 8)
          (fun k => mkSt [(1, .ptr 1 0 0), (3, .row 13 0), (4, iC .i64 (i : Nat)), (5, iC .u8 ((2 ^ k : Nat) : Int)), (6, iC .i64 (k : Nat))] [(1, .box 32 [.per (lstP 1 (bs.map boolP)), iC .i64 probes, iC .u64 seed]), (13, blRow rw0)]) (fun k => i % 8 - k) 0 (Nat.zero_le _) ?_ ?_
        · exact le_auto
        · rintro k hk
          by_cases hlt : k < i % 8
          · have hmul := @mul_bit k (by omega)
            (repeat' (first | refine AW_seq ?_ | refine AW_block ?_ | refine AW_skip ?_ | refine AW_exit ?_ | refine AW_ret ?_ | refine AW_region ?_ | refine AW_draw mixed0 ?_ | refine AL_nil ?_ | refine AD_nil (by kernel_rfl) ?_ | (refine AW_cl rfl rfl ⟨fun hc => ?_, fun hc => ?_⟩ <;> (repeat rw [List.length_map] at hc) <;> (try exact absd hc)) | ((first | apply AL_t rfl | apply AL_0 rfl | apply AD_t rfl | apply AD_0 rfl); focus (first | ((apply u_k 8; (focus rfl); exact op_num ⟨rfl, rfl, rfl⟩ rfl rfl rfl rfl hmul)) | (apply u_g; (focus rfl); apply op_gyes rfl rfl rfl rfl rfl; ((apply u_k 8; (focus rfl); exact op_num ⟨rfl, rfl, rfl⟩ rfl rfl rfl rfl hmul))) | exact z_auto | fail)) | refine thenA_n ?_ | refine thenA_r ?_ | refine thenA_e ?_ | refine inB_n ?_ | refine inB_r ?_ | refine inB_hit ?_ | refine inB_miss rfl ?_ | ((first | refine AL_cl rfl rfl rfl ⟨fun hc => ?_, fun hc => ?_⟩ | refine AD_cl rfl rfl rfl ⟨fun hc => ?_, fun hc => ?_⟩) <;> (fail_if_success (have q : (true = true) := hc)) <;> (fail_if_success (have q : (false = false) := hc)) <;> (repeat rw [List.length_map] at hc) <;> (try exact absd hc)) | refine AW_cond_nil rfl rfl (fun hc => ?_) ?_))
            refine ⟨k + 1, by omega, by omega, ?_⟩
            exact le_auto
          · obtain rfl : k = i % 8 := by omega
            (repeat' (first | refine AW_seq ?_ | refine AW_block ?_ | refine AW_skip ?_ | refine AW_exit ?_ | refine AW_ret ?_ | refine AW_region ?_ | refine AW_draw mixed0 ?_ | refine AL_nil ?_ | refine AD_nil (by kernel_rfl) ?_ | (refine AW_cl rfl rfl ⟨fun hc => ?_, fun hc => ?_⟩ <;> (repeat rw [List.length_map] at hc) <;> (try exact absd hc)) | ((first | apply AL_t rfl | apply AL_0 rfl | apply AD_t rfl | apply AD_0 rfl); focus (first | ((apply u_k 8; (focus rfl); exact op_num ⟨rfl, rfl, rfl⟩ rfl rfl rfl rfl hadd)) | (apply u_g; (focus rfl); apply op_gyes rfl rfl rfl rfl rfl; ((apply u_k 8; (focus rfl); exact op_num ⟨rfl, rfl, rfl⟩ rfl rfl rfl rfl hadd))) | ((apply u_k 5; (focus rfl); exact u_load_r1 ⟨rfl, rfl, rfl⟩ rfl inferInstance rfl rfl rfl HJ rfl)) | (apply u_g; (focus rfl); apply op_gyes rfl rfl rfl rfl rfl; ((apply u_k 5; (focus rfl); exact u_load_r1 ⟨rfl, rfl, rfl⟩ rfl inferInstance rfl rfl rfl HJ rfl))) | exact z_auto | ((apply u_k 6; (focus rfl); exact u_store_r ⟨rfl, rfl⟩ rfl inferInstance rfl rfl rfl rfl HJ rfl (part_raw rfl rfl rfl) rfl HS)) | (apply u_g; (focus rfl); apply op_gyes rfl rfl rfl rfl rfl; ((apply u_k 6; (focus rfl); exact u_store_r ⟨rfl, rfl⟩ rfl inferInstance rfl rfl rfl rfl HJ rfl (part_raw rfl rfl rfl) rfl HS))) | fail)) | refine thenA_n ?_ | refine thenA_r ?_ | refine thenA_e ?_ | refine inB_n ?_ | refine inB_r ?_ | refine inB_hit ?_ | refine inB_miss rfl ?_ | ((first | refine AL_cl rfl rfl rfl ⟨fun hc => ?_, fun hc => ?_⟩ | refine AD_cl rfl rfl rfl ⟨fun hc => ?_, fun hc => ?_⟩) <;> (fail_if_success (have q : (true = true) := hc)) <;> (fail_if_success (have q : (false = false) := hc)) <;> (repeat rw [List.length_map] at hc) <;> (try exact absd hc)) | refine AW_cond_nil rfl rfl (fun hc => ?_) ?_))
            refine ⟨(i + 1, rw1), ⟨by simp only; omega, by simp only; omega, fun m hm => ?_, g4⟩, by simp only; omega, ?_⟩
            · simp only at hm ⊢
              rw [hbt, Bool.or_eq_true] at hm
              rcases hm with q | q
              · have := g3 m q; omega
              · have := eq_of_beq q; omega
            · exact le_auto
    · obtain rfl : i = bs.length := by omega
      rw [List.drop_length] at g4
      have g4 : rw0 = R := g4
      subst g4
      (repeat' (first | refine AW_seq ?_ | refine AW_block ?_ | refine AW_skip ?_ | refine AW_exit ?_ | refine AW_ret ?_ | refine AW_region ?_ | refine AW_draw mixed0 ?_ | refine AL_nil ?_ | refine AD_nil (by kernel_rfl) ?_ | (refine AW_cl rfl rfl ⟨fun hc => ?_, fun hc => ?_⟩ <;> (repeat rw [List.length_map] at hc) <;> (try exact absd hc)) | ((first | apply AL_t rfl | apply AL_0 rfl | apply AD_t rfl | apply AD_0 rfl); focus (first | exact z_auto | exact c_A (hp) | exact c_A (ht) | fail)) | refine thenA_n ?_ | refine thenA_r ?_ | refine thenA_e ?_ | refine inB_n ?_ | refine inB_r ?_ | refine inB_hit ?_ | refine inB_miss rfl ?_ | ((first | refine AL_cl rfl rfl rfl ⟨fun hc => ?_, fun hc => ?_⟩ | refine AD_cl rfl rfl rfl ⟨fun hc => ?_, fun hc => ?_⟩) <;> (fail_if_success (have q : (true = true) := hc)) <;> (fail_if_success (have q : (false = false) := hc)) <;> (repeat rw [List.length_map] at hc) <;> (try exact absd hc)) | refine AW_cond_nil rfl rfl (fun hc => ?_) ?_))
      (refine ⟨(by first | exact .inl rfl | exact .inr rfl), res1 rfl ?_⟩)
      have hfin : (bloomB bs.length probes rw0).map byteP = ([(bs.length : Int), probes].flatMap numI).map byteP ++ (textB ⟨rw0.toArray⟩).map byteP := by unfold bloomB; rw [List.map_append]
      unfold ownB
      rw [hfin]
      exact rv_own rfl rfl rfl
end
end Go.Proofs.Ytbpmafpmlapekaa
