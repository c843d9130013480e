/- Filters of bits: the program's way. -/
import Derived.Test.YtbpmafpmlapekaaAbsP
import Derived.Test.YtbpmafpmlapekaaBp
import Derived.Test.YtbpmafpmlapekaaRd
import Derived.Test.YtbpmafpmlapekaaBase
import Derived.Test.YtbpmafpmlapekaaVar
namespace Go.Proofs.Ytbpmafpmlapekaa
open Go.RowKit
theorem lst_bss {top N : BP} {l : List UInt8} {w : World} {v : Value} (h : lstAt top N 1 [[bysP l]] w v) : Bss w v [l] := by
  obtain ⟨ad, c, b, of, h1, h2, h3, h4, h5, h6⟩ := h
  obtain ⟨_, q⟩ := h6 0 [bysP l] rfl
  obtain ⟨y, r1, _, r3⟩ := q 0 (bysP l) rfl
  refine ⟨[y], rfl, ⟨ad, c, b, of, h1, h2, h3, fun h0 => (h5 h0).1, h4, fun i x hx j u hu => ?_⟩, fun i h h' => ?_⟩
  · cases i with
    | succ i => simp at hx
    | zero =>
      simp at hx; subst hx
      cases j with
      | succ j => simp [enc1] at hu
      | zero => simp [enc1] at hu; subst hu; exact r1
  · obtain rfl : i = 0 := by simp at h; omega
    exact lst_bs r3
theorem hash_Of (seed : Int) (l : List UInt8) : Fn Try.prog 105 [iC .u64 seed, .bor 1 [[bysP l]]] (.per (rawP (.int .u64 (hashOf seed l)))) := by
  refine ⟨⟨_, Try.func105, by kernel_rfl, by kernel_rfl⟩, fun N0 w vs _ ha => ?_⟩
  obtain ⟨v, u, rfl, h1, h2⟩ := args2 ha
  obtain rfl : v = .int .u64 seed := h1
  refine Calls.mono (hashOf_any seed u [l] w (lst_bss h2)) ?_
  rintro e w' ⟨rfl, rfl⟩
  exact ⟨_, rfl, Ext.refl _, by simp; rfl⟩
theorem ref_Of (seed : Int) (l : List UInt8) : Fn Try.prog 106 [iC .u64 seed, bytesB l] (.per (rawP (.int .u64 (hashOf seed l)))) := by
  refine ⟨⟨_, Try.func106, by kernel_rfl, by kernel_rfl⟩, fun N0 w vs _ ha => ?_⟩
  obtain ⟨v, u, rfl, h1, h2⟩ := args2 ha
  obtain rfl : v = .int .u64 seed := h1
  refine Calls.mono (refOf_any seed u l w (lst_bs h2)) ?_
  rintro e w' ⟨rfl, rfl⟩
  exact ⟨_, rfl, Ext.refl _, rfl⟩
/-- a filter that nobody turns -/
abbrev blP (bits probes seed : Int) (row : List UInt8) : PV := rptrP [rawP (.int .i64 bits), rawP (.int .i64 probes), rawP (.int .u64 seed), lstP 1 (row.map byteP)]
abbrev blBox (bits probes seed : Int) : Blk := .box 41 [iC .i64 bits, iC .i64 probes, iC .u64 seed, .row 1001 0]
abbrev blRow (row : List UInt8) : Blk := .row 5 1 (row.map byteP)
structure BlOk (bits probes : Int) (row : List UInt8) : Prop where
  b1 : 1 ≤ bits
  b2 : bits ≤ 4096
  p1 : 1 ≤ probes
  p2 : probes ≤ 8
  len : row.length = (bits.toNat + 7) / 8
theorem zeros_map (n : Nat) : List.replicate n [rawP (.int .u8 0)] = (List.replicate n (0 : UInt8)).map byteP := by
  rw [List.map_replicate]; rfl
theorem hasP_stop {row : List UInt8} {bits seed : Int} {l : List UInt8} {k q : Nat} (hk : k < q) (h : hasBit row (probeN bits seed l (k : Int)) = false) : hasP row bits seed l q = false := by
  rw [hasP, List.all_eq_false]
  exact ⟨k, List.mem_range.2 hk, by simp [h]⟩
theorem and_zero {row : List UInt8} {m : Nat} (h : m / 8 < row.length) : bits BinOp.and IntKind.u8 ((row[m / 8].toNat : Nat) : Int) ((2 ^ (m % 8) : Nat) : Int) = 0 ↔ hasBit row m = false := by
  rw [and_byte]
  unfold hasBit
  rw [List.getElem?_eq_getElem h, Option.getD_some]
  simp only [bne_eq_false_iff_eq]
  constructor
  · intro q; exact UInt8.toNat_inj.1 (by simpa using q)
  · intro q; rw [q]; rfl
theorem shl_bit {m : Nat} : IntKind.u8.wrap (1 * 2 ^ min (((m % 8 : Nat) : Int)).toNat IntKind.u8.bits) = ((2 ^ (m % 8) : Nat) : Int) := by
  rw [Int.toNat_natCast]
  have h : m % 8 < 8 := Nat.mod_lt _ (by decide)
  have : ∀ k : Fin 8, IntKind.u8.wrap (1 * 2 ^ min k.val IntKind.u8.bits) = ((2 ^ k.val : Nat) : Int) := by decide
  exact this ⟨m % 8, h⟩
theorem onesR_cons (x : UInt8) (l : List UInt8) : onesR (x :: l) = ones8 x + onesR l := by simp [onesR]
instance (b : Int) (s : List UInt8) : Decidable (topBad b s) := by unfold topBad; infer_instance
section
set_option maxRecDepth 10000
set_option maxHeartbeats 4000000
theorem bl_New_bad (bits probes seed : Int) (h : ¬ (1 ≤ bits ∧ bits ≤ 4096 ∧ 1 ≤ probes ∧ probes ≤ 8)) : Fn Try.prog 13 [iC .i64 bits, iC .i64 probes, iC .u64 seed] (.tup2 (.per (rawP (.pointer none))) (inR 2)) := by
  refine fn_intro Try.func13 rfl (by kernel_rfl) Try.ntmps13 (Nat.le_of_ble_eq_true rfl) ?_
  (repeat' (first | refine AW_seq ?_ | refine AW_block ?_ | refine AW_skip ?_ | refine AW_exit ?_ | refine AW_ret ?_ | refine AW_region ?_ | refine AW_draw mixed0 ?_ | refine AL_nil ?_ | refine AD_nil (by kernel_rfl) ?_ | (refine AW_cl rfl rfl ⟨fun hc => ?_, fun hc => ?_⟩ <;> (repeat rw [List.length_map] at hc) <;> (try exact absd hc)) | ((first | apply AL_t rfl | apply AL_0 rfl | apply AD_t rfl | apply AD_0 rfl); focus (first | ((exact u_mk (m := 0) ⟨rfl, rfl, rfl⟩ rfl inferInstance inferInstance rfl rfl rfl rfl (by omega) (by omega))) | (apply u_g; (focus rfl); apply op_gyes rfl rfl rfl rfl rfl; ((exact u_mk (m := 0) ⟨rfl, rfl, rfl⟩ rfl inferInstance inferInstance rfl rfl rfl rfl (by omega) (by omega)))) | exact z_auto | fail)) | refine thenA_n ?_ | refine thenA_r ?_ | refine thenA_e ?_ | refine inB_n ?_ | refine inB_r ?_ | refine inB_hit ?_ | refine inB_miss rfl ?_ | ((first | refine AL_cl rfl rfl rfl ⟨fun hc => ?_, fun hc => ?_⟩ | refine AD_cl rfl rfl rfl ⟨fun hc => ?_, fun hc => ?_⟩) <;> (fail_if_success (have q : (true = true) := hc)) <;> (fail_if_success (have q : (false = false) := hc)) <;> (repeat rw [List.length_map] at hc) <;> (try exact absd hc)) | refine AW_cond_nil rfl rfl (fun hc => ?_) ?_))
  all_goals (refine ⟨(by first | exact .inl rfl | exact .inr rfl), res2 rfl ?_ ?_⟩)
  all_goals first | exact rv_per rfl | exact rv_int rfl rfl
theorem bl_New (bits probes seed : Int) (h1 : 1 ≤ bits) (h2 : bits ≤ 4096) (h3 : 1 ≤ probes) (h4 : probes ≤ 8) :
    FnM Try.prog 13 [iC .i64 bits, iC .i64 probes, iC .u64 seed] [] (.tup2 (.ptr 3000 0 0) (iC .i64 0)) [(3000, .box 41 [iC .i64 bits, iC .i64 probes, iC .u64 seed, .row 3001 0]), (3001, blRow (List.replicate ((bits.toNat + 7) / 8) 0))] := by
  refine fnm_intro Try.func13 rfl (by kernel_rfl) Try.ntmps13 (Nat.le_of_ble_eq_true rfl) ?_
  (repeat' (first | refine AW_seq ?_ | refine AW_block ?_ | refine AW_skip ?_ | refine AW_exit ?_ | refine AW_ret ?_ | refine AW_region ?_ | refine AW_draw mixed0 ?_ | refine AL_nil ?_ | refine AD_nil (by kernel_rfl) ?_ | (refine AW_cl rfl rfl ⟨fun hc => ?_, fun hc => ?_⟩ <;> (repeat rw [List.length_map] at hc) <;> (try exact absd hc)) | ((first | apply AL_t rfl | apply AL_0 rfl | apply AD_t rfl | apply AD_0 rfl); focus (first | ((exact u_mk (m := (bits.toNat + 7) / 8) ⟨rfl, rfl, rfl⟩ rfl inferInstance inferInstance rfl rfl rfl rfl (by omega) (by omega))) | (apply u_g; (focus rfl); apply op_gyes rfl rfl rfl rfl rfl; ((exact u_mk (m := (bits.toNat + 7) / 8) ⟨rfl, rfl, rfl⟩ rfl inferInstance inferInstance rfl rfl rfl rfl (by omega) (by omega)))) | exact z_auto | fail)) | refine thenA_n ?_ | refine thenA_r ?_ | refine thenA_e ?_ | refine inB_n ?_ | refine inB_r ?_ | refine inB_hit ?_ | refine inB_miss rfl ?_ | ((first | refine AL_cl rfl rfl rfl ⟨fun hc => ?_, fun hc => ?_⟩ | refine AD_cl rfl rfl rfl ⟨fun hc => ?_, fun hc => ?_⟩) <;> (fail_if_success (have q : (true = true) := hc)) <;> (fail_if_success (have q : (false = false) := hc)) <;> (repeat rw [List.length_map] at hc) <;> (try exact absd hc)) | refine AW_cond_nil rfl rfl (fun hc => ?_) ?_))
  (refine ⟨(by first | exact .inl rfl | exact .inr rfl), resM2 [(31, 3000), (29, 3001)] rfl rfl ?_ ?_ ?_⟩; (focus (repeat (first | exact AllX.nil | (refine AllX.cons rfl ?_ ?_; (focus first | rfl | skip))))))
  · first | exact congrArg (Blk.row _ 1) (zeros_map _) | exact congrArg (Blk.row _ 1) (zeros_map _).symm
  · exact AllX.nil
  · exact rvm rfl rfl
  · exact rvm_int rfl rfl
theorem bl_bytes (r c : Int) (hr : okNum r) (hc : okNum c) : Fn Try.prog 60 [vrC r c] (ownB (verB r c)) := by
  have h := varint_Put [] [r, c] (by simp) (ok2 hr hc)
  rw [List.nil_append, verB_eq] at h
  refine fn_intro Try.func60 rfl (by kernel_rfl) Try.ntmps60 (Nat.le_of_ble_eq_true rfl) ?_
  (repeat' (first | refine AW_seq ?_ | refine AW_block ?_ | refine AW_skip ?_ | refine AW_exit ?_ | refine AW_ret ?_ | refine AW_region ?_ | refine AW_draw mixed0 ?_ | refine AL_nil ?_ | refine AD_nil (by kernel_rfl) ?_ | (refine AW_cl rfl rfl ⟨fun hc => ?_, fun hc => ?_⟩ <;> (repeat rw [List.length_map] at hc) <;> (try exact absd hc)) | ((first | apply AL_t rfl | apply AL_0 rfl | apply AD_t rfl | apply AD_0 rfl); focus (first | exact z_auto | exact c_A (h) | fail)) | refine thenA_n ?_ | refine thenA_r ?_ | refine thenA_e ?_ | refine inB_n ?_ | refine inB_r ?_ | refine inB_hit ?_ | refine inB_miss rfl ?_ | ((first | refine AL_cl rfl rfl rfl ⟨fun hc => ?_, fun hc => ?_⟩ | refine AD_cl rfl rfl rfl ⟨fun hc => ?_, fun hc => ?_⟩) <;> (fail_if_success (have q : (true = true) := hc)) <;> (fail_if_success (have q : (false = false) := hc)) <;> (repeat rw [List.length_map] at hc) <;> (try exact absd hc)) | refine AW_cond_nil rfl rfl (fun hc => ?_) ?_))
  (refine ⟨(by first | exact .inl rfl | exact .inr rfl), res1 rfl ?_⟩)
  exact rv_ownM rfl rfl rfl rfl
theorem bl_probe (bits probes seed : Int) (row l : List UInt8) (i : Nat) (hi : i ≤ 1000) (h1 : 1 ≤ bits) (h2 : bits ≤ 4096) :
    Fn Try.prog 61 [.per (blP bits probes seed row), .per (bysP l), iC .i64 (i : Nat)] (.tup2 (inR ((probeN bits seed l i / 8 : Nat) : Int)) (.per (rawP (.int .u8 ((2 ^ (probeN bits seed l i % 8) : Nat) : Int))))) := by
  have hlt := probeN_lt bits seed l i h1
  have hwi : IntKind.u64.wrap (i : Int) = (i : Int) := wrap_u64B (by omega) (by omega)
  have hH := hash_Of (IntKind.u64.wrap (seed + i)) l
  have hP : (hashOf (IntKind.u64.wrap (seed + i)) l).tmod bits = ((probeN bits seed l i : Nat) : Int) := by
    have hnn : 0 ≤ hashOf (IntKind.u64.wrap (seed + i)) l := by unfold hashOf fnvEnd; exact bits_nn _ _
    unfold probeN
    rw [hwi, Int.tmod_eq_emod_of_nonneg hnn, Int.toNat_of_nonneg (Int.emod_nonneg _ (by omega))]
  have hsh := @shl_bit (probeN bits seed l i)
  generalize hashOf (IntKind.u64.wrap (seed + i)) l = H at *
  generalize probeN bits seed l i = m at *
  have hm8 : ((m / 8 : Nat) : Int) = (m : Int) / 8 := by omega
  have hm9 : ((m % 8 : Nat) : Int) = (m : Int) % 8 := by omega
  rw [hm9] at hsh
  rw [hm8]
  refine fn_intro Try.func61 rfl (by kernel_rfl) Try.ntmps61 (Nat.le_of_ble_eq_true rfl) ?_
  (repeat' (first | refine AW_seq ?_ | refine AW_block ?_ | refine AW_skip ?_ | refine AW_exit ?_ | refine AW_ret ?_ | refine AW_region ?_ | refine AW_draw mixed0 ?_ | refine AL_nil ?_ | refine AD_nil (by kernel_rfl) ?_ | (refine AW_cl rfl rfl ⟨fun hc => ?_, fun hc => ?_⟩ <;> (repeat rw [List.length_map] at hc) <;> (try exact absd hc)) | ((first | apply AL_t rfl | apply AL_0 rfl | apply AD_t rfl | apply AD_0 rfl); focus (first | ((apply u_k 10; (focus rfl); exact u_conv ⟨rfl, rfl, rfl⟩ rfl inferInstance inferInstance rfl (by with_reducible exact wrap_u64B (by omega) (by omega)))) | (apply u_g; (focus rfl); apply op_gyes rfl rfl rfl rfl rfl; ((apply u_k 10; (focus rfl); exact u_conv ⟨rfl, rfl, rfl⟩ rfl inferInstance inferInstance rfl (by with_reducible exact wrap_u64B (by omega) (by omega))))) | ((apply u_k 8; (focus rfl); exact op_num ⟨rfl, rfl, rfl⟩ rfl rfl rfl rfl ((wrap_id64 (by omega) (by omega)).trans (by assumption)))) | (apply u_g; (focus rfl); apply op_gyes rfl rfl rfl rfl rfl; ((apply u_k 8; (focus rfl); exact op_num ⟨rfl, rfl, rfl⟩ rfl rfl rfl rfl ((wrap_id64 (by omega) (by omega)).trans (by assumption))))) | ((exact op_rem ⟨rfl, rfl, rfl⟩ rfl rfl rfl (by omega) hP)) | (apply u_g; (focus rfl); apply op_gyes rfl rfl rfl rfl rfl; ((exact op_rem ⟨rfl, rfl, rfl⟩ rfl rfl rfl (by omega) hP))) | ((exact op_shl ⟨rfl, rfl, rfl⟩ rfl rfl rfl (by omega) hsh)) | (apply u_g; (focus rfl); apply op_gyes rfl rfl rfl rfl rfl; ((exact op_shl ⟨rfl, rfl, rfl⟩ rfl rfl rfl (by omega) hsh))) | exact z_auto | exact c_A (hH) | fail)) | refine thenA_n ?_ | refine thenA_r ?_ | refine thenA_e ?_ | refine inB_n ?_ | refine inB_r ?_ | refine inB_hit ?_ | refine inB_miss rfl ?_ | ((first | refine AL_cl rfl rfl rfl ⟨fun hc => ?_, fun hc => ?_⟩ | refine AD_cl rfl rfl rfl ⟨fun hc => ?_, fun hc => ?_⟩) <;> (fail_if_success (have q : (true = true) := hc)) <;> (fail_if_success (have q : (false = false) := hc)) <;> (repeat rw [List.length_map] at hc) <;> (try exact absd hc)) | refine AW_cond_nil rfl rfl (fun hc => ?_) ?_))
  (refine ⟨(by first | exact .inl rfl | exact .inr rfl), res2 rfl ?_ ?_⟩)
  · exact rv_int rfl rfl
  · exact rv_int rfl rfl
theorem bl_Has (bits probes seed : Int) (row : List UInt8) (hb : BlOk bits probes row) (r c : Int) : Fn Try.prog 15 [.per (blP bits probes seed row), vrC r c] (boR (hasV row bits probes seed r c)) := by
  obtain ⟨b1, b2, p1, p2, hlen⟩ := hb
  have h1 := ver_Right r c
  cases hr : verR r c with
  | false =>
    rw [hr] at h1
    rw [show hasV row bits probes seed r c = false by unfold hasV; rw [hr]; rfl]
    refine fn_intro Try.func15 rfl (by kernel_rfl) Try.ntmps15 (Nat.le_of_ble_eq_true rfl) ?_
    (repeat' (first | refine AW_seq ?_ | refine AW_block ?_ | refine AW_skip ?_ | refine AW_exit ?_ | refine AW_ret ?_ | refine AW_region ?_ | refine AW_draw mixed0 ?_ | refine AL_nil ?_ | refine AD_nil (by kernel_rfl) ?_ | (refine AW_cl rfl rfl ⟨fun hc => ?_, fun hc => ?_⟩ <;> (repeat rw [List.length_map] at hc) <;> (try exact absd hc)) | ((first | apply AL_t rfl | apply AL_0 rfl | apply AD_t rfl | apply AD_0 rfl); focus (first | exact z_auto | exact c_A (h1) | fail)) | refine thenA_n ?_ | refine thenA_r ?_ | refine thenA_e ?_ | refine inB_n ?_ | refine inB_r ?_ | refine inB_hit ?_ | refine inB_miss rfl ?_ | ((first | refine AL_cl rfl rfl rfl ⟨fun hc => ?_, fun hc => ?_⟩ | refine AD_cl rfl rfl rfl ⟨fun hc => ?_, fun hc => ?_⟩) <;> (fail_if_success (have q : (true = true) := hc)) <;> (fail_if_success (have q : (false = false) := hc)) <;> (repeat rw [List.length_map] at hc) <;> (try exact absd hc)) | refine AW_cond_nil rfl rfl (fun hc => ?_) ?_))
    (refine ⟨(by first | exact .inl rfl | exact .inr rfl), res1 rfl ?_⟩)
    exact rv_bool rfl rfl
  | true =>
    rw [hr] at h1
    obtain ⟨o1, o2⟩ := ok_ver hr
    have h2 := (bl_bytes r c o1 o2).frz
    rw [show hasV row bits probes seed r c = hasP row bits seed (verB r c) probes.toNat by unfold hasV; rw [hr]; rfl]
    generalize verB r c = l at *
    refine fn_intro Try.func15 rfl (by kernel_rfl) Try.ntmps15 (Nat.le_of_ble_eq_true rfl) ?_
    (repeat' (first | refine AW_seq ?_ | refine AW_block ?_ | refine AW_skip ?_ | refine AW_exit ?_ | refine AW_ret ?_ | refine AW_region ?_ | refine AW_draw mixed0 ?_ | refine AL_nil ?_ | refine AD_nil (by kernel_rfl) ?_ | (refine AW_cl rfl rfl ⟨fun hc => ?_, fun hc => ?_⟩ <;> (repeat rw [List.length_map] at hc) <;> (try exact absd hc)) | ((first | apply AL_t rfl | apply AL_0 rfl | apply AD_t rfl | apply AD_0 rfl); focus (first | exact z_auto | exact c_A (h1) | exact c_A (h2) | fail)) | refine thenA_n ?_ | refine thenA_r ?_ | refine thenA_e ?_ | refine inB_n ?_ | refine inB_r ?_ | refine inB_hit ?_ | refine inB_miss rfl ?_ | ((first | refine AL_cl rfl rfl rfl ⟨fun hc => ?_, fun hc => ?_⟩ | refine AD_cl rfl rfl rfl ⟨fun hc => ?_, fun hc => ?_⟩) <;> (fail_if_success (have q : (true = true) := hc)) <;> (fail_if_success (have q : (false = false) := hc)) <;> (repeat rw [List.length_map] at hc) <;> (try exact absd hc)) | refine AW_cond_nil rfl rfl (fun hc => ?_) ?_))
    refine AW_loopP (X := Nat) (fun k => (k : Int) ≤ probes ∧ hasP row bits seed l k = true)
      (fun k => mkSt [(0, .per (blP bits probes seed row)), (5, .per (bysP l)), (28, iC .i64 probes), (29, iC .i64 (k : Nat))] []) (fun k => probes.toNat - k) 0 ⟨by omega, rfl⟩ ?_ ?_
    · exact le_auto
    · rintro k ⟨hk, hP⟩
      by_cases hlt : (k : Int) < probes
      · have h3 := bl_probe bits probes seed row l k (by omega) b1 b2
        have hml := probeN_lt bits seed l k b1
        have hs1 := hasP_succ row bits seed l k
        have hs2 := @hasP_stop row bits seed l k probes.toNat (by omega)
        rw [hP, Bool.true_and] at hs1
        generalize probeN bits seed l k = m at *
        have hm8 : m / 8 < row.length := by omega
        have haz := and_zero hm8
        clear h1 h2 hP
        (repeat' (first | refine AW_seq ?_ | refine AW_block ?_ | refine AW_skip ?_ | refine AW_exit ?_ | refine AW_ret ?_ | refine AW_region ?_ | refine AW_draw mixed0 ?_ | refine AL_nil ?_ | refine AD_nil (by kernel_rfl) ?_ | (refine AW_cl rfl rfl ⟨fun hc => ?_, fun hc => ?_⟩ <;> (repeat rw [List.length_map] at hc) <;> (try exact absd hc)) | ((first | apply AL_t rfl | apply AL_0 rfl | apply AD_t rfl | apply AD_0 rfl); focus (first | ((exact op_and ⟨rfl, rfl, rfl⟩ rfl rfl rfl rfl)) | (apply u_g; (focus rfl); apply op_gyes rfl rfl rfl rfl rfl; ((exact op_and ⟨rfl, rfl, rfl⟩ rfl rfl rfl rfl))) | exact z_auto | exact c_A (h3) | fail)) | refine thenA_n ?_ | refine thenA_r ?_ | refine thenA_e ?_ | refine inB_n ?_ | refine inB_r ?_ | refine inB_hit ?_ | refine inB_miss rfl ?_ | ((first | refine AL_cl rfl rfl rfl ⟨fun hc => ?_, fun hc => ?_⟩ | refine AD_cl rfl rfl rfl ⟨fun hc => ?_, fun hc => ?_⟩) <;> (fail_if_success (have q : (true = true) := hc)) <;> (fail_if_success (have q : (false = false) := hc)) <;> (repeat rw [List.length_map] at hc) <;> (try exact absd hc)) | refine AW_cond_nil rfl rfl (fun hc => ?_) ?_))
        · rw [hs2 (haz.1 hc)]
          (refine ⟨(by first | exact .inl rfl | exact .inr rfl), res1 rfl ?_⟩)
          exact rv_bool rfl rfl
        · have hm1 : hasBit row m = true := by
            cases hh : hasBit row m with
            | true => rfl
            | false => exact absurd (haz.2 hh) hc
          rw [hm1] at hs1
          refine ⟨k + 1, ⟨by omega, hs1⟩, by omega, ?_⟩
          exact le_auto
      · have hkp : probes.toNat = k := by omega
        rw [hkp, hP]
        (repeat' (first | refine AW_seq ?_ | refine AW_block ?_ | refine AW_skip ?_ | refine AW_exit ?_ | refine AW_ret ?_ | refine AW_region ?_ | refine AW_draw mixed0 ?_ | refine AL_nil ?_ | refine AD_nil (by kernel_rfl) ?_ | (refine AW_cl rfl rfl ⟨fun hc => ?_, fun hc => ?_⟩ <;> (repeat rw [List.length_map] at hc) <;> (try exact absd hc)) | ((first | apply AL_t rfl | apply AL_0 rfl | apply AD_t rfl | apply AD_0 rfl); focus (first | exact z_auto | fail)) | refine thenA_n ?_ | refine thenA_r ?_ | refine thenA_e ?_ | refine inB_n ?_ | refine inB_r ?_ | refine inB_hit ?_ | refine inB_miss rfl ?_ | ((first | refine AL_cl rfl rfl rfl ⟨fun hc => ?_, fun hc => ?_⟩ | refine AD_cl rfl rfl rfl ⟨fun hc => ?_, fun hc => ?_⟩) <;> (fail_if_success (have q : (true = true) := hc)) <;> (fail_if_success (have q : (false = false) := hc)) <;> (repeat rw [List.length_map] at hc) <;> (try exact absd hc)) | refine AW_cond_nil rfl rfl (fun hc => ?_) ?_))
        (refine ⟨(by first | exact .inl rfl | exact .inr rfl), res1 rfl ?_⟩)
        exact rv_bool rfl rfl
abbrev vsB (vs : List (Int × Int)) : Cnt := .bor 2 (vs.map fun v => vrP v.1 v.2)
theorem bl_Add (bits probes seed : Int) (row : List UInt8) (hb : BlOk bits probes row) (vs : List (Int × Int)) (hvs : vs.length ≤ 1000000000) :
    FnM Try.prog 17 [.ptr 1000 0 0, vsB vs] [(1000, blBox bits probes seed), (1001, blRow row)] .any [(1000, blBox bits probes seed), (1001, blRow (addAll row bits probes seed vs))] := by
  obtain ⟨b1, b2, p1, p2, hlen⟩ := hb
  generalize hR : addAll row bits probes seed vs = R
  refine fnm_intro Try.func17 rfl (by kernel_rfl) Try.ntmps17 (Nat.le_of_ble_eq_true rfl) ?_
  (repeat' (first | refine AW_seq ?_ | refine AW_block ?_ | refine AW_skip ?_ | refine AW_exit ?_ | refine AW_ret ?_ | refine AW_region ?_ | refine AW_draw mixed0 ?_ | refine AL_nil ?_ | refine AD_nil (by kernel_rfl) ?_ | (refine AW_cl rfl rfl ⟨fun hc => ?_, fun hc => ?_⟩ <;> (repeat rw [List.length_map] at hc) <;> (try exact absd hc)) | ((first | apply AL_t rfl | apply AL_0 rfl | apply AD_t rfl | apply AD_0 rfl); focus (first | exact z_auto | fail)) | refine thenA_n ?_ | refine thenA_r ?_ | refine thenA_e ?_ | refine inB_n ?_ | refine inB_r ?_ | refine inB_hit ?_ | refine inB_miss rfl ?_ | ((first | refine AL_cl rfl rfl rfl ⟨fun hc => ?_, fun hc => ?_⟩ | refine AD_cl rfl rfl rfl ⟨fun hc => ?_, fun hc => ?_⟩) <;> (fail_if_success (have q : (true = true) := hc)) <;> (fail_if_success (have q : (false = false) := hc)) <;> (repeat rw [List.length_map] at hc) <;> (try exact absd hc)) | refine AW_cond_nil rfl rfl (fun hc => ?_) ?_))
  refine AW_loopP (X := Nat × List UInt8) (fun x => x.1 ≤ vs.length ∧ x.2.length = (bits.toNat + 7) / 8 ∧ addAll x.2 bits probes seed (vs.drop x.1) = R)
    (fun x => mkSt [(0, .ptr 1000 0 0), (12, vsB vs), (13, iC .i64 (vs.length : Nat)), (14, iC .i64 (x.1 : Nat))] [(1000, blBox bits probes seed), (1001, blRow x.2)]) (fun x => vs.length - x.1) (0, row) ⟨Nat.zero_le _, hlen, hR⟩ ?_ ?_
  · exact le_auto
  · rintro ⟨i, rw0⟩ ⟨g1, g2, g3⟩
    simp only at g1 g2 g3 ⊢
    by_cases hi : i < vs.length
    · rw [List.drop_eq_getElem_cons hi] at g3
      have h1 := ver_Right vs[i].1 vs[i].2
      cases hr : verR vs[i].1 vs[i].2 with
      | false =>
        rw [hr] at h1
        have g4 : addAll rw0 bits probes seed (vs.drop (i + 1)) = R := by
          rw [← g3]; simp only [addAll, List.foldl_cons]; rw [addV, if_neg (by rw [hr]; simp)]
        clear g3
        (repeat' (first | refine AW_seq ?_ | refine AW_block ?_ | refine AW_skip ?_ | refine AW_exit ?_ | refine AW_ret ?_ | refine AW_region ?_ | refine AW_draw mixed0 ?_ | refine AL_nil ?_ | refine AD_nil (by kernel_rfl) ?_ | (refine AW_cl rfl rfl ⟨fun hc => ?_, fun hc => ?_⟩ <;> (repeat rw [List.length_map] at hc) <;> (try exact absd hc)) | ((first | apply AL_t rfl | apply AL_0 rfl | apply AD_t rfl | apply AD_0 rfl); focus (first | exact z_auto | exact c_A (h1) | fail)) | refine thenA_n ?_ | refine thenA_r ?_ | refine thenA_e ?_ | refine inB_n ?_ | refine inB_r ?_ | refine inB_hit ?_ | refine inB_miss rfl ?_ | ((first | refine AL_cl rfl rfl rfl ⟨fun hc => ?_, fun hc => ?_⟩ | refine AD_cl rfl rfl rfl ⟨fun hc => ?_, fun hc => ?_⟩) <;> (fail_if_success (have q : (true = true) := hc)) <;> (fail_if_success (have q : (false = false) := hc)) <;> (repeat rw [List.length_map] at hc) <;> (try exact absd hc)) | refine AW_cond_nil rfl rfl (fun hc => ?_) ?_))
        refine ⟨(i + 1, rw0), ⟨by simp only; omega, g2, g4⟩, by simp only; omega, ?_⟩
        exact le_auto
      | true =>
        rw [hr] at h1
        obtain ⟨o1, o2⟩ := ok_ver hr
        have h2 := (bl_bytes vs[i].1 vs[i].2 o1 o2).frz
        have g4 : addAll (addP rw0 bits seed (verB vs[i].1 vs[i].2) probes.toNat) bits probes seed (vs.drop (i + 1)) = R := by
          rw [← g3]; simp only [addAll, List.foldl_cons]; rw [addV, if_pos hr]
        generalize verB vs[i].1 vs[i].2 = l at *
        clear g3
        (repeat' (first | refine AW_seq ?_ | refine AW_block ?_ | refine AW_skip ?_ | refine AW_exit ?_ | refine AW_ret ?_ | refine AW_region ?_ | refine AW_draw mixed0 ?_ | refine AL_nil ?_ | refine AD_nil (by kernel_rfl) ?_ | (refine AW_cl rfl rfl ⟨fun hc => ?_, fun hc => ?_⟩ <;> (repeat rw [List.length_map] at hc) <;> (try exact absd hc)) | ((first | apply AL_t rfl | apply AL_0 rfl | apply AD_t rfl | apply AD_0 rfl); focus (first | exact z_auto | exact c_A (h1) | exact c_A (h2) | fail)) | refine thenA_n ?_ | refine thenA_r ?_ | refine thenA_e ?_ | refine inB_n ?_ | refine inB_r ?_ | refine inB_hit ?_ | refine inB_miss rfl ?_ | ((first | refine AL_cl rfl rfl rfl ⟨fun hc => ?_, fun hc => ?_⟩ | refine AD_cl rfl rfl rfl ⟨fun hc => ?_, fun hc => ?_⟩) <;> (fail_if_success (have q : (true = true) := hc)) <;> (fail_if_success (have q : (false = false) := hc)) <;> (repeat rw [List.length_map] at hc) <;> (try exact absd hc)) | refine AW_cond_nil rfl rfl (fun hc => ?_) ?_))
        refine AW_loopP (X := Nat) (fun k => (k : Int) ≤ probes)
          (fun k => mkSt [(0, .ptr 1000 0 0), (6, .per (bysP l)), (12, vsB vs), (13, iC .i64 (vs.length : Nat)), (14, iC .i64 (i : Nat)), (26, iC .i64 probes), (27, iC .i64 (k : Nat))] [(1000, blBox bits probes seed), (1001, blRow (addP rw0 bits seed l k))]) (fun k => probes.toNat - k) 0 (by omega) ?_ ?_
        · exact le_auto
        · rintro k hk
          have hpl : (addP rw0 bits seed l k).length = (bits.toNat + 7) / 8 := by rw [addP_len, g2]
          by_cases hlt : (k : Int) < probes
          · have h3 := bl_probe bits probes seed (addP rw0 bits seed l k) l k (by omega) b1 b2
            have hml := probeN_lt bits seed l k b1
            have hs1 := addP_succ rw0 bits seed l k
            generalize probeN bits seed l k = m at *
            generalize addP rw0 bits seed l k = rk at *
            have hm8 : m / 8 < rk.length := by omega
            have HJ : (rk.map byteP)[m / 8]? = some (byteP rk[m / 8]) := by rw [List.getElem?_map, List.getElem?_eq_getElem hm8]; rfl
            have hor := or_byte rk[m / 8] m
            have HS : (rk.map byteP).set (m / 8) (setP (byteP rk[m / 8]) 0 (byteP (rk[m / 8] ||| bitOf m))) = (addBit rk m).map byteP := by
              unfold addBit
              rw [List.map_set, List.getElem?_eq_getElem hm8]; rfl
            generalize rk[m / 8] = x at *
            clear h1 h2 g4
            (repeat' (first | refine AW_seq ?_ | refine AW_block ?_ | refine AW_skip ?_ | refine AW_exit ?_ | refine AW_ret ?_ | refine AW_region ?_ | refine AW_draw mixed0 ?_ | refine AL_nil ?_ | refine AD_nil (by kernel_rfl) ?_ | (refine AW_cl rfl rfl ⟨fun hc => ?_, fun hc => ?_⟩ <;> (repeat rw [List.length_map] at hc) <;> (try exact absd hc)) | ((first | apply AL_t rfl | apply AL_0 rfl | apply AD_t rfl | apply AD_0 rfl); focus (first | ((exact op_or ⟨rfl, rfl, rfl⟩ rfl rfl rfl hor)) | (apply u_g; (focus rfl); apply op_gyes rfl rfl rfl rfl rfl; ((exact op_or ⟨rfl, rfl, rfl⟩ rfl rfl rfl hor))) | exact z_auto | ((refine c_P (ids := [1000, 1001]) (h3) (hg := ?_); ((repeat (first | exact GPl.nil | (refine GPl.cons ?_ ?_; focus (first | exact gpq_per rfl | exact gpq_lst rfl | exact gpq_bor rfl | exact gpq_row rfl rfl rfl | (refine gpq_box rfl rfl rfl rfl ?_; (focus (repeat (first | exact SeesL.nil | (refine SeesL.cons ?_ ?_; (focus (first | exact Sees.per | exact Sees.row rfl rfl rfl))))))) | exact gpq_rows rfl rfl rfl rfl)))); done))) | (apply u_g; (focus rfl); apply op_gyes rfl rfl rfl rfl rfl; ((refine c_P (ids := [1000, 1001]) (h3) (hg := ?_); ((repeat (first | exact GPl.nil | (refine GPl.cons ?_ ?_; focus (first | exact gpq_per rfl | exact gpq_lst rfl | exact gpq_bor rfl | exact gpq_row rfl rfl rfl | (refine gpq_box rfl rfl rfl rfl ?_; (focus (repeat (first | exact SeesL.nil | (refine SeesL.cons ?_ ?_; (focus (first | exact Sees.per | exact Sees.row rfl rfl rfl))))))) | exact gpq_rows rfl rfl rfl rfl)))); done)))) | ((apply u_k 5; (focus rfl); exact u_load_r1 ⟨rfl, rfl, rfl⟩ rfl inferInstance rfl rfl rfl HJ rfl)) | (apply u_g; (focus rfl); apply op_gyes rfl rfl rfl rfl rfl; ((apply u_k 5; (focus rfl); exact u_load_r1 ⟨rfl, rfl, rfl⟩ rfl inferInstance rfl rfl rfl HJ rfl))) | ((apply u_k 6; (focus rfl); exact u_store_r ⟨rfl, rfl⟩ rfl inferInstance rfl rfl rfl rfl HJ rfl (part_raw rfl rfl rfl) rfl HS)) | (apply u_g; (focus rfl); apply op_gyes rfl rfl rfl rfl rfl; ((apply u_k 6; (focus rfl); exact u_store_r ⟨rfl, rfl⟩ rfl inferInstance rfl rfl rfl rfl HJ rfl (part_raw rfl rfl rfl) rfl HS))) | fail)) | refine thenA_n ?_ | refine thenA_r ?_ | refine thenA_e ?_ | refine inB_n ?_ | refine inB_r ?_ | refine inB_hit ?_ | refine inB_miss rfl ?_ | ((first | refine AL_cl rfl rfl rfl ⟨fun hc => ?_, fun hc => ?_⟩ | refine AD_cl rfl rfl rfl ⟨fun hc => ?_, fun hc => ?_⟩) <;> (fail_if_success (have q : (true = true) := hc)) <;> (fail_if_success (have q : (false = false) := hc)) <;> (repeat rw [List.length_map] at hc) <;> (try exact absd hc)) | refine AW_cond_nil rfl rfl (fun hc => ?_) ?_))
            refine ⟨k + 1, by omega, by omega, ?_⟩
            rw [hs1]
            exact le_auto
          · have hkp : probes.toNat = k := by omega
            rw [hkp] at g4
            clear h1 h2
            (repeat' (first | refine AW_seq ?_ | refine AW_block ?_ | refine AW_skip ?_ | refine AW_exit ?_ | refine AW_ret ?_ | refine AW_region ?_ | refine AW_draw mixed0 ?_ | refine AL_nil ?_ | refine AD_nil (by kernel_rfl) ?_ | (refine AW_cl rfl rfl ⟨fun hc => ?_, fun hc => ?_⟩ <;> (repeat rw [List.length_map] at hc) <;> (try exact absd hc)) | ((first | apply AL_t rfl | apply AL_0 rfl | apply AD_t rfl | apply AD_0 rfl); focus (first | exact z_auto | fail)) | refine thenA_n ?_ | refine thenA_r ?_ | refine thenA_e ?_ | refine inB_n ?_ | refine inB_r ?_ | refine inB_hit ?_ | refine inB_miss rfl ?_ | ((first | refine AL_cl rfl rfl rfl ⟨fun hc => ?_, fun hc => ?_⟩ | refine AD_cl rfl rfl rfl ⟨fun hc => ?_, fun hc => ?_⟩) <;> (fail_if_success (have q : (true = true) := hc)) <;> (fail_if_success (have q : (false = false) := hc)) <;> (repeat rw [List.length_map] at hc) <;> (try exact absd hc)) | refine AW_cond_nil rfl rfl (fun hc => ?_) ?_))
            refine ⟨(i + 1, addP rw0 bits seed l k), ⟨by simp only; omega, hpl, g4⟩, by simp only; omega, ?_⟩
            exact le_auto
    · have hil : i = vs.length := by omega
      subst hil
      rw [List.drop_length] at g3
      have g3 : rw0 = R := g3
      subst g3
      (repeat' (first | refine AW_seq ?_ | refine AW_block ?_ | refine AW_skip ?_ | refine AW_exit ?_ | refine AW_ret ?_ | refine AW_region ?_ | refine AW_draw mixed0 ?_ | refine AL_nil ?_ | refine AD_nil (by kernel_rfl) ?_ | (refine AW_cl rfl rfl ⟨fun hc => ?_, fun hc => ?_⟩ <;> (repeat rw [List.length_map] at hc) <;> (try exact absd hc)) | ((first | apply AL_t rfl | apply AL_0 rfl | apply AD_t rfl | apply AD_0 rfl); focus (first | exact z_auto | fail)) | refine thenA_n ?_ | refine thenA_r ?_ | refine thenA_e ?_ | refine inB_n ?_ | refine inB_r ?_ | refine inB_hit ?_ | refine inB_miss rfl ?_ | ((first | refine AL_cl rfl rfl rfl ⟨fun hc => ?_, fun hc => ?_⟩ | refine AD_cl rfl rfl rfl ⟨fun hc => ?_, fun hc => ?_⟩) <;> (fail_if_success (have q : (true = true) := hc)) <;> (fail_if_success (have q : (false = false) := hc)) <;> (repeat rw [List.length_map] at hc) <;> (try exact absd hc)) | refine AW_cond_nil rfl rfl (fun hc => ?_) ?_))
      (refine ⟨(by first | exact .inl rfl | exact .inr rfl), resM0 [(1000, 1000), (1001, 1001)] rfl rfl ?_⟩; (focus (repeat (first | exact AllX.nil | (refine AllX.cons rfl ?_ ?_; (focus first | rfl | skip))))))
theorem bl_Ones (bits probes seed : Int) (row : List UInt8) (hl : row.length ≤ 1000000) : Fn Try.prog 19 [.per (blP bits probes seed row)] (inR ((onesR row : Nat) : Int)) := by
  have hon := onesR_le row
  generalize hN : onesR row = N at *
  refine fn_intro Try.func19 rfl (by kernel_rfl) Try.ntmps19 (Nat.le_of_ble_eq_true rfl) ?_
  (repeat' (first | refine AW_seq ?_ | refine AW_block ?_ | refine AW_skip ?_ | refine AW_exit ?_ | refine AW_ret ?_ | refine AW_region ?_ | refine AW_draw mixed0 ?_ | refine AL_nil ?_ | refine AD_nil (by kernel_rfl) ?_ | (refine AW_cl rfl rfl ⟨fun hc => ?_, fun hc => ?_⟩ <;> (repeat rw [List.length_map] at hc) <;> (try exact absd hc)) | ((first | apply AL_t rfl | apply AL_0 rfl | apply AD_t rfl | apply AD_0 rfl); focus (first | exact z_auto | fail)) | refine thenA_n ?_ | refine thenA_r ?_ | refine thenA_e ?_ | refine inB_n ?_ | refine inB_r ?_ | refine inB_hit ?_ | refine inB_miss rfl ?_ | ((first | refine AL_cl rfl rfl rfl ⟨fun hc => ?_, fun hc => ?_⟩ | refine AD_cl rfl rfl rfl ⟨fun hc => ?_, fun hc => ?_⟩) <;> (fail_if_success (have q : (true = true) := hc)) <;> (fail_if_success (have q : (false = false) := hc)) <;> (repeat rw [List.length_map] at hc) <;> (try exact absd hc)) | refine AW_cond_nil rfl rfl (fun hc => ?_) ?_))
  refine AW_loopP (X := Nat × Nat) (fun x => x.1 ≤ row.length ∧ x.2 + onesR (row.drop x.1) = N)
    (fun x => mkSt [(3, iC .i64 (x.2 : Nat)), (11, .per (bysP row)), (12, iC .i64 (row.length : Nat)), (13, iC .i64 (x.1 : Nat))] []) (fun x => row.length - x.1) (0, 0) ⟨Nat.zero_le _, by simp [hN]⟩ ?_ ?_
  · exact le_auto
  · rintro ⟨i, c⟩ ⟨g1, g2⟩
    simp only at g1 g2 ⊢
    by_cases hi : i < row.length
    · rw [List.drop_eq_getElem_cons hi] at g2
      have g3 : c + ones8 row[i] + onesR (row.drop (i + 1)) = N := by rw [← g2, onesR_cons]; omega
      clear g2
      (repeat' (first | refine AW_seq ?_ | refine AW_block ?_ | refine AW_skip ?_ | refine AW_exit ?_ | refine AW_ret ?_ | refine AW_region ?_ | refine AW_draw mixed0 ?_ | refine AL_nil ?_ | refine AD_nil (by kernel_rfl) ?_ | (refine AW_cl rfl rfl ⟨fun hc => ?_, fun hc => ?_⟩ <;> (repeat rw [List.length_map] at hc) <;> (try exact absd hc)) | ((first | apply AL_t rfl | apply AL_0 rfl | apply AD_t rfl | apply AD_0 rfl); focus (first | exact z_auto | fail)) | refine thenA_n ?_ | refine thenA_r ?_ | refine thenA_e ?_ | refine inB_n ?_ | refine inB_r ?_ | refine inB_hit ?_ | refine inB_miss rfl ?_ | ((first | refine AL_cl rfl rfl rfl ⟨fun hc => ?_, fun hc => ?_⟩ | refine AD_cl rfl rfl rfl ⟨fun hc => ?_, fun hc => ?_⟩) <;> (fail_if_success (have q : (true = true) := hc)) <;> (fail_if_success (have q : (false = false) := hc)) <;> (repeat rw [List.length_map] at hc) <;> (try exact absd hc)) | refine AW_cond_nil rfl rfl (fun hc => ?_) ?_))
      refine AW_loopP (X := UInt8 × Nat) (fun x => x.2 + ones8 x.1 = c + ones8 row[i])
        (fun x => mkSt [(3, iC .i64 (x.2 : Nat)), (5, iC .u8 (x.1.toNat : Nat)), (11, .per (bysP row)), (12, iC .i64 (row.length : Nat)), (13, iC .i64 (i : Nat))] []) (fun x => x.1.toNat) (row[i], c) rfl ?_ ?_
      · exact le_auto
      · rintro ⟨x, d⟩ q1
        simp only at q1 ⊢
        by_cases h0 : 0 < x.toNat
        · obtain ⟨s1, s2, s3⟩ := ones8_step x h0
          have hsub : IntKind.u8.wrap ((x.toNat : Int) - 1) = (x.toNat : Int) - 1 := by
            have := x.toNat_lt
            simp [IntKind.wrap, IntKind.bits, IntKind.signed]; omega
          generalize x &&& (x - 1) = y at *
          (repeat' (first | refine AW_seq ?_ | refine AW_block ?_ | refine AW_skip ?_ | refine AW_exit ?_ | refine AW_ret ?_ | refine AW_region ?_ | refine AW_draw mixed0 ?_ | refine AL_nil ?_ | refine AD_nil (by kernel_rfl) ?_ | (refine AW_cl rfl rfl ⟨fun hc => ?_, fun hc => ?_⟩ <;> (repeat rw [List.length_map] at hc) <;> (try exact absd hc)) | ((first | apply AL_t rfl | apply AL_0 rfl | apply AD_t rfl | apply AD_0 rfl); focus (first | ((apply u_k 8; (focus rfl); exact op_num ⟨rfl, rfl, rfl⟩ rfl rfl rfl rfl hsub)) | (apply u_g; (focus rfl); apply op_gyes rfl rfl rfl rfl rfl; ((apply u_k 8; (focus rfl); exact op_num ⟨rfl, rfl, rfl⟩ rfl rfl rfl rfl hsub))) | ((exact op_and ⟨rfl, rfl, rfl⟩ rfl rfl rfl s2)) | (apply u_g; (focus rfl); apply op_gyes rfl rfl rfl rfl rfl; ((exact op_and ⟨rfl, rfl, rfl⟩ rfl rfl rfl s2))) | exact z_auto | fail)) | refine thenA_n ?_ | refine thenA_r ?_ | refine thenA_e ?_ | refine inB_n ?_ | refine inB_r ?_ | refine inB_hit ?_ | refine inB_miss rfl ?_ | ((first | refine AL_cl rfl rfl rfl ⟨fun hc => ?_, fun hc => ?_⟩ | refine AD_cl rfl rfl rfl ⟨fun hc => ?_, fun hc => ?_⟩) <;> (fail_if_success (have q : (true = true) := hc)) <;> (fail_if_success (have q : (false = false) := hc)) <;> (repeat rw [List.length_map] at hc) <;> (try exact absd hc)) | refine AW_cond_nil rfl rfl (fun hc => ?_) ?_))
          refine ⟨(y, d + 1), by simp only; omega, s3, ?_⟩
          exact le_auto
        · have hx : x = 0 := UInt8.toNat_inj.1 (by simp; omega)
          subst hx
          rw [ones8_zero] at q1
          (repeat' (first | refine AW_seq ?_ | refine AW_block ?_ | refine AW_skip ?_ | refine AW_exit ?_ | refine AW_ret ?_ | refine AW_region ?_ | refine AW_draw mixed0 ?_ | refine AL_nil ?_ | refine AD_nil (by kernel_rfl) ?_ | (refine AW_cl rfl rfl ⟨fun hc => ?_, fun hc => ?_⟩ <;> (repeat rw [List.length_map] at hc) <;> (try exact absd hc)) | ((first | apply AL_t rfl | apply AL_0 rfl | apply AD_t rfl | apply AD_0 rfl); focus (first | exact z_auto | fail)) | refine thenA_n ?_ | refine thenA_r ?_ | refine thenA_e ?_ | refine inB_n ?_ | refine inB_r ?_ | refine inB_hit ?_ | refine inB_miss rfl ?_ | ((first | refine AL_cl rfl rfl rfl ⟨fun hc => ?_, fun hc => ?_⟩ | refine AD_cl rfl rfl rfl ⟨fun hc => ?_, fun hc => ?_⟩) <;> (fail_if_success (have q : (true = true) := hc)) <;> (fail_if_success (have q : (false = false) := hc)) <;> (repeat rw [List.length_map] at hc) <;> (try exact absd hc)) | refine AW_cond_nil rfl rfl (fun hc => ?_) ?_))
          refine ⟨(i + 1, d), ⟨by simp only; omega, by simp only; omega⟩, by simp only; omega, ?_⟩
          exact le_auto
    · obtain rfl : i = row.length := by omega
      rw [List.drop_length] at g2
      have g2 : c = N := by rw [← g2]; rfl
      subst g2
      (repeat' (first | refine AW_seq ?_ | refine AW_block ?_ | refine AW_skip ?_ | refine AW_exit ?_ | refine AW_ret ?_ | refine AW_region ?_ | refine AW_draw mixed0 ?_ | refine AL_nil ?_ | refine AD_nil (by kernel_rfl) ?_ | (refine AW_cl rfl rfl ⟨fun hc => ?_, fun hc => ?_⟩ <;> (repeat rw [List.length_map] at hc) <;> (try exact absd hc)) | ((first | apply AL_t rfl | apply AL_0 rfl | apply AD_t rfl | apply AD_0 rfl); focus (first | exact z_auto | fail)) | refine thenA_n ?_ | refine thenA_r ?_ | refine thenA_e ?_ | refine inB_n ?_ | refine inB_r ?_ | refine inB_hit ?_ | refine inB_miss rfl ?_ | ((first | refine AL_cl rfl rfl rfl ⟨fun hc => ?_, fun hc => ?_⟩ | refine AD_cl rfl rfl rfl ⟨fun hc => ?_, fun hc => ?_⟩) <;> (fail_if_success (have q : (true = true) := hc)) <;> (fail_if_success (have q : (false = false) := hc)) <;> (repeat rw [List.length_map] at hc) <;> (try exact absd hc)) | refine AW_cond_nil rfl rfl (fun hc => ?_) ?_))
      (refine ⟨(by first | exact .inl rfl | exact .inr rfl), res1 rfl ?_⟩)
      exact rv_int rfl rfl
theorem bl_Bytes (bits probes seed : Int) (row : List UInt8) (hb : BlOk bits probes row) : Fn Try.prog 21 [.per (blP bits probes seed row)] (ownB (bloomB bits probes row)) := by
  obtain ⟨b1, b2, p1, p2, hlen⟩ := hb
  have ob : okNum bits := by unfold okNum; omega
  have op : okNum probes := by unfold okNum; omega
  have h1 := varint_Put [] [bits, probes] (by simp) (ok2 ob op)
  rw [List.nil_append] at h1
  have hl2 : (textB ⟨row.toArray⟩).length ≤ 9 + row.length := by
    have := numB_len9 (ByteArray.mk row.toArray).size (by show row.toArray.size ≤ _; simp; omega)
    unfold textB; simp; omega
  have h2 := varint_Text ([bits, probes].flatMap numI) [⟨row.toArray⟩] (by rw [flat1]; have := numI_le _ ob; have := numI_le _ op; simp; omega)
  rw [flat1] at h2
  refine fn_intro Try.func21 rfl (by kernel_rfl) Try.ntmps21 (Nat.le_of_ble_eq_true rfl) ?_
  (repeat' (first | refine AW_seq ?_ | refine AW_block ?_ | refine AW_skip ?_ | refine AW_exit ?_ | refine AW_ret ?_ | refine AW_region ?_ | refine AW_draw mixed0 ?_ | refine AL_nil ?_ | refine AD_nil (by kernel_rfl) ?_ | (refine AW_cl rfl rfl ⟨fun hc => ?_, fun hc => ?_⟩ <;> (repeat rw [List.length_map] at hc) <;> (try exact absd hc)) | ((first | apply AL_t rfl | apply AL_0 rfl | apply AD_t rfl | apply AD_0 rfl); focus (first | exact z_auto | exact c_A (h1) | exact c_A (h2) | fail)) | refine thenA_n ?_ | refine thenA_r ?_ | refine thenA_e ?_ | refine inB_n ?_ | refine inB_r ?_ | refine inB_hit ?_ | refine inB_miss rfl ?_ | ((first | refine AL_cl rfl rfl rfl ⟨fun hc => ?_, fun hc => ?_⟩ | refine AD_cl rfl rfl rfl ⟨fun hc => ?_, fun hc => ?_⟩) <;> (fail_if_success (have q : (true = true) := hc)) <;> (fail_if_success (have q : (false = false) := hc)) <;> (repeat rw [List.length_map] at hc) <;> (try exact absd hc)) | refine AW_cond_nil rfl rfl (fun hc => ?_) ?_))
  (refine ⟨(by first | exact .inl rfl | exact .inr rfl), res1 rfl ?_⟩)
  exact rv_ownM rfl rfl rfl rfl
def rdBl (b : List UInt8) : (Int × Int × List UInt8) × Int :=
  let p := withinSt 1 4096 b 0
  let q := withinSt 1 8 p.2.1 p.2.2
  let s := textSt 281474976710656 q.2.1 q.2.2
  let e := endSt s.2.1 s.2.2
  if e ≠ 0 then ((0, 0, []), e) else if s.1.length = (p.1.toNat + 7) / 8 ∧ ¬ topBad p.1 s.1 then ((p.1, q.1, s.1), 0) else ((0, 0, []), 11)
theorem rd_parts {b : List UInt8} {p q : Int × List UInt8 × Int} {s : List UInt8 × List UInt8 × Int} (h1 : withinSt 1 4096 b 0 = p) (h2 : withinSt 1 8 p.2.1 p.2.2 = q) (h3 : textSt 281474976710656 q.2.1 q.2.2 = s) (h4 : endSt s.2.1 s.2.2 = 0) :
    1 ≤ p.1 ∧ p.1 ≤ 4096 ∧ 1 ≤ q.1 ∧ q.1 ≤ 8 ∧ s.1.length ≤ b.length := by
  obtain ⟨s1, s2, s3⟩ := s
  obtain ⟨q1, q2, q3⟩ := q
  obtain ⟨p1, p2, p3⟩ := p
  simp only at h1 h2 h3 h4 ⊢
  obtain ⟨rfl, _⟩ := end_zero h4
  obtain ⟨x, l1, a1, a2, a3, a4, a5⟩ := text_zero h3
  obtain ⟨rfl, _, _, _⟩ := within_zero a1
  obtain ⟨rfl, b1, b2, _⟩ := within_zero h2
  obtain ⟨_, c1, c2, _⟩ := within_zero h1
  refine ⟨c1, c2, b1, b2, ?_⟩
  have e1 := (withinSt_suf 1 4096 b 0).length_le
  have e2 := (withinSt_suf 1 8 p2 0).length_le
  have e3 := (withinSt_suf 0 281474976710656 q2 0).length_le
  rw [h1] at e1; rw [h2] at e2; rw [a1] at e3
  simp only at e1 e2 e3
  rw [a2, List.length_take]; omega
theorem ba_size (s : List UInt8) : (ByteArray.mk s.toArray).size = s.length := by simp [ByteArray.size]
theorem top_iff {p : Int} {s : List UInt8} (h1 : 1 ≤ p) (hl : s.length = (p.toNat + 7) / 8) : ∃ hk : (((ByteArray.mk s.toArray).size : Int) - 1).toNat < (ByteArray.mk s.toArray).data.toList.length,
    (topBad p s ↔ (p % 8 > 0 ∧ (((ByteArray.mk s.toArray).data.toList[(((ByteArray.mk s.toArray).size : Int) - 1).toNat].toNat : Nat) : Int) / 2 ^ min (p % 8).toNat IntKind.u8.bits > 0)) := by
  obtain ⟨n, rfl⟩ := Int.eq_ofNat_of_zero_le (show 0 ≤ p by omega)
  have h0 : 0 < s.length := by omega
  have e1 : (((ByteArray.mk s.toArray).size : Int) - 1).toNat = s.length - 1 := by rw [ba_size]; omega
  refine ⟨by rw [e1]; show s.length - 1 < s.length; omega, ?_⟩
  have e2 : ((n : Int) % 8).toNat = n % 8 := by omega
  have e3 : min (n % 8) IntKind.u8.bits = n % 8 := by show min (n % 8) 8 = _; omega
  have e4 : ∀ hk, (ByteArray.mk s.toArray).data.toList[(((ByteArray.mk s.toArray).size : Int) - 1).toNat]'hk = s.getD (s.length - 1) 0 := by
    intro hk
    simp only [e1]
    rw [List.getD_eq_getElem?_getD, List.getElem?_eq_getElem (by omega)]; rfl
  rw [e4, e2, e3]
  unfold topBad
  rw [Int.toNat_natCast]
  rw [show ((2 : Int) ^ (n % 8)) = ((2 ^ (n % 8) : Nat) : Int) by simp, ← Int.natCast_ediv]
  omega
theorem bl_Read_no (b : List UInt8) (hb : b.length ≤ 1000000) (seed : Int) {x : Int × Int × List UInt8} {e : Int} (h : rdBl b = (x, e)) (he : e ≠ 0) : Fn Try.prog 23 [bytesB b, iC .u64 seed] (.tup2 (.per (rawP (.pointer none))) (inR e)) := by
  dsimp only [rdBl] at h
  have h1 := r_Within b 0 1 4096
  generalize hp : withinSt 1 4096 b 0 = p at *
  have h2 := r_Within p.2.1 p.2.2 1 8
  generalize hq : withinSt 1 8 p.2.1 p.2.2 = q at *
  have h3 := r_Text q.2.1 q.2.2 281474976710656
  generalize hs : textSt 281474976710656 q.2.1 q.2.2 = s at *
  have h4 := r_End s.2.1 s.2.2
  generalize hE : endSt s.2.1 s.2.2 = v at *
  by_cases hv : v = 0
  · subst hv
    obtain ⟨a1, a2, a3, a4, a5⟩ := rd_parts hp hq hs hE
    clear hp hq hs hE
    have h5 := bl_New p.1 q.1 seed a1 a2 a3 a4
    have hSz := ba_size s.1
    rw [if_neg (by simp)] at h
    split at h
    · exact absurd (congrArg Prod.snd h).symm he
    · rename_i hno
      obtain rfl : (11 : Int) = e := congrArg Prod.snd h
      clear h
      by_cases hlen : s.1.length = (p.1.toNat + 7) / 8
      · obtain ⟨hk, hT⟩ := top_iff a1 hlen
        have hT := hT.1 (Decidable.of_not_not fun q => hno ⟨hlen, q⟩)
        generalize hZ : (((ByteArray.mk s.1.toArray).data.toList[(((ByteArray.mk s.1.toArray).size : Int) - 1).toNat]'hk).toNat : Int) / 2 ^ min (p.1 % 8).toNat IntKind.u8.bits = Z at *
        clear hno
        refine fn_intro Try.func23 rfl (by kernel_rfl) Try.ntmps23 (Nat.le_of_ble_eq_true rfl) ?_
        (repeat' (first | refine AW_seq ?_ | refine AW_block ?_ | refine AW_skip ?_ | refine AW_exit ?_ | refine AW_ret ?_ | refine AW_region ?_ | refine AW_draw mixed0 ?_ | refine AL_nil ?_ | refine AD_nil (by kernel_rfl) ?_ | (refine AW_cl rfl rfl ⟨fun hc => ?_, fun hc => ?_⟩ <;> (repeat rw [List.length_map] at hc) <;> (try exact absd hc)) | ((first | apply AL_t rfl | apply AL_0 rfl | apply AD_t rfl | apply AD_0 rfl); focus (first | ((apply u_k 13; (focus rfl); exact u_sindexZ ⟨rfl, rfl, rfl⟩ rfl inferInstance rfl rfl (by omega) hk)) | (apply u_g; (focus rfl); apply op_gyes rfl rfl rfl rfl rfl; ((apply u_k 13; (focus rfl); exact u_sindexZ ⟨rfl, rfl, rfl⟩ rfl inferInstance rfl rfl (by omega) hk))) | ((exact op_shrB ⟨rfl, rfl, rfl⟩ rfl rfl rfl (by omega) hZ)) | (apply u_g; (focus rfl); apply op_gyes rfl rfl rfl rfl rfl; ((exact op_shrB ⟨rfl, rfl, rfl⟩ rfl rfl rfl (by omega) hZ))) | exact z_auto | exact c_NA (v_New b (by omega)) | exact c_RA (h1) | exact c_RA (h2) | exact c_RA (h3) | exact c_RA (h4) | exact c_MA [(3000, 650), (3001, 651)] (h5) | fail)) | refine thenA_n ?_ | refine thenA_r ?_ | refine thenA_e ?_ | refine inB_n ?_ | refine inB_r ?_ | refine inB_hit ?_ | refine inB_miss rfl ?_ | ((first | refine AL_cl rfl rfl rfl ⟨fun hc => ?_, fun hc => ?_⟩ | refine AD_cl rfl rfl rfl ⟨fun hc => ?_, fun hc => ?_⟩) <;> (fail_if_success (have q : (true = true) := hc)) <;> (fail_if_success (have q : (false = false) := hc)) <;> (repeat rw [List.length_map] at hc) <;> (try exact absd hc)) | refine AW_cond_nil rfl rfl (fun hc => ?_) ?_))
        (refine ⟨(by first | exact .inl rfl | exact .inr rfl), res2 rfl ?_ ?_⟩)
        · exact rv_per rfl
        · exact rv_int rfl rfl
      · clear hno
        refine fn_intro Try.func23 rfl (by kernel_rfl) Try.ntmps23 (Nat.le_of_ble_eq_true rfl) ?_
        (repeat' (first | refine AW_seq ?_ | refine AW_block ?_ | refine AW_skip ?_ | refine AW_exit ?_ | refine AW_ret ?_ | refine AW_region ?_ | refine AW_draw mixed0 ?_ | refine AL_nil ?_ | refine AD_nil (by kernel_rfl) ?_ | (refine AW_cl rfl rfl ⟨fun hc => ?_, fun hc => ?_⟩ <;> (repeat rw [List.length_map] at hc) <;> (try exact absd hc)) | ((first | apply AL_t rfl | apply AL_0 rfl | apply AD_t rfl | apply AD_0 rfl); focus (first | exact z_auto | exact c_NA (v_New b (by omega)) | exact c_RA (h1) | exact c_RA (h2) | exact c_RA (h3) | exact c_RA (h4) | exact c_MA [(3000, 650), (3001, 651)] (h5) | fail)) | refine thenA_n ?_ | refine thenA_r ?_ | refine thenA_e ?_ | refine inB_n ?_ | refine inB_r ?_ | refine inB_hit ?_ | refine inB_miss rfl ?_ | ((first | refine AL_cl rfl rfl rfl ⟨fun hc => ?_, fun hc => ?_⟩ | refine AD_cl rfl rfl rfl ⟨fun hc => ?_, fun hc => ?_⟩) <;> (fail_if_success (have q : (true = true) := hc)) <;> (fail_if_success (have q : (false = false) := hc)) <;> (repeat rw [List.length_map] at hc) <;> (try exact absd hc)) | refine AW_cond_nil rfl rfl (fun hc => ?_) ?_))
        · (refine ⟨(by first | exact .inl rfl | exact .inr rfl), res2 rfl ?_ ?_⟩)
          · exact rv_per rfl
          · exact rv_int rfl rfl
        all_goals (exfalso; simp only [List.length_replicate] at *; omega)
  · rw [if_pos hv] at h
    obtain rfl : v = e := congrArg Prod.snd h
    refine fn_intro Try.func23 rfl (by kernel_rfl) Try.ntmps23 (Nat.le_of_ble_eq_true rfl) ?_
    (repeat' (first | refine AW_seq ?_ | refine AW_block ?_ | refine AW_skip ?_ | refine AW_exit ?_ | refine AW_ret ?_ | refine AW_region ?_ | refine AW_draw mixed0 ?_ | refine AL_nil ?_ | refine AD_nil (by kernel_rfl) ?_ | (refine AW_cl rfl rfl ⟨fun hc => ?_, fun hc => ?_⟩ <;> (repeat rw [List.length_map] at hc) <;> (try exact absd hc)) | ((first | apply AL_t rfl | apply AL_0 rfl | apply AD_t rfl | apply AD_0 rfl); focus (first | exact z_auto | exact c_NA (v_New b (by omega)) | exact c_RA (h1) | exact c_RA (h2) | exact c_RA (h3) | exact c_RA (h4) | fail)) | refine thenA_n ?_ | refine thenA_r ?_ | refine thenA_e ?_ | refine inB_n ?_ | refine inB_r ?_ | refine inB_hit ?_ | refine inB_miss rfl ?_ | ((first | refine AL_cl rfl rfl rfl ⟨fun hc => ?_, fun hc => ?_⟩ | refine AD_cl rfl rfl rfl ⟨fun hc => ?_, fun hc => ?_⟩) <;> (fail_if_success (have q : (true = true) := hc)) <;> (fail_if_success (have q : (false = false) := hc)) <;> (repeat rw [List.length_map] at hc) <;> (try exact absd hc)) | refine AW_cond_nil rfl rfl (fun hc => ?_) ?_))
    (refine ⟨(by first | exact .inl rfl | exact .inr rfl), res2 rfl ?_ ?_⟩)
    · exact rv_per rfl
    · exact rv_int rfl rfl
theorem bl_Read_ok (b : List UInt8) (hb : b.length ≤ 1000000) (seed : Int) {bits probes : Int} {row : List UInt8} (h : rdBl b = ((bits, probes, row), 0)) :
    BlOk bits probes row ∧ Fn Try.prog 23 [bytesB b, iC .u64 seed] (.tup2 (.per (blP bits probes seed row)) (inR 0)) := by
  dsimp only [rdBl] at h
  have h1 := r_Within b 0 1 4096
  generalize hp : withinSt 1 4096 b 0 = p at *
  have h2 := r_Within p.2.1 p.2.2 1 8
  generalize hq : withinSt 1 8 p.2.1 p.2.2 = q at *
  have h3 := r_Text q.2.1 q.2.2 281474976710656
  generalize hs : textSt 281474976710656 q.2.1 q.2.2 = s at *
  have h4 := r_End s.2.1 s.2.2
  generalize hE : endSt s.2.1 s.2.2 = v at *
  by_cases hv : v = 0
  · subst hv
    obtain ⟨a1, a2, a3, a4, a5⟩ := rd_parts hp hq hs hE
    clear hp hq hs hE
    rw [if_neg (by simp)] at h
    split at h
    · rename_i hok
      obtain ⟨hlen, hnt⟩ := hok
      simp only [Prod.mk.injEq, and_true] at h
      obtain ⟨rfl, rfl, rfl⟩ := h
      have h5 := bl_New p.1 q.1 seed a1 a2 a3 a4
      have hSz := ba_size s.1
      refine ⟨⟨a1, a2, a3, a4, hlen⟩, ?_⟩
      obtain ⟨hk, hT⟩ := top_iff a1 hlen
      rw [hT] at hnt
      have hlz : (ByteArray.mk s.1.toArray).size = ((List.replicate ((p.1.toNat + 7) / 8) (0 : UInt8)).map byteP).length := by simp [hSz, hlen]
      have hl0 : 0 < ((List.replicate ((p.1.toNat + 7) / 8) (0 : UInt8)).map byteP).length := by simp; omega
      generalize hZ : (((ByteArray.mk s.1.toArray).data.toList[(((ByteArray.mk s.1.toArray).size : Int) - 1).toNat]'hk).toNat : Int) / 2 ^ min (p.1 % 8).toNat IntKind.u8.bits = Z at *
      clear hT
      refine fn_intro Try.func23 rfl (by kernel_rfl) Try.ntmps23 (Nat.le_of_ble_eq_true rfl) ?_
      (repeat' (first | refine AW_seq ?_ | refine AW_block ?_ | refine AW_skip ?_ | refine AW_exit ?_ | refine AW_ret ?_ | refine AW_region ?_ | refine AW_draw mixed0 ?_ | refine AL_nil ?_ | refine AD_nil (by kernel_rfl) ?_ | (refine AW_cl rfl rfl ⟨fun hc => ?_, fun hc => ?_⟩ <;> (repeat rw [List.length_map] at hc) <;> (try exact absd hc)) | ((first | apply AL_t rfl | apply AL_0 rfl | apply AD_t rfl | apply AD_0 rfl); focus (first | ((apply u_k 13; (focus rfl); exact u_sindexZ ⟨rfl, rfl, rfl⟩ rfl inferInstance rfl rfl (by omega) hk)) | (apply u_g; (focus rfl); apply op_gyes rfl rfl rfl rfl rfl; ((apply u_k 13; (focus rfl); exact u_sindexZ ⟨rfl, rfl, rfl⟩ rfl inferInstance rfl rfl (by omega) hk))) | ((exact op_shrB ⟨rfl, rfl, rfl⟩ rfl rfl rfl (by omega) hZ)) | (apply u_g; (focus rfl); apply op_gyes rfl rfl rfl rfl rfl; ((exact op_shrB ⟨rfl, rfl, rfl⟩ rfl rfl rfl (by omega) hZ))) | ((exact u_copyS ⟨rfl, rfl, rfl⟩ rfl inferInstance rfl rfl rfl rfl hlz hl0)) | (apply u_g; (focus rfl); apply op_gyes rfl rfl rfl rfl rfl; ((exact u_copyS ⟨rfl, rfl, rfl⟩ rfl inferInstance rfl rfl rfl rfl hlz hl0))) | exact z_auto | exact c_NA (v_New b (by omega)) | exact c_RA (h1) | exact c_RA (h2) | exact c_RA (h3) | exact c_RA (h4) | exact c_MA [(3000, 650), (3001, 651)] (h5) | fail)) | refine thenA_n ?_ | refine thenA_r ?_ | refine thenA_e ?_ | refine inB_n ?_ | refine inB_r ?_ | refine inB_hit ?_ | refine inB_miss rfl ?_ | ((first | refine AL_cl rfl rfl rfl ⟨fun hc => ?_, fun hc => ?_⟩ | refine AD_cl rfl rfl rfl ⟨fun hc => ?_, fun hc => ?_⟩) <;> (fail_if_success (have q : (true = true) := hc)) <;> (fail_if_success (have q : (false = false) := hc)) <;> (repeat rw [List.length_map] at hc) <;> (try exact absd hc)) | refine AW_cond_nil rfl rfl (fun hc => ?_) ?_))
      all_goals
        refine ⟨.inl rfl, ResO_le (Le_fz 651 _ 5 1 rfl rfl) (ResO_le (Le_fzB 650 _ _ rfl rfl rfl) (res2 rfl ?_ ?_))⟩
        · exact rv_per rfl
        · exact rv_int rfl rfl
    · exact absurd (congrArg Prod.snd h) (by simp)
  · rw [if_pos hv] at h
    exact absurd (congrArg Prod.snd h) hv
end
end Go.Proofs.Ytbpmafpmlapekaa
