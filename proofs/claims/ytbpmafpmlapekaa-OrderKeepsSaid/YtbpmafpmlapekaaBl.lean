/- Filters of bits: the program's way. -/
import Derived.Test.YtbpmafpmlapekaaAbsP
import Derived.Test.YtbpmafpmlapekaaBp
import Derived.Test.YtbpmafpmlapekaaRd
import Derived.Test.YtbpmafpmlapekaaBase
import Derived.Test.YtbpmafpmlapekaaVar
import Derived.Test.YtbpmafpmlapekaaByt
namespace Go.Proofs.Ytbpmafpmlapekaa
open Go.RowKit
theorem lst_bss {top N : BP} {l : List UInt8} {w : World} {v : Value} (h : lstAt top N 1 [[bysP l]] w v) : Bss w v [l] := by
  obtain ⟨ad, c, b, of, h1, h2, h3, h4, h5, h6⟩ := h
  obtain ⟨_, q⟩ := h6 0 [bysP l] rfl
  obtain ⟨y, r1, _, r3⟩ := q 0 (bysP l) rfl
  refine ⟨[y], rfl, ⟨ad, c, b, of, h1, h2, h3, fun h0 => (h5 h0).1, h4, fun i x hx j u hu => ?_⟩, fun i h h' => ?_⟩
  · cases i with
    | succ i => simp at hx
    | zero =>
      simp at hx; subst hx
      cases j with
      | succ j => simp [enc1] at hu
      | zero => simp [enc1] at hu; subst hu; exact r1
  · obtain rfl : i = 0 := by simp at h; omega
    exact lst_bs r3
theorem hash_Of (seed : Int) (l : List UInt8) : Fn Try.prog 105 [iC .u64 seed, .bor 1 [[bysP l]]] (.per (rawP (.int .u64 (hashOf seed l)))) := by
  refine ⟨⟨_, Try.func105, by kernel_rfl, by kernel_rfl⟩, fun N0 w vs _ ha => ?_⟩
  obtain ⟨v, u, rfl, h1, h2⟩ := args2 ha
  obtain rfl : v = .int .u64 seed := h1
  refine Calls.mono (hashOf_any seed u [l] w (lst_bss h2)) ?_
  rintro e w' ⟨rfl, rfl⟩
  exact ⟨_, rfl, Ext.refl _, by simp; rfl⟩
theorem ref_Of (seed : Int) (l : List UInt8) : Fn Try.prog 106 [iC .u64 seed, bytesB l] (.per (rawP (.int .u64 (hashOf seed l)))) := by
  refine ⟨⟨_, Try.func106, by kernel_rfl, by kernel_rfl⟩, fun N0 w vs _ ha => ?_⟩
  obtain ⟨v, u, rfl, h1, h2⟩ := args2 ha
  obtain rfl : v = .int .u64 seed := h1
  refine Calls.mono (refOf_any seed u l w (lst_bs h2)) ?_
  rintro e w' ⟨rfl, rfl⟩
  exact ⟨_, rfl, Ext.refl _, rfl⟩
/-- a filter that nobody turns -/
abbrev blP (bits probes seed : Int) (row : List UInt8) : PV := rptrP [rawP (.int .i64 bits), rawP (.int .i64 probes), rawP (.int .u64 seed), lstP 1 (row.map byteP)]
abbrev blBox (bits probes seed : Int) : Blk := .box 41 [iC .i64 bits, iC .i64 probes, iC .u64 seed, .row 1001 0]
abbrev blRow (row : List UInt8) : Blk := .row 5 1 (row.map byteP)
structure BlOk (bits probes : Int) (row : List UInt8) : Prop where
  b1 : 1 ≤ bits
  b2 : bits ≤ 4096
  p1 : 1 ≤ probes
  p2 : probes ≤ 8
  len : row.length = (bits.toNat + 7) / 8
theorem zeros_map (n : Nat) : List.replicate n [rawP (.int .u8 0)] = (List.replicate n (0 : UInt8)).map byteP := by
  rw [List.map_replicate]; rfl
theorem bhP_stop {row : List UInt8} {bits seed : Int} {l : List UInt8} {k q : Nat} (hk : k < q) (h : hasBit row (probeN bits seed l (k : Int)) = false) : bhP row bits seed l q = false := by
  rw [bhP, List.all_eq_false]
  exact ⟨k, List.mem_range.2 hk, by simp [h]⟩
theorem and_zero {row : List UInt8} {m : Nat} (h : m / 8 < row.length) : bits BinOp.and IntKind.u8 ((row[m / 8].toNat : Nat) : Int) ((2 ^ (m % 8) : Nat) : Int) = 0 ↔ hasBit row m = false := by
  rw [and_byte]
  unfold hasBit
  rw [List.getElem?_eq_getElem h, Option.getD_some]
  simp only [bne_eq_false_iff_eq]
  constructor
  · intro q; exact UInt8.toNat_inj.1 (by simpa using q)
  · intro q; rw [q]; rfl
theorem shl_bit {m : Nat} : IntKind.u8.wrap (1 * 2 ^ min (((m % 8 : Nat) : Int)).toNat IntKind.u8.bits) = ((2 ^ (m % 8) : Nat) : Int) := by
  rw [Int.toNat_natCast]
  have h : m % 8 < 8 := Nat.mod_lt _ (by decide)
  have : ∀ k : Fin 8, IntKind.u8.wrap (1 * 2 ^ min k.val IntKind.u8.bits) = ((2 ^ k.val : Nat) : Int) := by decide
  exact this ⟨m % 8, h⟩
theorem onesR_cons (x : UInt8) (l : List UInt8) : onesR (x :: l) = ones8 x + onesR l := by simp [onesR]
instance (b : Int) (s : List UInt8) : Decidable (topBad b s) := by unfold topBad; infer_instance
section
set_option maxRecDepth 10000
set_option maxHeartbeats 4000000
theorem bl_New_bad (bits probes seed : Int) (h : ¬ (1 ≤ bits ∧ bits ≤ 4096 ∧ 1 ≤ probes ∧ probes ≤ 8)) : Fn Try.prog 13 [iC .i64 bits, iC .i64 probes, iC .u64 seed] (.tup2 (.per (rawP (.pointer none))) (inR 2)) := by
  refine fn_intro Try.func13 rfl (by kernel_rfl) Try.ntmps13 (Nat.le_of_ble_eq_true rfl) ?_
  (repeat' (first | refine AW_seq ?_ | refine AW_block ?_ | refine AW_skip ?_ | refine AW_exit ?_ | refine AW_ret ?_ | refine AW_region ?_ | refine AW_draw mixed0 ?_ | refine AL_nil ?_ | refine AD_nil (by kernel_rfl) ?_ | (refine AW_cl rfl rfl ⟨fun hc => ?_, fun hc => ?_⟩ <;> (repeat rw [List.length_map] at hc) <;> (try exact absd hc)) | ((first | apply AL_t rfl | apply AL_0 rfl | apply AD_t rfl | apply AD_0 rfl); focus (first | ((exact u_mk (m := 0) ⟨rfl, rfl, rfl⟩ rfl inferInstance inferInstance rfl rfl rfl rfl (by omega) (by omega))) | (apply u_g; (focus rfl); apply op_gyes rfl rfl rfl rfl rfl; ((exact u_mk (m := 0) ⟨rfl, rfl, rfl⟩ rfl inferInstance inferInstance rfl rfl rfl rfl (by omega) (by omega)))) | exact z_auto | fail)) | refine thenA_n ?_ | refine thenA_r ?_ | refine thenA_e ?_ | refine inB_n ?_ | refine inB_r ?_ | refine inB_hit ?_ | refine inB_miss rfl ?_ | ((first | refine AL_cl rfl rfl rfl ⟨fun hc => ?_, fun hc => ?_⟩ | refine AD_cl rfl rfl rfl ⟨fun hc => ?_, fun hc => ?_⟩) <;> (fail_if_success (have q : (true = true) := hc)) <;> (fail_if_success (have q : (false = false) := hc)) <;> (repeat rw [List.length_map] at hc) <;> (try exact absd hc)) | refine AW_cond_nil rfl rfl (fun hc => ?_) ?_))
  all_goals (refine ⟨(by first | exact .inl rfl | exact .inr rfl), res2 rfl ?_ ?_⟩)
  all_goals first | exact rv_per rfl | exact rv_int rfl rfl
theorem bl_New (bits probes seed : Int) (h1 : 1 ≤ bits) (h2 : bits ≤ 4096) (h3 : 1 ≤ probes) (h4 : probes ≤ 8) :
    FnM Try.prog 13 [iC .i64 bits, iC .i64 probes, iC .u64 seed] [] (.tup2 (.ptr 3000 0 0) (iC .i64 0)) [(3000, .box 41 [iC .i64 bits, iC .i64 probes, iC .u64 seed, .row 3001 0]), (3001, blRow (List.replicate ((bits.toNat + 7) / 8) 0))] := by
  refine fnm_intro Try.func13 rfl (by kernel_rfl) Try.ntmps13 (Nat.le_of_ble_eq_true rfl) ?_
  (repeat' (first | refine AW_seq ?_ | refine AW_block ?_ | refine AW_skip ?_ | refine AW_exit ?_ | refine AW_ret ?_ | refine AW_region ?_ | refine AW_draw mixed0 ?_ | refine AL_nil ?_ | refine AD_nil (by kernel_rfl) ?_ | (refine AW_cl rfl rfl ⟨fun hc => ?_, fun hc => ?_⟩ <;> (repeat rw [List.length_map] at hc) <;> (try exact absd hc)) | ((first | apply AL_t rfl | apply AL_0 rfl | apply AD_t rfl | apply AD_0 rfl); focus (first | ((exact u_mk (m := (bits.toNat + 7) / 8) ⟨rfl, rfl, rfl⟩ rfl inferInstance inferInstance rfl rfl rfl rfl (by omega) (by omega))) | (apply u_g; (focus rfl); apply op_gyes rfl rfl rfl rfl rfl; ((exact u_mk (m := (bits.toNat + 7) / 8) ⟨rfl, rfl, rfl⟩ rfl inferInstance inferInstance rfl rfl rfl rfl (by omega) (by omega)))) | exact z_auto | fail)) | refine thenA_n ?_ | refine thenA_r ?_ | refine thenA_e ?_ | refine inB_n ?_ | refine inB_r ?_ | refine inB_hit ?_ | refine inB_miss rfl ?_ | ((first | refine AL_cl rfl rfl rfl ⟨fun hc => ?_, fun hc => ?_⟩ | refine AD_cl rfl rfl rfl ⟨fun hc => ?_, fun hc => ?_⟩) <;> (fail_if_success (have q : (true = true) := hc)) <;> (fail_if_success (have q : (false = false) := hc)) <;> (repeat rw [List.length_map] at hc) <;> (try exact absd hc)) | refine AW_cond_nil rfl rfl (fun hc => ?_) ?_))
  (refine ⟨(by first | exact .inl rfl | exact .inr rfl), resM2 [(31, 3000), (29, 3001)] rfl rfl ?_ ?_ ?_⟩; (focus (repeat (first | exact AllX.nil | (refine AllX.cons rfl ?_ ?_; (focus first | rfl | skip))))))
  · first | exact congrArg (Blk.row _ 1) (zeros_map _) | exact congrArg (Blk.row _ 1) (zeros_map _).symm
  · exact AllX.nil
  · exact rvm rfl rfl
  · exact rvm_int rfl rfl
theorem bl_bytes (r c : Int) (hr : okNum r) (hc : okNum c) : Fn Try.prog 60 [vrC r c] (ownB (verB r c)) := by
  have h := varint_Put [] [r, c] (by simp) (ok2 hr hc)
  rw [List.nil_append, verB_eq] at h
  refine fn_intro Try.func60 rfl (by kernel_rfl) Try.ntmps60 (Nat.le_of_ble_eq_true rfl) ?_
  (repeat' (first | refine AW_seq ?_ | refine AW_block ?_ | refine AW_skip ?_ | refine AW_exit ?_ | refine AW_ret ?_ | refine AW_region ?_ | refine AW_draw mixed0 ?_ | refine AL_nil ?_ | refine AD_nil (by kernel_rfl) ?_ | (refine AW_cl rfl rfl ⟨fun hc => ?_, fun hc => ?_⟩ <;> (repeat rw [List.length_map] at hc) <;> (try exact absd hc)) | ((first | apply AL_t rfl | apply AL_0 rfl | apply AD_t rfl | apply AD_0 rfl); focus (first | exact z_auto | exact c_A (h) | fail)) | refine thenA_n ?_ | refine thenA_r ?_ | refine thenA_e ?_ | refine inB_n ?_ | refine inB_r ?_ | refine inB_hit ?_ | refine inB_miss rfl ?_ | ((first | refine AL_cl rfl rfl rfl ⟨fun hc => ?_, fun hc => ?_⟩ | refine AD_cl rfl rfl rfl ⟨fun hc => ?_, fun hc => ?_⟩) <;> (fail_if_success (have q : (true = true) := hc)) <;> (fail_if_success (have q : (false = false) := hc)) <;> (repeat rw [List.length_map] at hc) <;> (try exact absd hc)) | refine AW_cond_nil rfl rfl (fun hc => ?_) ?_))
  (refine ⟨(by first | exact .inl rfl | exact .inr rfl), res1 rfl ?_⟩)
  exact rv_ownM rfl rfl rfl rfl
theorem bl_probe (bits probes seed : Int) (row l : List UInt8) (i : Nat) (hi : i ≤ 1000) (h1 : 1 ≤ bits) (h2 : bits ≤ 4096) :
    Fn Try.prog 61 [.per (blP bits probes seed row), .per (bysP l), iC .i64 (i : Nat)] (.tup2 (inR ((probeN bits seed l i / 8 : Nat) : Int)) (.per (rawP (.int .u8 ((2 ^ (probeN bits seed l i % 8) : Nat) : Int))))) := by
  have hlt := probeN_lt bits seed l i h1
  have hwi : IntKind.u64.wrap (i : Int) = (i : Int) := wrap_u64B (by omega) (by omega)
  have hH := hash_Of (IntKind.u64.wrap (seed + i)) l
  have hP : (hashOf (IntKind.u64.wrap (seed + i)) l).tmod bits = ((probeN bits seed l i : Nat) : Int) := by
    have hnn : 0 ≤ hashOf (IntKind.u64.wrap (seed + i)) l := by unfold hashOf fnvEnd; exact bits_nn _ _
    unfold probeN
    rw [hwi, Int.tmod_eq_emod_of_nonneg hnn, Int.toNat_of_nonneg (Int.emod_nonneg _ (by omega))]
  have hsh := @shl_bit (probeN bits seed l i)
  generalize hashOf (IntKind.u64.wrap (seed + i)) l = H at *
  generalize probeN bits seed l i = m at *
  have hm8 : ((m / 8 : Nat) : Int) = (m : Int) / 8 := by omega
  have hm9 : ((m % 8 : Nat) : Int) = (m : Int) % 8 := by omega
  rw [hm9] at hsh
  rw [hm8]
  refine fn_intro Try.func61 rfl (by kernel_rfl) Try.ntmps61 (Nat.le_of_ble_eq_true rfl) ?_
  (repeat' (first | refine AW_seq ?_ | refine AW_block ?_ | refine AW_skip ?_ | refine AW_exit ?_ | refine AW_ret ?_ | refine AW_region ?_ | refine AW_draw mixed0 ?_ | refine AL_nil ?_ | refine AD_nil (by kernel_rfl) ?_ | (refine AW_cl rfl rfl ⟨fun hc => ?_, fun hc => ?_⟩ <;> (repeat rw [List.length_map] at hc) <;> (try exact absd hc)) | ((first | apply AL_t rfl | apply AL_0 rfl | apply AD_t rfl | apply AD_0 rfl); focus (first | ((apply u_k 10; (focus rfl); exact u_conv ⟨rfl, rfl, rfl⟩ rfl inferInstance inferInstance rfl (by with_reducible exact wrap_u64B (by omega) (by omega)))) | (apply u_g; (focus rfl); apply op_gyes rfl rfl rfl rfl rfl; ((apply u_k 10; (focus rfl); exact u_conv ⟨rfl, rfl, rfl⟩ rfl inferInstance inferInstance rfl (by with_reducible exact wrap_u64B (by omega) (by omega))))) | ((apply u_k 8; (focus rfl); exact op_num ⟨rfl, rfl, rfl⟩ rfl rfl rfl rfl ((wrap_id64 (by omega) (by omega)).trans (by assumption)))) | (apply u_g; (focus rfl); apply op_gyes rfl rfl rfl rfl rfl; ((apply u_k 8; (focus rfl); exact op_num ⟨rfl, rfl, rfl⟩ rfl rfl rfl rfl ((wrap_id64 (by omega) (by omega)).trans (by assumption))))) | ((exact op_rem ⟨rfl, rfl, rfl⟩ rfl rfl rfl (by omega) hP)) | (apply u_g; (focus rfl); apply op_gyes rfl rfl rfl rfl rfl; ((exact op_rem ⟨rfl, rfl, rfl⟩ rfl rfl rfl (by omega) hP))) | ((exact op_shl ⟨rfl, rfl, rfl⟩ rfl rfl rfl (by omega) hsh)) | (apply u_g; (focus rfl); apply op_gyes rfl rfl rfl rfl rfl; ((exact op_shl ⟨rfl, rfl, rfl⟩ rfl rfl rfl (by omega) hsh))) | exact z_auto | exact c_A (hH) | fail)) | refine thenA_n ?_ | refine thenA_r ?_ | refine thenA_e ?_ | refine inB_n ?_ | refine inB_r ?_ | refine inB_hit ?_ | refine inB_miss rfl ?_ | ((first | refine AL_cl rfl rfl rfl ⟨fun hc => ?_, fun hc => ?_⟩ | refine AD_cl rfl rfl rfl ⟨fun hc => ?_, fun hc => ?_⟩) <;> (fail_if_success (have q : (true = true) := hc)) <;> (fail_if_success (have q : (false = false) := hc)) <;> (repeat rw [List.length_map] at hc) <;> (try exact absd hc)) | refine AW_cond_nil rfl rfl (fun hc => ?_) ?_))
  (refine ⟨(by first | exact .inl rfl | exact .inr rfl), res2 rfl ?_ ?_⟩)
  · exact rv_int rfl rfl
  · exact rv_int rfl rfl
theorem bl_Has (bits probes seed : Int) (row : List UInt8) (hb : BlOk bits probes row) (r c : Int) : Fn Try.prog 15 [.per (blP bits probes seed row), vrC r c] (boR (hasV row bits probes seed r c)) := by
  obtain ⟨b1, b2, p1, p2, hlen⟩ := hb
  have h1 := ver_Right r c
  cases hr : verR r c with
  | false =>
    rw [hr] at h1
    rw [show hasV row bits probes seed r c = false by unfold hasV; rw [hr]; rfl]
    refine fn_intro Try.func15 rfl (by kernel_rfl) Try.ntmps15 (Nat.le_of_ble_eq_true rfl) ?_
    (repeat' (first | refine AW_seq ?_ | refine AW_block ?_ | refine AW_skip ?_ | refine AW_exit ?_ | refine AW_ret ?_ | refine AW_region ?_ | refine AW_draw mixed0 ?_ | refine AL_nil ?_ | refine AD_nil (by kernel_rfl) ?_ | (refine AW_cl rfl rfl ⟨fun hc => ?_, fun hc => ?_⟩ <;> (repeat rw [List.length_map] at hc) <;> (try exact absd hc)) | ((first | apply AL_t rfl | apply AL_0 rfl | apply AD_t rfl | apply AD_0 rfl); focus (first | exact z_auto | exact c_A (h1) | fail)) | refine thenA_n ?_ | refine thenA_r ?_ | refine thenA_e ?_ | refine inB_n ?_ | refine inB_r ?_ | refine inB_hit ?_ | refine inB_miss rfl ?_ | ((first | refine AL_cl rfl rfl rfl ⟨fun hc => ?_, fun hc => ?_⟩ | refine AD_cl rfl rfl rfl ⟨fun hc => ?_, fun hc => ?_⟩) <;> (fail_if_success (have q : (true = true) := hc)) <;> (fail_if_success (have q : (false = false) := hc)) <;> (repeat rw [List.length_map] at hc) <;> (try exact absd hc)) | refine AW_cond_nil rfl rfl (fun hc => ?_) ?_))
    (refine ⟨(by first | exact .inl rfl | exact .inr rfl), res1 rfl ?_⟩)
    exact rv_bool rfl rfl
  | true =>
    rw [hr] at h1
    obtain ⟨o1, o2⟩ := ok_ver hr
    have h2 := (bl_bytes r c o1 o2).frz
    rw [show hasV row bits probes seed r c = bhP row bits seed (verB r c) probes.toNat by unfold hasV; rw [hr]; rfl]
    generalize verB r c = l at *
    refine fn_intro Try.func15 rfl (by kernel_rfl) Try.ntmps15 (Nat.le_of_ble_eq_true rfl) ?_
    (repeat' (first | refine AW_seq ?_ | refine AW_block ?_ | refine AW_skip ?_ | refine AW_exit ?_ | refine AW_ret ?_ | refine AW_region ?_ | refine AW_draw mixed0 ?_ | refine AL_nil ?_ | refine AD_nil (by kernel_rfl) ?_ | (refine AW_cl rfl rfl ⟨fun hc => ?_, fun hc => ?_⟩ <;> (repeat rw [List.length_map] at hc) <;> (try exact absd hc)) | ((first | apply AL_t rfl | apply AL_0 rfl | apply AD_t rfl | apply AD_0 rfl); focus (first | exact z_auto | exact c_A (h1) | exact c_A (h2) | fail)) | refine thenA_n ?_ | refine thenA_r ?_ | refine thenA_e ?_ | refine inB_n ?_ | refine inB_r ?_ | refine inB_hit ?_ | refine inB_miss rfl ?_ | ((first | refine AL_cl rfl rfl rfl ⟨fun hc => ?_, fun hc => ?_⟩ | refine AD_cl rfl rfl rfl ⟨fun hc => ?_, fun hc => ?_⟩) <;> (fail_if_success (have q : (true = true) := hc)) <;> (fail_if_success (have q : (false = false) := hc)) <;> (repeat rw [List.length_map] at hc) <;> (try exact absd hc)) | refine AW_cond_nil rfl rfl (fun hc => ?_) ?_))
    refine AW_loopP (X := Nat) (fun k => (k : Int) ≤ probes ∧ bhP row bits seed l k = true)
      (fun k => mkSt [(0, .per (blP bits probes seed row)), (5, .per (bysP l)), (28, iC .i64 probes), (29, iC .i64 (k : Nat))] []) (fun k => probes.toNat - k) 0 ⟨by omega, rfl⟩ ?_ ?_
    · exact le_auto
    · rintro k ⟨hk, hP⟩
      by_cases hlt : (k : Int) < probes
      · have h3 := bl_probe bits probes seed row l k (by omega) b1 b2
        have hml := probeN_lt bits seed l k b1
        have hs1 := bhP_succ row bits seed l k
        have hs2 := @bhP_stop row bits seed l k probes.toNat (by omega)
        rw [hP, Bool.true_and] at hs1
        generalize probeN bits seed l k = m at *
        have hm8 : m / 8 < row.length := by omega
        have haz := and_zero hm8
        clear h1 h2 hP
        (repeat' (first | refine AW_seq ?_ | refine AW_block ?_ | refine AW_skip ?_ | refine AW_exit ?_ | refine AW_ret ?_ | refine AW_region ?_ | refine AW_draw mixed0 ?_ | refine AL_nil ?_ | refine AD_nil (by kernel_rfl) ?_ | (refine AW_cl rfl rfl ⟨fun hc => ?_, fun hc => ?_⟩ <;> (repeat rw [List.length_map] at hc) <;> (try exact absd hc)) | ((first | apply AL_t rfl | apply AL_0 rfl | apply AD_t rfl | apply AD_0 rfl); focus (first | ((exact op_and ⟨rfl, rfl, rfl⟩ rfl rfl rfl rfl)) | (apply u_g; (focus rfl); apply op_gyes rfl rfl rfl rfl rfl; ((exact op_and ⟨rfl, rfl, rfl⟩ rfl rfl rfl rfl))) | exact z_auto | exact c_A (h3) | fail)) | refine thenA_n ?_ | refine thenA_r ?_ | refine thenA_e ?_ | refine inB_n ?_ | refine inB_r ?_ | refine inB_hit ?_ | refine inB_miss rfl ?_ | ((first | refine AL_cl rfl rfl rfl ⟨fun hc => ?_, fun hc => ?_⟩ | refine AD_cl rfl rfl rfl ⟨fun hc => ?_, fun hc => ?_⟩) <;> (fail_if_success (have q : (true = true) := hc)) <;> (fail_if_success (have q : (false = false) := hc)) <;> (repeat rw [List.length_map] at hc) <;> (try exact absd hc)) | refine AW_cond_nil rfl rfl (fun hc => ?_) ?_))
        · rw [hs2 (haz.1 hc)]
          (refine ⟨(by first | exact .inl rfl | exact .inr rfl), res1 rfl ?_⟩)
          exact rv_bool rfl rfl
        · have hm1 : hasBit row m = true := by
            cases hh : hasBit row m with
            | true => rfl
            | false => exact absurd (haz.2 hh) hc
          rw [hm1] at hs1
          refine ⟨k + 1, ⟨by omega, hs1⟩, by omega, ?_⟩
          exact le_auto
      · have hkp : probes.toNat = k := by omega
        rw [hkp, hP]
        (repeat' (first | refine AW_seq ?_ | refine AW_block ?_ | refine AW_skip ?_ | refine AW_exit ?_ | refine AW_ret ?_ | refine AW_region ?_ | refine AW_draw mixed0 ?_ | refine AL_nil ?_ | refine AD_nil (by kernel_rfl) ?_ | (refine AW_cl rfl rfl ⟨fun hc => ?_, fun hc => ?_⟩ <;> (repeat rw [List.length_map] at hc) <;> (try exact absd hc)) | ((first | apply AL_t rfl | apply AL_0 rfl | apply AD_t rfl | apply AD_0 rfl); focus (first | exact z_auto | fail)) | refine thenA_n ?_ | refine thenA_r ?_ | refine thenA_e ?_ | refine inB_n ?_ | refine inB_r ?_ | refine inB_hit ?_ | refine inB_miss rfl ?_ | ((first | refine AL_cl rfl rfl rfl ⟨fun hc => ?_, fun hc => ?_⟩ | refine AD_cl rfl rfl rfl ⟨fun hc => ?_, fun hc => ?_⟩) <;> (fail_if_success (have q : (true = true) := hc)) <;> (fail_if_success (have q : (false = false) := hc)) <;> (repeat rw [List.length_map] at hc) <;> (try exact absd hc)) | refine AW_cond_nil rfl rfl (fun hc => ?_) ?_))
        (refine ⟨(by first | exact .inl rfl | exact .inr rfl), res1 rfl ?_⟩)
        exact rv_bool rfl rfl
abbrev vsB (vs : List (Int × Int)) : Cnt := .bor 2 (vs.map fun v => vrP v.1 v.2)
theorem bl_Add (bits probes seed : Int) (row : List UInt8) (hb : BlOk bits probes row) (vs : List (Int × Int)) (hvs : vs.length ≤ 1000000000) :
    FnM Try.prog 17 [.ptr 1000 0 0, vsB vs] [(1000, blBox bits probes seed), (1001, blRow row)] .any [(1000, blBox bits probes seed), (1001, blRow (addAll row bits probes seed vs))] := by
  obtain ⟨b1, b2, p1, p2, hlen⟩ := hb
  generalize hR : addAll row bits probes seed vs = R
  refine fnm_intro Try.func17 rfl (by kernel_rfl) Try.ntmps17 (Nat.le_of_ble_eq_true rfl) ?_
  (repeat' (first | refine AW_seq ?_ | refine AW_block ?_ | refine AW_skip ?_ | refine AW_exit ?_ | refine AW_ret ?_ | refine AW_region ?_ | refine AW_draw mixed0 ?_ | refine AL_nil ?_ | refine AD_nil (by kernel_rfl) ?_ | (refine AW_cl rfl rfl ⟨fun hc => ?_, fun hc => ?_⟩ <;> (repeat rw [List.length_map] at hc) <;> (try exact absd hc)) | ((first | apply AL_t rfl | apply AL_0 rfl | apply AD_t rfl | apply AD_0 rfl); focus (first | exact z_auto | fail)) | refine thenA_n ?_ | refine thenA_r ?_ | refine thenA_e ?_ | refine inB_n ?_ | refine inB_r ?_ | refine inB_hit ?_ | refine inB_miss rfl ?_ | ((first | refine AL_cl rfl rfl rfl ⟨fun hc => ?_, fun hc => ?_⟩ | refine AD_cl rfl rfl rfl ⟨fun hc => ?_, fun hc => ?_⟩) <;> (fail_if_success (have q : (true = true) := hc)) <;> (fail_if_success (have q : (false = false) := hc)) <;> (repeat rw [List.length_map] at hc) <;> (try exact absd hc)) | refine AW_cond_nil rfl rfl (fun hc => ?_) ?_))
  refine AW_loopP (X := Nat × List UInt8) (fun x => x.1 ≤ vs.length ∧ x.2.length = (bits.toNat + 7) / 8 ∧ addAll x.2 bits probes seed (vs.drop x.1) = R)
    (fun x => mkSt [(0, .ptr 1000 0 0), (12, vsB vs), (13, iC .i64 (vs.length : Nat)), (14, iC .i64 (x.1 : Nat))] [(1000, blBox bits probes seed), (1001, blRow x.2)]) (fun x => vs.length - x.1) (0, row) ⟨Nat.zero_le _, hlen, hR⟩ ?_ ?_
  · exact le_auto
  · rintro ⟨i, rw0⟩ ⟨g1, g2, g3⟩
    simp only at g1 g2 g3 ⊢
    by_cases hi : i < vs.length
    · rw [List.drop_eq_getElem_cons hi] at g3
      have h1 := ver_Right vs[i].1 vs[i].2
      cases hr : verR vs[i].1 vs[i].2 with
      | false =>
        rw [hr] at h1
        have g4 : addAll rw0 bits probes seed (vs.drop (i + 1)) = R := by
          rw [← g3]; simp only [addAll, List.foldl_cons]; rw [addV, if_neg (by rw [hr]; simp)]
        clear g3
        (repeat' (first | refine AW_seq ?_ | refine AW_block ?_ | refine AW_skip ?_ | refine AW_exit ?_ | refine AW_ret ?_ | refine AW_region ?_ | refine AW_draw mixed0 ?_ | refine AL_nil ?_ | refine AD_nil (by kernel_rfl) ?_ | (refine AW_cl rfl rfl ⟨fun hc => ?_, fun hc => ?_⟩ <;> (repeat rw [List.length_map] at hc) <;> (try exact absd hc)) | ((first | apply AL_t rfl | apply AL_0 rfl | apply AD_t rfl | apply AD_0 rfl); focus (first | exact z_auto | exact c_A (h1) | fail)) | refine thenA_n ?_ | refine thenA_r ?_ | refine thenA_e ?_ | refine inB_n ?_ | refine inB_r ?_ | refine inB_hit ?_ | refine inB_miss rfl ?_ | ((first | refine AL_cl rfl rfl rfl ⟨fun hc => ?_, fun hc => ?_⟩ | refine AD_cl rfl rfl rfl ⟨fun hc => ?_, fun hc => ?_⟩) <;> (fail_if_success (have q : (true = true) := hc)) <;> (fail_if_success (have q : (false = false) := hc)) <;> (repeat rw [List.length_map] at hc) <;> (try exact absd hc)) | refine AW_cond_nil rfl rfl (fun hc => ?_) ?_))
        refine ⟨(i + 1, rw0), ⟨by simp only; omega, g2, g4⟩, by simp only; omega, ?_⟩
        exact le_auto
      | true =>
        rw [hr] at h1
        obtain ⟨o1, o2⟩ := ok_ver hr
        have h2 := (bl_bytes vs[i].1 vs[i].2 o1 o2).frz
        have g4 : addAll (addP rw0 bits seed (verB vs[i].1 vs[i].2) probes.toNat) bits probes seed (vs.drop (i + 1)) = R := by
          rw [← g3]; simp only [addAll, List.foldl_cons]; rw [addV, if_pos hr]
        generalize verB vs[i].1 vs[i].2 = l at *
        clear g3
        (repeat' (first | refine AW_seq ?_ | refine AW_block ?_ | refine AW_skip ?_ | refine AW_exit ?_ | refine AW_ret ?_ | refine AW_region ?_ | refine AW_draw mixed0 ?_ | refine AL_nil ?_ | refine AD_nil (by kernel_rfl) ?_ | (refine AW_cl rfl rfl ⟨fun hc => ?_, fun hc => ?_⟩ <;> (repeat rw [List.length_map] at hc) <;> (try exact absd hc)) | ((first | apply AL_t rfl | apply AL_0 rfl | apply AD_t rfl | apply AD_0 rfl); focus (first | exact z_auto | exact c_A (h1) | exact c_A (h2) | fail)) | refine thenA_n ?_ | refine thenA_r ?_ | refine thenA_e ?_ | refine inB_n ?_ | refine inB_r ?_ | refine inB_hit ?_ | refine inB_miss rfl ?_ | ((first | refine AL_cl rfl rfl rfl ⟨fun hc => ?_, fun hc => ?_⟩ | refine AD_cl rfl rfl rfl ⟨fun hc => ?_, fun hc => ?_⟩) <;> (fail_if_success (have q : (true = true) := hc)) <;> (fail_if_success (have q : (false = false) := hc)) <;> (repeat rw [List.length_map] at hc) <;> (try exact absd hc)) | refine AW_cond_nil rfl rfl (fun hc => ?_) ?_))
        refine AW_loopP (X := Nat) (fun k => (k : Int) ≤ probes)
          (fun k => mkSt [(0, .ptr 1000 0 0), (6, .per (bysP l)), (12, vsB vs), (13, iC .i64 (vs.length : Nat)), (14, iC .i64 (i : Nat)), (26, iC .i64 probes), (27, iC .i64 (k : Nat))] [(1000, blBox bits probes seed), (1001, blRow (addP rw0 bits seed l k))]) (fun k => probes.toNat - k) 0 (by omega) ?_ ?_
        · exact le_auto
        · rintro k hk
          have hpl : (addP rw0 bits seed l k).length = (bits.toNat + 7) / 8 := by rw [addP_len, g2]
          by_cases hlt : (k : Int) < probes
          · have h3 := bl_probe bits probes seed (addP rw0 bits seed l k) l k (by omega) b1 b2
            have hml := probeN_lt bits seed l k b1
            have hs1 := addP_succ rw0 bits seed l k
            generalize probeN bits seed l k = m at *
            generalize addP rw0 bits seed l k = rk at *
            have hm8 : m / 8 < rk.length := by omega
            have HJ : (rk.map byteP)[m / 8]? = some (byteP rk[m / 8]) := by rw [List.getElem?_map, List.getElem?_eq_getElem hm8]; rfl
            have hor := or_byte rk[m / 8] m
            have HS : (rk.map byteP).set (m / 8) (setP (byteP rk[m / 8]) 0 (byteP (rk[m / 8] ||| bitOf m))) = (addBit rk m).map byteP := by
              unfold addBit
              rw [List.map_set, List.getElem?_eq_getElem hm8]; rfl
            generalize rk[m / 8] = x at *
            clear h1 h2 g4
            (repeat' (first | refine AW_seq ?_ | refine AW_block ?_ | refine AW_skip ?_ | refine AW_exit ?_ | refine AW_ret ?_ | refine AW_region ?_ | refine AW_draw mixed0 ?_ | refine AL_nil ?_ | refine AD_nil (by kernel_rfl) ?_ | (refine AW_cl rfl rfl ⟨fun hc => ?_, fun hc => ?_⟩ <;> (repeat rw [List.length_map] at hc) <;> (try exact absd hc)) | ((first | apply AL_t rfl | apply AL_0 rfl | apply AD_t rfl | apply AD_0 rfl); focus (first | ((exact op_or ⟨rfl, rfl, rfl⟩ rfl rfl rfl hor)) | (apply u_g; (focus rfl); apply op_gyes rfl rfl rfl rfl rfl; ((exact op_or ⟨rfl, rfl, rfl⟩ rfl rfl rfl hor))) | exact z_auto | ((refine c_P (ids := [1000, 1001]) (h3) (hg := ?_); ((repeat (first | exact GPl.nil | (refine GPl.cons ?_ ?_; focus (first | exact gpq_per rfl | exact gpq_lst rfl | exact gpq_bor rfl | exact gpq_row rfl rfl rfl | (refine gpq_box rfl rfl rfl rfl ?_; (focus (repeat (first | exact SeesL.nil | (refine SeesL.cons ?_ ?_; (focus (first | exact Sees.per | exact Sees.row rfl rfl rfl))))))) | exact gpq_rows rfl rfl rfl rfl)))); done))) | (apply u_g; (focus rfl); apply op_gyes rfl rfl rfl rfl rfl; ((refine c_P (ids := [1000, 1001]) (h3) (hg := ?_); ((repeat (first | exact GPl.nil | (refine GPl.cons ?_ ?_; focus (first | exact gpq_per rfl | exact gpq_lst rfl | exact gpq_bor rfl | exact gpq_row rfl rfl rfl | (refine gpq_box rfl rfl rfl rfl ?_; (focus (repeat (first | exact SeesL.nil | (refine SeesL.cons ?_ ?_; (focus (first | exact Sees.per | exact Sees.row rfl rfl rfl))))))) | exact gpq_rows rfl rfl rfl rfl)))); done)))) | ((apply u_k 5; (focus rfl); exact u_load_r1 ⟨rfl, rfl, rfl⟩ rfl inferInstance rfl rfl rfl HJ rfl)) | (apply u_g; (focus rfl); apply op_gyes rfl rfl rfl rfl rfl; ((apply u_k 5; (focus rfl); exact u_load_r1 ⟨rfl, rfl, rfl⟩ rfl inferInstance rfl rfl rfl HJ rfl))) | ((apply u_k 6; (focus rfl); exact u_store_r ⟨rfl, rfl⟩ rfl inferInstance rfl rfl rfl rfl HJ rfl (part_raw rfl rfl rfl) rfl HS)) | (apply u_g; (focus rfl); apply op_gyes rfl rfl rfl rfl rfl; ((apply u_k 6; (focus rfl); exact u_store_r ⟨rfl, rfl⟩ rfl inferInstance rfl rfl rfl rfl HJ rfl (part_raw rfl rfl rfl) rfl HS))) | fail)) | refine thenA_n ?_ | refine thenA_r ?_ | refine thenA_e ?_ | refine inB_n ?_ | refine inB_r ?_ | refine inB_hit ?_ | refine inB_miss rfl ?_ | ((first | refine AL_cl rfl rfl rfl ⟨fun hc => ?_, fun hc => ?_⟩ | refine AD_cl rfl rfl rfl ⟨fun hc => ?_, fun hc => ?_⟩) <;> (fail_if_success (have q : (true = true) := hc)) <;> (fail_if_success (have q : (false = false) := hc)) <;> (repeat rw [List.length_map] at hc) <;> (try exact absd hc)) | refine AW_cond_nil rfl rfl (fun hc => ?_) ?_))
            refine ⟨k + 1, by omega, by omega, ?_⟩
            rw [hs1]
            exact le_auto
          · have hkp : probes.toNat = k := by omega
            rw [hkp] at g4
            clear h1 h2
            (repeat' (first | refine AW_seq ?_ | refine AW_block ?_ | refine AW_skip ?_ | refine AW_exit ?_ | refine AW_ret ?_ | refine AW_region ?_ | refine AW_draw mixed0 ?_ | refine AL_nil ?_ | refine AD_nil (by kernel_rfl) ?_ | (refine AW_cl rfl rfl ⟨fun hc => ?_, fun hc => ?_⟩ <;> (repeat rw [List.length_map] at hc) <;> (try exact absd hc)) | ((first | apply AL_t rfl | apply AL_0 rfl | apply AD_t rfl | apply AD_0 rfl); focus (first | exact z_auto | fail)) | refine thenA_n ?_ | refine thenA_r ?_ | refine thenA_e ?_ | refine inB_n ?_ | refine inB_r ?_ | refine inB_hit ?_ | refine inB_miss rfl ?_ | ((first | refine AL_cl rfl rfl rfl ⟨fun hc => ?_, fun hc => ?_⟩ | refine AD_cl rfl rfl rfl ⟨fun hc => ?_, fun hc => ?_⟩) <;> (fail_if_success (have q : (true = true) := hc)) <;> (fail_if_success (have q : (false = false) := hc)) <;> (repeat rw [List.length_map] at hc) <;> (try exact absd hc)) | refine AW_cond_nil rfl rfl (fun hc => ?_) ?_))
            refine ⟨(i + 1, addP rw0 bits seed l k), ⟨by simp only; omega, hpl, g4⟩, by simp only; omega, ?_⟩
            exact le_auto
    · have hil : i = vs.length := by omega
      subst hil
      rw [List.drop_length] at g3
      have g3 : rw0 = R := g3
      subst g3
      (repeat' (first | refine AW_seq ?_ | refine AW_block ?_ | refine AW_skip ?_ | refine AW_exit ?_ | refine AW_ret ?_ | refine AW_region ?_ | refine AW_draw mixed0 ?_ | refine AL_nil ?_ | refine AD_nil (by kernel_rfl) ?_ | (refine AW_cl rfl rfl ⟨fun hc => ?_, fun hc => ?_⟩ <;> (repeat rw [List.length_map] at hc) <;> (try exact absd hc)) | ((first | apply AL_t rfl | apply AL_0 rfl | apply AD_t rfl | apply AD_0 rfl); focus (first | exact z_auto | fail)) | refine thenA_n ?_ | refine thenA_r ?_ | refine thenA_e ?_ | refine inB_n ?_ | refine inB_r ?_ | refine inB_hit ?_ | refine inB_miss rfl ?_ | ((first | refine AL_cl rfl rfl rfl ⟨fun hc => ?_, fun hc => ?_⟩ | refine AD_cl rfl rfl rfl ⟨fun hc => ?_, fun hc => ?_⟩) <;> (fail_if_success (have q : (true = true) := hc)) <;> (fail_if_success (have q : (false = false) := hc)) <;> (repeat rw [List.length_map] at hc) <;> (try exact absd hc)) | refine AW_cond_nil rfl rfl (fun hc => ?_) ?_))
      (refine ⟨(by first | exact .inl rfl | exact .inr rfl), resM0 [(1000, 1000), (1001, 1001)] rfl rfl ?_⟩; (focus (repeat (first | exact AllX.nil | (refine AllX.cons rfl ?_ ?_; (focus first | rfl | skip))))))
theorem bl_Ones (bits probes seed : Int) (row : List UInt8) (hl : row.length ≤ 1000000) : Fn Try.prog 19 [.per (blP bits probes seed row)] (inR ((onesR row : Nat) : Int)) := by
  have hon := onesR_le row
  generalize hN : onesR row = N at *
  refine fn_intro Try.func19 rfl (by kernel_rfl) Try.ntmps19 (Nat.le_of_ble_eq_true rfl) ?_
  (repeat' (first | refine AW_seq ?_ | refine AW_block ?_ | refine AW_skip ?_ | refine AW_exit ?_ | refine AW_ret ?_ | refine AW_region ?_ | refine AW_draw mixed0 ?_ | refine AL_nil ?_ | refine AD_nil (by kernel_rfl) ?_ | (refine AW_cl rfl rfl ⟨fun hc => ?_, fun hc => ?_⟩ <;> (repeat rw [List.length_map] at hc) <;> (try exact absd hc)) | ((first | apply AL_t rfl | apply AL_0 rfl | apply AD_t rfl | apply AD_0 rfl); focus (first | exact z_auto | fail)) | refine thenA_n ?_ | refine thenA_r ?_ | refine thenA_e ?_ | refine inB_n ?_ | refine inB_r ?_ | refine inB_hit ?_ | refine inB_miss rfl ?_ | ((first | refine AL_cl rfl rfl rfl ⟨fun hc => ?_, fun hc => ?_⟩ | refine AD_cl rfl rfl rfl ⟨fun hc => ?_, fun hc => ?_⟩) <;> (fail_if_success (have q : (true = true) := hc)) <;> (fail_if_success (have q : (false = false) := hc)) <;> (repeat rw [List.length_map] at hc) <;> (try exact absd hc)) | refine AW_cond_nil rfl rfl (fun hc => ?_) ?_))
  refine AW_loopP (X := Nat × Nat) (fun x => x.1 ≤ row.length ∧ x.2 + onesR (row.drop x.1) = N)
    (fun x => mkSt [(3, iC .i64 (x.2 : Nat)), (11, .per (bysP row)), (12, iC .i64 (row.length : Nat)), (13, iC .i64 (x.1 : Nat))] []) (fun x => row.length - x.1) (0, 0) ⟨Nat.zero_le _, by simp [hN]⟩ ?_ ?_
  · exact le_auto
  · rintro ⟨i, c⟩ ⟨g1, g2⟩
    simp only at g1 g2 ⊢
    by_cases hi : i < row.length
    · rw [List.drop_eq_getElem_cons hi] at g2
      have g3 : c + ones8 row[i] + onesR (row.drop (i + 1)) = N := by rw [← g2, onesR_cons]; omega
      clear g2
      (repeat' (first | refine AW_seq ?_ | refine AW_block ?_ | refine AW_skip ?_ | refine AW_exit ?_ | refine AW_ret ?_ | refine AW_region ?_ | refine AW_draw mixed0 ?_ | refine AL_nil ?_ | refine AD_nil (by kernel_rfl) ?_ | (refine AW_cl rfl rfl ⟨fun hc => ?_, fun hc => ?_⟩ <;> (repeat rw [List.length_map] at hc) <;> (try exact absd hc)) | ((first | apply AL_t rfl | apply AL_0 rfl | apply AD_t rfl | apply AD_0 rfl); focus (first | exact z_auto | fail)) | refine thenA_n ?_ | refine thenA_r ?_ | refine thenA_e ?_ | refine inB_n ?_ | refine inB_r ?_ | refine inB_hit ?_ | refine inB_miss rfl ?_ | ((first | refine AL_cl rfl rfl rfl ⟨fun hc => ?_, fun hc => ?_⟩ | refine AD_cl rfl rfl rfl ⟨fun hc => ?_, fun hc => ?_⟩) <;> (fail_if_success (have q : (true = true) := hc)) <;> (fail_if_success (have q : (false = false) := hc)) <;> (repeat rw [List.length_map] at hc) <;> (try exact absd hc)) | refine AW_cond_nil rfl rfl (fun hc => ?_) ?_))
      refine AW_loopP (X := UInt8 × Nat) (fun x => x.2 + ones8 x.1 = c + ones8 row[i])
        (fun x => mkSt [(3, iC .i64 (x.2 : Nat)), (5, iC .u8 (x.1.toNat : Nat)), (11, .per (bysP row)), (12, iC .i64 (row.length : Nat)), (13, iC .i64 (i : Nat))] []) (fun x => x.1.toNat) (row[i], c) rfl ?_ ?_
      · exact le_auto
      · rintro ⟨x, d⟩ q1
        simp only at q1 ⊢
        by_cases h0 : 0 < x.toNat
        · obtain ⟨s1, s2, s3⟩ := ones8_step x h0
          have hsub : IntKind.u8.wrap ((x.toNat : Int) - 1) = (x.toNat : Int) - 1 := by
            have := x.toNat_lt
            simp [IntKind.wrap, IntKind.bits, IntKind.signed]; omega
          generalize x &&& (x - 1) = y at *
          (repeat' (first | refine AW_seq ?_ | refine AW_block ?_ | refine AW_skip ?_ | refine AW_exit ?_ | refine AW_ret ?_ | refine AW_region ?_ | refine AW_draw mixed0 ?_ | refine AL_nil ?_ | refine AD_nil (by kernel_rfl) ?_ | (refine AW_cl rfl rfl ⟨fun hc => ?_, fun hc => ?_⟩ <;> (repeat rw [List.length_map] at hc) <;> (try exact absd hc)) | ((first | apply AL_t rfl | apply AL_0 rfl | apply AD_t rfl | apply AD_0 rfl); focus (first | ((apply u_k 8; (focus rfl); exact op_num ⟨rfl, rfl, rfl⟩ rfl rfl rfl rfl hsub)) | (apply u_g; (focus rfl); apply op_gyes rfl rfl rfl rfl rfl; ((apply u_k 8; (focus rfl); exact op_num ⟨rfl, rfl, rfl⟩ rfl rfl rfl rfl hsub))) | ((exact op_and ⟨rfl, rfl, rfl⟩ rfl rfl rfl s2)) | (apply u_g; (focus rfl); apply op_gyes rfl rfl rfl rfl rfl; ((exact op_and ⟨rfl, rfl, rfl⟩ rfl rfl rfl s2))) | exact z_auto | fail)) | refine thenA_n ?_ | refine thenA_r ?_ | refine thenA_e ?_ | refine inB_n ?_ | refine inB_r ?_ | refine inB_hit ?_ | refine inB_miss rfl ?_ | ((first | refine AL_cl rfl rfl rfl ⟨fun hc => ?_, fun hc => ?_⟩ | refine AD_cl rfl rfl rfl ⟨fun hc => ?_, fun hc => ?_⟩) <;> (fail_if_success (have q : (true = true) := hc)) <;> (fail_if_success (have q : (false = false) := hc)) <;> (repeat rw [List.length_map] at hc) <;> (try exact absd hc)) | refine AW_cond_nil rfl rfl (fun hc => ?_) ?_))
          refine ⟨(y, d + 1), by simp only; omega, s3, ?_⟩
          exact le_auto
        · have hx : x = 0 := UInt8.toNat_inj.1 (by simp; omega)
          subst hx
          rw [ones8_zero] at q1
          (repeat' (first | refine AW_seq ?_ | refine AW_block ?_ | refine AW_skip ?_ | refine AW_exit ?_ | refine AW_ret ?_ | refine AW_region ?_ | refine AW_draw mixed0 ?_ | refine AL_nil ?_ | refine AD_nil (by kernel_rfl) ?_ | (refine AW_cl rfl rfl ⟨fun hc => ?_, fun hc => ?_⟩ <;> (repeat rw [List.length_map] at hc) <;> (try exact absd hc)) | ((first | apply AL_t rfl | apply AL_0 rfl | apply AD_t rfl | apply AD_0 rfl); focus (first | exact z_auto | fail)) | refine thenA_n ?_ | refine thenA_r ?_ | refine thenA_e ?_ | refine inB_n ?_ | refine inB_r ?_ | refine inB_hit ?_ | refine inB_miss rfl ?_ | ((first | refine AL_cl rfl rfl rfl ⟨fun hc => ?_, fun hc => ?_⟩ | refine AD_cl rfl rfl rfl ⟨fun hc => ?_, fun hc => ?_⟩) <;> (fail_if_success (have q : (true = true) := hc)) <;> (fail_if_success (have q : (false = false) := hc)) <;> (repeat rw [List.length_map] at hc) <;> (try exact absd hc)) | refine AW_cond_nil rfl rfl (fun hc => ?_) ?_))
          refine ⟨(i + 1, d), ⟨by simp only; omega, by simp only; omega⟩, by simp only; omega, ?_⟩
          exact le_auto
    · obtain rfl : i = row.length := by omega
      rw [List.drop_length] at g2
      have g2 : c = N := by rw [← g2]; rfl
      subst g2
      (repeat' (first | refine AW_seq ?_ | refine AW_block ?_ | refine AW_skip ?_ | refine AW_exit ?_ | refine AW_ret ?_ | refine AW_region ?_ | refine AW_draw mixed0 ?_ | refine AL_nil ?_ | refine AD_nil (by kernel_rfl) ?_ | (refine AW_cl rfl rfl ⟨fun hc => ?_, fun hc => ?_⟩ <;> (repeat rw [List.length_map] at hc) <;> (try exact absd hc)) | ((first | apply AL_t rfl | apply AL_0 rfl | apply AD_t rfl | apply AD_0 rfl); focus (first | exact z_auto | fail)) | refine thenA_n ?_ | refine thenA_r ?_ | refine thenA_e ?_ | refine inB_n ?_ | refine inB_r ?_ | refine inB_hit ?_ | refine inB_miss rfl ?_ | ((first | refine AL_cl rfl rfl rfl ⟨fun hc => ?_, fun hc => ?_⟩ | refine AD_cl rfl rfl rfl ⟨fun hc => ?_, fun hc => ?_⟩) <;> (fail_if_success (have q : (true = true) := hc)) <;> (fail_if_success (have q : (false = false) := hc)) <;> (repeat rw [List.length_map] at hc) <;> (try exact absd hc)) | refine AW_cond_nil rfl rfl (fun hc => ?_) ?_))
      (refine ⟨(by first | exact .inl rfl | exact .inr rfl), res1 rfl ?_⟩)
      exact rv_int rfl rfl
theorem bl_Bytes (bits probes seed : Int) (row : List UInt8) (hb : BlOk bits probes row) : Fn Try.prog 21 [.per (blP bits probes seed row)] (ownB (bloomB bits probes row)) := by
  obtain ⟨b1, b2, p1, p2, hlen⟩ := hb
  have ob : okNum bits := by unfold okNum; omega
  have op : okNum probes := by unfold okNum; omega
  have h1 := varint_Put [] [bits, probes] (by simp) (ok2 ob op)
  rw [List.nil_append] at h1
  have hl2 : (textB ⟨row.toArray⟩).length ≤ 9 + row.length := by
    have := numB_len9 (ByteArray.mk row.toArray).size (by show row.toArray.size ≤ _; simp; omega)
    unfold textB; simp; omega
  have h2 := varint_Text ([bits, probes].flatMap numI) [⟨row.toArray⟩] (by rw [flat1]; have := numI_le _ ob; have := numI_le _ op; simp; omega)
  rw [flat1] at h2
  refine fn_intro Try.func21 rfl (by kernel_rfl) Try.ntmps21 (Nat.le_of_ble_eq_true rfl) ?_
  (repeat' (first | refine AW_seq ?_ | refine AW_block ?_ | refine AW_skip ?_ | refine AW_exit ?_ | refine AW_ret ?_ | refine AW_region ?_ | refine AW_draw mixed0 ?_ | refine AL_nil ?_ | refine AD_nil (by kernel_rfl) ?_ | (refine AW_cl rfl rfl ⟨fun hc => ?_, fun hc => ?_⟩ <;> (repeat rw [List.length_map] at hc) <;> (try exact absd hc)) | ((first | apply AL_t rfl | apply AL_0 rfl | apply AD_t rfl | apply AD_0 rfl); focus (first | exact z_auto | exact c_A (h1) | exact c_A (h2) | fail)) | refine thenA_n ?_ | refine thenA_r ?_ | refine thenA_e ?_ | refine inB_n ?_ | refine inB_r ?_ | refine inB_hit ?_ | refine inB_miss rfl ?_ | ((first | refine AL_cl rfl rfl rfl ⟨fun hc => ?_, fun hc => ?_⟩ | refine AD_cl rfl rfl rfl ⟨fun hc => ?_, fun hc => ?_⟩) <;> (fail_if_success (have q : (true = true) := hc)) <;> (fail_if_success (have q : (false = false) := hc)) <;> (repeat rw [List.length_map] at hc) <;> (try exact absd hc)) | refine AW_cond_nil rfl rfl (fun hc => ?_) ?_))
  (refine ⟨(by first | exact .inl rfl | exact .inr rfl), res1 rfl ?_⟩)
  exact rv_ownM rfl rfl rfl rfl
def rdBl (b : List UInt8) : (Int × Int × List UInt8) × Int :=
  let p := withinSt 1 4096 b 0
  let q := withinSt 1 8 p.2.1 p.2.2
  let s := textSt 281474976710656 q.2.1 q.2.2
  let e := endSt s.2.1 s.2.2
  if e ≠ 0 then ((0, 0, []), e) else if s.1.length = (p.1.toNat + 7) / 8 ∧ ¬ topBad p.1 s.1 then ((p.1, q.1, s.1), 0) else ((0, 0, []), 11)
theorem rd_parts {b : List UInt8} {p q : Int × List UInt8 × Int} {s : List UInt8 × List UInt8 × Int} (h1 : withinSt 1 4096 b 0 = p) (h2 : withinSt 1 8 p.2.1 p.2.2 = q) (h3 : textSt 281474976710656 q.2.1 q.2.2 = s) (h4 : endSt s.2.1 s.2.2 = 0) :
    1 ≤ p.1 ∧ p.1 ≤ 4096 ∧ 1 ≤ q.1 ∧ q.1 ≤ 8 ∧ s.1.length ≤ b.length := by
  obtain ⟨s1, s2, s3⟩ := s
  obtain ⟨q1, q2, q3⟩ := q
  obtain ⟨p1, p2, p3⟩ := p
  simp only at h1 h2 h3 h4 ⊢
  obtain ⟨rfl, _⟩ := end_zero h4
  obtain ⟨x, l1, a1, a2, a3, a4, a5⟩ := text_zero h3
  obtain ⟨rfl, _, _, _⟩ := within_zero a1
  obtain ⟨rfl, b1, b2, _⟩ := within_zero h2
  obtain ⟨_, c1, c2, _⟩ := within_zero h1
  refine ⟨c1, c2, b1, b2, ?_⟩
  have e1 := (withinSt_suf 1 4096 b 0).length_le
  have e2 := (withinSt_suf 1 8 p2 0).length_le
  have e3 := (withinSt_suf 0 281474976710656 q2 0).length_le
  rw [h1] at e1; rw [h2] at e2; rw [a1] at e3
  simp only at e1 e2 e3
  rw [a2, List.length_take]; omega
theorem ba_size (s : List UInt8) : (ByteArray.mk s.toArray).size = s.length := by simp [ByteArray.size]
theorem top_iff {p : Int} {s : List UInt8} (h1 : 1 ≤ p) (hl : s.length = (p.toNat + 7) / 8) : ∃ hk : (((ByteArray.mk s.toArray).size : Int) - 1).toNat < (ByteArray.mk s.toArray).data.toList.length,
    (topBad p s ↔ (p % 8 > 0 ∧ (((ByteArray.mk s.toArray).data.toList[(((ByteArray.mk s.toArray).size : Int) - 1).toNat].toNat : Nat) : Int) / 2 ^ min (p % 8).toNat IntKind.u8.bits > 0)) := by
  obtain ⟨n, rfl⟩ := Int.eq_ofNat_of_zero_le (show 0 ≤ p by omega)
  have h0 : 0 < s.length := by omega
  have e1 : (((ByteArray.mk s.toArray).size : Int) - 1).toNat = s.length - 1 := by rw [ba_size]; omega
  refine ⟨by rw [e1]; show s.length - 1 < s.length; omega, ?_⟩
  have e2 : ((n : Int) % 8).toNat = n % 8 := by omega
  have e3 : min (n % 8) IntKind.u8.bits = n % 8 := by show min (n % 8) 8 = _; omega
  have e4 : ∀ hk, (ByteArray.mk s.toArray).data.toList[(((ByteArray.mk s.toArray).size : Int) - 1).toNat]'hk = s.getD (s.length - 1) 0 := by
    intro hk
    simp only [e1]
    rw [List.getD_eq_getElem?_getD, List.getElem?_eq_getElem (by omega)]; rfl
  rw [e4, e2, e3]
  unfold topBad
  rw [Int.toNat_natCast]
  rw [show ((2 : Int) ^ (n % 8)) = ((2 ^ (n % 8) : Nat) : Int) by simp, ← Int.natCast_ediv]
  omega
theorem bl_Read_no (b : List UInt8) (hb : b.length ≤ 1000000) (seed : Int) {x : Int × Int × List UInt8} {e : Int} (h : rdBl b = (x, e)) (he : e ≠ 0) : Fn Try.prog 23 [bytesB b, iC .u64 seed] (.tup2 (.per (rawP (.pointer none))) (inR e)) := by
  dsimp only [rdBl] at h
  have h1 := r_Within b 0 1 4096
  generalize hp : withinSt 1 4096 b 0 = p at *
  have h2 := r_Within p.2.1 p.2.2 1 8
  generalize hq : withinSt 1 8 p.2.1 p.2.2 = q at *
  have h3 := r_Text q.2.1 q.2.2 281474976710656
  generalize hs : textSt 281474976710656 q.2.1 q.2.2 = s at *
  have h4 := r_End s.2.1 s.2.2
  generalize hE : endSt s.2.1 s.2.2 = v at *
  by_cases hv : v = 0
  · subst hv
    obtain ⟨a1, a2, a3, a4, a5⟩ := rd_parts hp hq hs hE
    clear hp hq hs hE
    have h5 := bl_New p.1 q.1 seed a1 a2 a3 a4
    have hSz := ba_size s.1
    rw [if_neg (by simp)] at h
    split at h
    · exact absurd (congrArg Prod.snd h).symm he
    · rename_i hno
      obtain rfl : (11 : Int) = e := congrArg Prod.snd h
      clear h
      by_cases hlen : s.1.length = (p.1.toNat + 7) / 8
      · obtain ⟨hk, hT⟩ := top_iff a1 hlen
        have hT := hT.1 (Decidable.of_not_not fun q => hno ⟨hlen, q⟩)
        generalize hZ : (((ByteArray.mk s.1.toArray).data.toList[(((ByteArray.mk s.1.toArray).size : Int) - 1).toNat]'hk).toNat : Int) / 2 ^ min (p.1 % 8).toNat IntKind.u8.bits = Z at *
        clear hno
        refine fn_intro Try.func23 rfl (by kernel_rfl) Try.ntmps23 (Nat.le_of_ble_eq_true rfl) ?_
        (repeat' (first | refine AW_seq ?_ | refine AW_block ?_ | refine AW_skip ?_ | refine AW_exit ?_ | refine AW_ret ?_ | refine AW_region ?_ | refine AW_draw mixed0 ?_ | refine AL_nil ?_ | refine AD_nil (by kernel_rfl) ?_ | (refine AW_cl rfl rfl ⟨fun hc => ?_, fun hc => ?_⟩ <;> (repeat rw [List.length_map] at hc) <;> (try exact absd hc)) | ((first | apply AL_t rfl | apply AL_0 rfl | apply AD_t rfl | apply AD_0 rfl); focus (first | ((apply u_k 13; (focus rfl); exact u_sindexZ ⟨rfl, rfl, rfl⟩ rfl inferInstance rfl rfl (by omega) hk)) | (apply u_g; (focus rfl); apply op_gyes rfl rfl rfl rfl rfl; ((apply u_k 13; (focus rfl); exact u_sindexZ ⟨rfl, rfl, rfl⟩ rfl inferInstance rfl rfl (by omega) hk))) | ((exact op_shrB ⟨rfl, rfl, rfl⟩ rfl rfl rfl (by omega) hZ)) | (apply u_g; (focus rfl); apply op_gyes rfl rfl rfl rfl rfl; ((exact op_shrB ⟨rfl, rfl, rfl⟩ rfl rfl rfl (by omega) hZ))) | exact z_auto | exact c_NA (v_New b (by omega)) | exact c_RA (h1) | exact c_RA (h2) | exact c_RA (h3) | exact c_RA (h4) | exact c_MA [(3000, 650), (3001, 651)] (h5) | fail)) | refine thenA_n ?_ | refine thenA_r ?_ | refine thenA_e ?_ | refine inB_n ?_ | refine inB_r ?_ | refine inB_hit ?_ | refine inB_miss rfl ?_ | ((first | refine AL_cl rfl rfl rfl ⟨fun hc => ?_, fun hc => ?_⟩ | refine AD_cl rfl rfl rfl ⟨fun hc => ?_, fun hc => ?_⟩) <;> (fail_if_success (have q : (true = true) := hc)) <;> (fail_if_success (have q : (false = false) := hc)) <;> (repeat rw [List.length_map] at hc) <;> (try exact absd hc)) | refine AW_cond_nil rfl rfl (fun hc => ?_) ?_))
        (refine ⟨(by first | exact .inl rfl | exact .inr rfl), res2 rfl ?_ ?_⟩)
        · exact rv_per rfl
        · exact rv_int rfl rfl
      · clear hno
        refine fn_intro Try.func23 rfl (by kernel_rfl) Try.ntmps23 (Nat.le_of_ble_eq_true rfl) ?_
        (repeat' (first | refine AW_seq ?_ | refine AW_block ?_ | refine AW_skip ?_ | refine AW_exit ?_ | refine AW_ret ?_ | refine AW_region ?_ | refine AW_draw mixed0 ?_ | refine AL_nil ?_ | refine AD_nil (by kernel_rfl) ?_ | (refine AW_cl rfl rfl ⟨fun hc => ?_, fun hc => ?_⟩ <;> (repeat rw [List.length_map] at hc) <;> (try exact absd hc)) | ((first | apply AL_t rfl | apply AL_0 rfl | apply AD_t rfl | apply AD_0 rfl); focus (first | exact z_auto | exact c_NA (v_New b (by omega)) | exact c_RA (h1) | exact c_RA (h2) | exact c_RA (h3) | exact c_RA (h4) | exact c_MA [(3000, 650), (3001, 651)] (h5) | fail)) | refine thenA_n ?_ | refine thenA_r ?_ | refine thenA_e ?_ | refine inB_n ?_ | refine inB_r ?_ | refine inB_hit ?_ | refine inB_miss rfl ?_ | ((first | refine AL_cl rfl rfl rfl ⟨fun hc => ?_, fun hc => ?_⟩ | refine AD_cl rfl rfl rfl ⟨fun hc => ?_, fun hc => ?_⟩) <;> (fail_if_success (have q : (true = true) := hc)) <;> (fail_if_success (have q : (false = false) := hc)) <;> (repeat rw [List.length_map] at hc) <;> (try exact absd hc)) | refine AW_cond_nil rfl rfl (fun hc => ?_) ?_))
        · (refine ⟨(by first | exact .inl rfl | exact .inr rfl), res2 rfl ?_ ?_⟩)
          · exact rv_per rfl
          · exact rv_int rfl rfl
        all_goals (exfalso; simp only [List.length_replicate] at *; omega)
  · rw [if_pos hv] at h
    obtain rfl : v = e := congrArg Prod.snd h
    refine fn_intro Try.func23 rfl (by kernel_rfl) Try.ntmps23 (Nat.le_of_ble_eq_true rfl) ?_
    (repeat' (first | refine AW_seq ?_ | refine AW_block ?_ | refine AW_skip ?_ | refine AW_exit ?_ | refine AW_ret ?_ | refine AW_region ?_ | refine AW_draw mixed0 ?_ | refine AL_nil ?_ | refine AD_nil (by kernel_rfl) ?_ | (refine AW_cl rfl rfl ⟨fun hc => ?_, fun hc => ?_⟩ <;> (repeat rw [List.length_map] at hc) <;> (try exact absd hc)) | ((first | apply AL_t rfl | apply AL_0 rfl | apply AD_t rfl | apply AD_0 rfl); focus (first | exact z_auto | exact c_NA (v_New b (by omega)) | exact c_RA (h1) | exact c_RA (h2) | exact c_RA (h3) | exact c_RA (h4) | fail)) | refine thenA_n ?_ | refine thenA_r ?_ | refine thenA_e ?_ | refine inB_n ?_ | refine inB_r ?_ | refine inB_hit ?_ | refine inB_miss rfl ?_ | ((first | refine AL_cl rfl rfl rfl ⟨fun hc => ?_, fun hc => ?_⟩ | refine AD_cl rfl rfl rfl ⟨fun hc => ?_, fun hc => ?_⟩) <;> (fail_if_success (have q : (true = true) := hc)) <;> (fail_if_success (have q : (false = false) := hc)) <;> (repeat rw [List.length_map] at hc) <;> (try exact absd hc)) | refine AW_cond_nil rfl rfl (fun hc => ?_) ?_))
    (refine ⟨(by first | exact .inl rfl | exact .inr rfl), res2 rfl ?_ ?_⟩)
    · exact rv_per rfl
    · exact rv_int rfl rfl
theorem bl_Read_ok (b : List UInt8) (hb : b.length ≤ 1000000) (seed : Int) {bits probes : Int} {row : List UInt8} (h : rdBl b = ((bits, probes, row), 0)) :
    BlOk bits probes row ∧ Fn Try.prog 23 [bytesB b, iC .u64 seed] (.tup2 (.per (blP bits probes seed row)) (inR 0)) := by
  dsimp only [rdBl] at h
  have h1 := r_Within b 0 1 4096
  generalize hp : withinSt 1 4096 b 0 = p at *
  have h2 := r_Within p.2.1 p.2.2 1 8
  generalize hq : withinSt 1 8 p.2.1 p.2.2 = q at *
  have h3 := r_Text q.2.1 q.2.2 281474976710656
  generalize hs : textSt 281474976710656 q.2.1 q.2.2 = s at *
  have h4 := r_End s.2.1 s.2.2
  generalize hE : endSt s.2.1 s.2.2 = v at *
  by_cases hv : v = 0
  · subst hv
    obtain ⟨a1, a2, a3, a4, a5⟩ := rd_parts hp hq hs hE
    clear hp hq hs hE
    rw [if_neg (by simp)] at h
    split at h
    · rename_i hok
      obtain ⟨hlen, hnt⟩ := hok
      simp only [Prod.mk.injEq, and_true] at h
      obtain ⟨rfl, rfl, rfl⟩ := h
      have h5 := bl_New p.1 q.1 seed a1 a2 a3 a4
      have hSz := ba_size s.1
      refine ⟨⟨a1, a2, a3, a4, hlen⟩, ?_⟩
      obtain ⟨hk, hT⟩ := top_iff a1 hlen
      rw [hT] at hnt
      have hlz : (ByteArray.mk s.1.toArray).size = ((List.replicate ((p.1.toNat + 7) / 8) (0 : UInt8)).map byteP).length := by simp [hSz, hlen]
      have hl0 : 0 < ((List.replicate ((p.1.toNat + 7) / 8) (0 : UInt8)).map byteP).length := by simp; omega
      generalize hZ : (((ByteArray.mk s.1.toArray).data.toList[(((ByteArray.mk s.1.toArray).size : Int) - 1).toNat]'hk).toNat : Int) / 2 ^ min (p.1 % 8).toNat IntKind.u8.bits = Z at *
      clear hT
      refine fn_intro Try.func23 rfl (by kernel_rfl) Try.ntmps23 (Nat.le_of_ble_eq_true rfl) ?_
      (repeat' (first | refine AW_seq ?_ | refine AW_block ?_ | refine AW_skip ?_ | refine AW_exit ?_ | refine AW_ret ?_ | refine AW_region ?_ | refine AW_draw mixed0 ?_ | refine AL_nil ?_ | refine AD_nil (by kernel_rfl) ?_ | (refine AW_cl rfl rfl ⟨fun hc => ?_, fun hc => ?_⟩ <;> (repeat rw [List.length_map] at hc) <;> (try exact absd hc)) | ((first | apply AL_t rfl | apply AL_0 rfl | apply AD_t rfl | apply AD_0 rfl); focus (first | ((apply u_k 13; (focus rfl); exact u_sindexZ ⟨rfl, rfl, rfl⟩ rfl inferInstance rfl rfl (by omega) hk)) | (apply u_g; (focus rfl); apply op_gyes rfl rfl rfl rfl rfl; ((apply u_k 13; (focus rfl); exact u_sindexZ ⟨rfl, rfl, rfl⟩ rfl inferInstance rfl rfl (by omega) hk))) | ((exact op_shrB ⟨rfl, rfl, rfl⟩ rfl rfl rfl (by omega) hZ)) | (apply u_g; (focus rfl); apply op_gyes rfl rfl rfl rfl rfl; ((exact op_shrB ⟨rfl, rfl, rfl⟩ rfl rfl rfl (by omega) hZ))) | ((exact u_copyS ⟨rfl, rfl, rfl⟩ rfl inferInstance rfl rfl rfl rfl hlz hl0)) | (apply u_g; (focus rfl); apply op_gyes rfl rfl rfl rfl rfl; ((exact u_copyS ⟨rfl, rfl, rfl⟩ rfl inferInstance rfl rfl rfl rfl hlz hl0))) | exact z_auto | exact c_NA (v_New b (by omega)) | exact c_RA (h1) | exact c_RA (h2) | exact c_RA (h3) | exact c_RA (h4) | exact c_MA [(3000, 650), (3001, 651)] (h5) | fail)) | refine thenA_n ?_ | refine thenA_r ?_ | refine thenA_e ?_ | refine inB_n ?_ | refine inB_r ?_ | refine inB_hit ?_ | refine inB_miss rfl ?_ | ((first | refine AL_cl rfl rfl rfl ⟨fun hc => ?_, fun hc => ?_⟩ | refine AD_cl rfl rfl rfl ⟨fun hc => ?_, fun hc => ?_⟩) <;> (fail_if_success (have q : (true = true) := hc)) <;> (fail_if_success (have q : (false = false) := hc)) <;> (repeat rw [List.length_map] at hc) <;> (try exact absd hc)) | refine AW_cond_nil rfl rfl (fun hc => ?_) ?_))
      all_goals
        refine ⟨.inl rfl, ResO_le (Le_fz 651 _ 5 1 rfl rfl) (ResO_le (Le_fzB 650 _ _ rfl rfl rfl) (res2 rfl ?_ ?_))⟩
        · exact rv_per rfl
        · exact rv_int rfl rfl
    · exact absurd (congrArg Prod.snd h) (by simp)
  · rw [if_pos hv] at h
    exact absurd (congrArg Prod.snd h) hv
end
end Go.Proofs.Ytbpmafpmlapekaa
namespace Go.Proofs.Ytbpmafpmlapekaa
open Go.RowKit
def boolP (b : Bool) : List PV := [rawP (.bool b)]
abbrev rblP (bs : List Bool) (probes seed : Int) : PV := aggP [lstP 1 (bs.map boolP), rawP (.int .i64 probes), rawP (.int .u64 seed)]
abbrev rblRow (bs : List Bool) : Blk := .row 4 1 (bs.map boolP)
theorem falses_map (n : Nat) : List.replicate n [rawP (.bool false)] = (List.replicate n false).map boolP := by
  rw [List.map_replicate]; rfl
def raddP (bs : List Bool) (bits seed : Int) (l : List UInt8) (k : Nat) : List Bool := (List.range k).foldl (fun b (i : Nat) => b.set (probeN bits seed l (i : Int)) true) bs
theorem raddP_succ (bs : List Bool) (bits seed : Int) (l : List UInt8) (k : Nat) : raddP bs bits seed l (k + 1) = (raddP bs bits seed l k).set (probeN bits seed l k) true := by
  simp [raddP, List.range_succ]
theorem raddP_len (bs : List Bool) (bits seed : Int) (l : List UInt8) (k : Nat) : (raddP bs bits seed l k).length = bs.length := by
  induction k with
  | zero => rfl
  | succ k ih => rw [raddP_succ, List.length_set, ih]
def raddV (bs : List Bool) (bits probes seed r c : Int) : List Bool := if verR r c then raddP bs bits seed (verB r c) probes.toNat else bs
def addBs : List UInt8 → Nat → List Bool → List UInt8
  | row, _, [] => row
  | row, i, b :: bs => addBs (if b then addBit row i else row) (i + 1) bs
theorem addBs_len : ∀ (bs : List Bool) (row : List UInt8) (i : Nat), (addBs row i bs).length = row.length
  | [], _, _ => rfl
  | b :: bs, row, i => by
    rw [addBs, addBs_len bs]
    split
    · exact addBit_len _ _
    · rfl
theorem mul_bit {k : Nat} (h : k < 7) : IntKind.u8.wrap (((2 ^ k : Nat) : Int) * 2) = ((2 ^ (k + 1) : Nat) : Int) := by
  have : ∀ k : Fin 7, IntKind.u8.wrap (((2 ^ k.val : Nat) : Int) * 2) = ((2 ^ (k.val + 1) : Nat) : Int) := by decide
  exact this ⟨k, h⟩
theorem add_bit {x : UInt8} {n : Nat} (h : (x &&& bitOf n) = 0) : IntKind.u8.wrap ((x.toNat : Int) + ((2 ^ (n % 8) : Nat) : Int)) = ((x ||| bitOf n).toNat : Int) := by
  have : ∀ k : Fin 8, ∀ x : Fin 256, (UInt8.ofNat x.val &&& UInt8.ofNat (2 ^ k.val)) = 0 → IntKind.u8.wrap (((UInt8.ofNat x.val).toNat : Int) + ((2 ^ k.val : Nat) : Int)) = ((UInt8.ofNat x.val ||| UInt8.ofNat (2 ^ k.val)).toNat : Int) := by decide +kernel
  have := this ⟨n % 8, Nat.mod_lt _ (by decide)⟩ ⟨x.toNat, x.toNat_lt⟩
  simpa [bitOf] using this (by simpa [bitOf] using h)
theorem bit_div {x : UInt8} {n : Nat} : (((x.toNat / 2 ^ (n % 8) : Nat) : Int) % 2 = 1) ↔ (x &&& bitOf n != 0) = true := by
  have : ∀ k : Fin 8, ∀ x : Fin 256, ((((UInt8.ofNat x.val).toNat / 2 ^ k.val : Nat) : Int) % 2 = 1) ↔ (UInt8.ofNat x.val &&& UInt8.ofNat (2 ^ k.val) != 0) = true := by decide +kernel
  have := this ⟨n % 8, Nat.mod_lt _ (by decide)⟩ ⟨x.toNat, x.toNat_lt⟩
  simpa [bitOf] using this
section
set_option maxRecDepth 10000
set_option maxHeartbeats 4000000
theorem rb_NewM (n : Nat) (hn : n ≤ 4096) (probes seed : Int) : FnM Try.prog 14 [iC .i64 (n : Nat), iC .i64 probes, iC .u64 seed] [] (aggOf [.row 3000 0, iC .i64 probes, iC .u64 seed]) [(3000, rblRow (List.replicate n false))] := by
  refine fnm_intro Try.func14 rfl (by kernel_rfl) Try.ntmps14 (Nat.le_of_ble_eq_true rfl) ?_
  (repeat' (first | refine AW_seq ?_ | refine AW_block ?_ | refine AW_skip ?_ | refine AW_exit ?_ | refine AW_ret ?_ | refine AW_region ?_ | refine AW_draw mixed0 ?_ | refine AL_nil ?_ | refine AD_nil (by kernel_rfl) ?_ | (refine AW_cl rfl rfl ⟨fun hc => ?_, fun hc => ?_⟩ <;> (repeat rw [List.length_map] at hc) <;> (try exact absd hc)) | ((first | apply AL_t rfl | apply AL_0 rfl | apply AD_t rfl | apply AD_0 rfl); focus (first | ((exact u_mk (m := n) ⟨rfl, rfl, rfl⟩ rfl inferInstance inferInstance rfl rfl rfl rfl (by omega) (by omega))) | (apply u_g; (focus rfl); apply op_gyes rfl rfl rfl rfl rfl; ((exact u_mk (m := n) ⟨rfl, rfl, rfl⟩ rfl inferInstance inferInstance rfl rfl rfl rfl (by omega) (by omega)))) | exact z_auto | fail)) | refine thenA_n ?_ | refine thenA_r ?_ | refine thenA_e ?_ | refine inB_n ?_ | refine inB_r ?_ | refine inB_hit ?_ | refine inB_miss rfl ?_ | ((first | refine AL_cl rfl rfl rfl ⟨fun hc => ?_, fun hc => ?_⟩ | refine AD_cl rfl rfl rfl ⟨fun hc => ?_, fun hc => ?_⟩) <;> (fail_if_success (have q : (true = true) := hc)) <;> (fail_if_success (have q : (false = false) := hc)) <;> (repeat rw [List.length_map] at hc) <;> (try exact absd hc)) | refine AW_cond_nil rfl rfl (fun hc => ?_) ?_))
  (refine ⟨(by first | exact .inl rfl | exact .inr rfl), resM1 [(8, 3000)] rfl rfl ?_ ?_⟩; (focus (repeat (first | exact AllX.nil | (refine AllX.cons rfl ?_ ?_; (focus first | rfl | skip))))))
  · first | exact congrArg (Blk.row _ 1) (falses_map _) | exact congrArg (Blk.row _ 1) (falses_map _).symm
  · exact AllX.nil
  · exact rvm_cellC rfl inferInstance inferInstance rfl rfl rfl rfl rfl rfl
theorem rb_New (n : Nat) (hn : n ≤ 4096) (probes seed : Int) : Fn Try.prog 14 [iC .i64 (n : Nat), iC .i64 probes, iC .u64 seed] (.per (rblP (List.replicate n false) probes seed)) := by
  refine fn_intro Try.func14 rfl (by kernel_rfl) Try.ntmps14 (Nat.le_of_ble_eq_true rfl) ?_
  (repeat' (first | refine AW_seq ?_ | refine AW_block ?_ | refine AW_skip ?_ | refine AW_exit ?_ | refine AW_ret ?_ | refine AW_region ?_ | refine AW_draw mixed0 ?_ | refine AL_nil ?_ | refine AD_nil (by kernel_rfl) ?_ | (refine AW_cl rfl rfl ⟨fun hc => ?_, fun hc => ?_⟩ <;> (repeat rw [List.length_map] at hc) <;> (try exact absd hc)) | ((first | apply AL_t rfl | apply AL_0 rfl | apply AD_t rfl | apply AD_0 rfl); focus (first | ((exact u_mk (m := n) ⟨rfl, rfl, rfl⟩ rfl inferInstance inferInstance rfl rfl rfl rfl (by omega) (by omega))) | (apply u_g; (focus rfl); apply op_gyes rfl rfl rfl rfl rfl; ((exact u_mk (m := n) ⟨rfl, rfl, rfl⟩ rfl inferInstance inferInstance rfl rfl rfl rfl (by omega) (by omega)))) | exact z_auto | fail)) | refine thenA_n ?_ | refine thenA_r ?_ | refine thenA_e ?_ | refine inB_n ?_ | refine inB_r ?_ | refine inB_hit ?_ | refine inB_miss rfl ?_ | ((first | refine AL_cl rfl rfl rfl ⟨fun hc => ?_, fun hc => ?_⟩ | refine AD_cl rfl rfl rfl ⟨fun hc => ?_, fun hc => ?_⟩) <;> (fail_if_success (have q : (true = true) := hc)) <;> (fail_if_success (have q : (false = false) := hc)) <;> (repeat rw [List.length_map] at hc) <;> (try exact absd hc)) | refine AW_cond_nil rfl rfl (fun hc => ?_) ?_))
  rw [falses_map]
  refine ⟨.inl rfl, ResO_le (Le_fz 8 _ 4 1 rfl rfl) (res1 rfl ?_)⟩
  exact rv_cA inferInstance inferInstance rfl rfl rfl rfl rfl rfl
theorem rb_Probe (bs : List Bool) (probes seed r c : Int) (i : Nat) (hi : i ≤ 1000) (h1 : 1 ≤ bs.length) (h2 : bs.length ≤ 4096) (hr : okNum r) (hc : okNum c) :
    Fn Try.prog 63 [.per (rblP bs probes seed), vrC r c, iC .i64 (i : Nat)] (inR ((probeN bs.length seed (verB r c) i : Nat) : Int)) := by
  have hlt := probeN_lt bs.length seed (verB r c) i (by omega)
  have hwi : IntKind.u64.wrap (i : Int) = (i : Int) := wrap_u64B (by omega) (by omega)
  have hp := ref_Put [r, c] (by simp) (ok2 hr hc)
  rw [verB_eq] at hp
  have hH := ref_Of (IntKind.u64.wrap (seed + i)) (verB r c)
  have hP : (hashOf (IntKind.u64.wrap (seed + i)) (verB r c)).tmod bs.length = ((probeN bs.length seed (verB r c) i : Nat) : Int) := by
    have hnn : 0 ≤ hashOf (IntKind.u64.wrap (seed + i)) (verB r c) := by unfold hashOf fnvEnd; exact bits_nn _ _
    unfold probeN
    rw [hwi, Int.tmod_eq_emod_of_nonneg hnn, Int.toNat_of_nonneg (Int.emod_nonneg _ (by omega))]
  generalize hashOf (IntKind.u64.wrap (seed + i)) (verB r c) = H at *
  generalize probeN bs.length seed (verB r c) i = m at *
  generalize verB r c = l at *
  have hmm : (m : Int) = (m : Int) := rfl
  refine fn_intro Try.func63 rfl (by kernel_rfl) Try.ntmps63 (Nat.le_of_ble_eq_true rfl) ?_
  (repeat' (first | refine AW_seq ?_ | refine AW_block ?_ | refine AW_skip ?_ | refine AW_exit ?_ | refine AW_ret ?_ | refine AW_region ?_ | refine AW_draw mixed0 ?_ | refine AL_nil ?_ | refine AD_nil (by kernel_rfl) ?_ | (refine AW_cl rfl rfl ⟨fun hc => ?_, fun hc => ?_⟩ <;> (repeat rw [List.length_map] at hc) <;> (try exact absd hc)) | ((first | apply AL_t rfl | apply AL_0 rfl | apply AD_t rfl | apply AD_0 rfl); focus (first | ((apply u_k 10; (focus rfl); exact u_conv ⟨rfl, rfl, rfl⟩ rfl inferInstance inferInstance rfl (by with_reducible exact wrap_u64B (by omega) (by omega)))) | (apply u_g; (focus rfl); apply op_gyes rfl rfl rfl rfl rfl; ((apply u_k 10; (focus rfl); exact u_conv ⟨rfl, rfl, rfl⟩ rfl inferInstance inferInstance rfl (by with_reducible exact wrap_u64B (by omega) (by omega))))) | ((apply u_k 10; (focus rfl); exact u_conv ⟨rfl, rfl, rfl⟩ rfl inferInstance inferInstance rfl (by with_reducible exact wrap_id64 (by omega) (by omega)))) | (apply u_g; (focus rfl); apply op_gyes rfl rfl rfl rfl rfl; ((apply u_k 10; (focus rfl); exact u_conv ⟨rfl, rfl, rfl⟩ rfl inferInstance inferInstance rfl (by with_reducible exact wrap_id64 (by omega) (by omega))))) | ((exact op_rem ⟨rfl, rfl, rfl⟩ rfl rfl rfl (by omega) hP)) | (apply u_g; (focus rfl); apply op_gyes rfl rfl rfl rfl rfl; ((exact op_rem ⟨rfl, rfl, rfl⟩ rfl rfl rfl (by omega) hP))) | exact z_auto | exact c_A (hp) | exact c_A (hH) | fail)) | refine thenA_n ?_ | refine thenA_r ?_ | refine thenA_e ?_ | refine inB_n ?_ | refine inB_r ?_ | refine inB_hit ?_ | refine inB_miss rfl ?_ | ((first | refine AL_cl rfl rfl rfl ⟨fun hc => ?_, fun hc => ?_⟩ | refine AD_cl rfl rfl rfl ⟨fun hc => ?_, fun hc => ?_⟩) <;> (fail_if_success (have q : (true = true) := hc)) <;> (fail_if_success (have q : (false = false) := hc)) <;> (repeat rw [List.length_map] at hc) <;> (try exact absd hc)) | refine AW_cond_nil rfl rfl (fun hc => ?_) ?_))
  (refine ⟨(by first | exact .inl rfl | exact .inr rfl), res1 rfl ?_⟩)
  exact rv_int rfl rfl
theorem rb_Has (bs : List Bool) (probes seed r c : Int) (h1 : 1 ≤ bs.length) (h2 : bs.length ≤ 4096) (p1 : 0 ≤ probes) (p2 : probes ≤ 8) : Fn Try.prog 16 [.per (rblP bs probes seed), vrC r c] (boR (rhasV bs bs.length probes seed r c)) := by
  have hv := rver_Right r c
  cases hr : verR r c with
  | false =>
    rw [hr] at hv
    rw [show rhasV bs bs.length probes seed r c = false by unfold rhasV; rw [hr]; rfl]
    refine fn_intro Try.func16 rfl (by kernel_rfl) Try.ntmps16 (Nat.le_of_ble_eq_true rfl) ?_
    (repeat' (first | refine AW_seq ?_ | refine AW_block ?_ | refine AW_skip ?_ | refine AW_exit ?_ | refine AW_ret ?_ | refine AW_region ?_ | refine AW_draw mixed0 ?_ | refine AL_nil ?_ | refine AD_nil (by kernel_rfl) ?_ | (refine AW_cl rfl rfl ⟨fun hc => ?_, fun hc => ?_⟩ <;> (repeat rw [List.length_map] at hc) <;> (try exact absd hc)) | ((first | apply AL_t rfl | apply AL_0 rfl | apply AD_t rfl | apply AD_0 rfl); focus (first | exact z_auto | exact c_A (hv) | fail)) | refine thenA_n ?_ | refine thenA_r ?_ | refine thenA_e ?_ | refine inB_n ?_ | refine inB_r ?_ | refine inB_hit ?_ | refine inB_miss rfl ?_ | ((first | refine AL_cl rfl rfl rfl ⟨fun hc => ?_, fun hc => ?_⟩ | refine AD_cl rfl rfl rfl ⟨fun hc => ?_, fun hc => ?_⟩) <;> (fail_if_success (have q : (true = true) := hc)) <;> (fail_if_success (have q : (false = false) := hc)) <;> (repeat rw [List.length_map] at hc) <;> (try exact absd hc)) | refine AW_cond_nil rfl rfl (fun hc => ?_) ?_))
    (refine ⟨(by first | exact .inl rfl | exact .inr rfl), res1 rfl ?_⟩)
    exact rv_bool rfl rfl
  | true =>
    rw [hr] at hv
    obtain ⟨o1, o2⟩ := ok_ver hr
    rw [show rhasV bs bs.length probes seed r c = rhasP bs bs.length seed (verB r c) probes.toNat by unfold rhasV; rw [hr]; rfl]
    refine fn_intro Try.func16 rfl (by kernel_rfl) Try.ntmps16 (Nat.le_of_ble_eq_true rfl) ?_
    (repeat' (first | refine AW_seq ?_ | refine AW_block ?_ | refine AW_skip ?_ | refine AW_exit ?_ | refine AW_ret ?_ | refine AW_region ?_ | refine AW_draw mixed0 ?_ | refine AL_nil ?_ | refine AD_nil (by kernel_rfl) ?_ | (refine AW_cl rfl rfl ⟨fun hc => ?_, fun hc => ?_⟩ <;> (repeat rw [List.length_map] at hc) <;> (try exact absd hc)) | ((first | apply AL_t rfl | apply AL_0 rfl | apply AD_t rfl | apply AD_0 rfl); focus (first | exact z_auto | exact c_A (hv) | fail)) | refine thenA_n ?_ | refine thenA_r ?_ | refine thenA_e ?_ | refine inB_n ?_ | refine inB_r ?_ | refine inB_hit ?_ | refine inB_miss rfl ?_ | ((first | refine AL_cl rfl rfl rfl ⟨fun hc => ?_, fun hc => ?_⟩ | refine AD_cl rfl rfl rfl ⟨fun hc => ?_, fun hc => ?_⟩) <;> (fail_if_success (have q : (true = true) := hc)) <;> (fail_if_success (have q : (false = false) := hc)) <;> (repeat rw [List.length_map] at hc) <;> (try exact absd hc)) | refine AW_cond_nil rfl rfl (fun hc => ?_) ?_))
    refine AW_loopP (X := Nat) (fun k => (k : Int) ≤ probes ∧ rhasP bs bs.length seed (verB r c) k = true)
      (fun k => mkSt [(2, .ptr 2 0 0), (3, .ptr 3 0 0), (5, iC .i64 (k : Nat))] [(2, .box 32 [.per (lstP 1 (bs.map boolP)), iC .i64 probes, iC .u64 seed]), (3, .box 35 [iC .i64 r, iC .i64 c])]) (fun k => probes.toNat - k) 0 ⟨by omega, rfl⟩ ?_ ?_
    · exact le_auto
    · rintro k ⟨hk, hP⟩
      by_cases hlt : (k : Int) < probes
      · have h3 := rb_Probe bs probes seed r c k (by omega) h1 h2 o1 o2
        have hml := probeN_lt bs.length seed (verB r c) k (by omega)
        have hs1 := rhasP_succ bs bs.length seed (verB r c) k
        have hs2 := @rhasP_stop bs bs.length seed (verB r c) k probes.toNat (by omega)
        rw [hP, Bool.true_and] at hs1
        generalize probeN bs.length seed (verB r c) k = m at *
        have hm8 : m < bs.length := by omega
        have hg : bs.getD m false = bs[m] := by rw [List.getD_eq_getElem?_getD, List.getElem?_eq_getElem hm8]; rfl
        rw [hg] at hs1 hs2
        clear hv hP hg
        (repeat' (first | refine AW_seq ?_ | refine AW_block ?_ | refine AW_skip ?_ | refine AW_exit ?_ | refine AW_ret ?_ | refine AW_region ?_ | refine AW_draw mixed0 ?_ | refine AL_nil ?_ | refine AD_nil (by kernel_rfl) ?_ | (refine AW_cl rfl rfl ⟨fun hc => ?_, fun hc => ?_⟩ <;> (repeat rw [List.length_map] at hc) <;> (try exact absd hc)) | ((first | apply AL_t rfl | apply AL_0 rfl | apply AD_t rfl | apply AD_0 rfl); focus (first | exact z_auto | exact c_A (h3) | fail)) | refine thenA_n ?_ | refine thenA_r ?_ | refine thenA_e ?_ | refine inB_n ?_ | refine inB_r ?_ | refine inB_hit ?_ | refine inB_miss rfl ?_ | ((first | refine AL_cl rfl rfl rfl ⟨fun hc => ?_, fun hc => ?_⟩ | refine AD_cl rfl rfl rfl ⟨fun hc => ?_, fun hc => ?_⟩) <;> (fail_if_success (have q : (true = true) := hc)) <;> (fail_if_success (have q : (false = false) := hc)) <;> (repeat rw [List.length_map] at hc) <;> (try exact absd hc)) | refine AW_cond_nil rfl rfl (fun hc => ?_) ?_))
        · rw [hs2 (by assumption)]
          (refine ⟨(by first | exact .inl rfl | exact .inr rfl), res1 rfl ?_⟩)
          exact rv_bool rfl rfl
        · rename_i hc
          refine ⟨k + 1, ⟨by omega, hs1.trans hc⟩, by omega, ?_⟩
          exact le_auto
      · have hkp : probes.toNat = k := by omega
        rw [hkp, hP]
        (repeat' (first | refine AW_seq ?_ | refine AW_block ?_ | refine AW_skip ?_ | refine AW_exit ?_ | refine AW_ret ?_ | refine AW_region ?_ | refine AW_draw mixed0 ?_ | refine AL_nil ?_ | refine AD_nil (by kernel_rfl) ?_ | (refine AW_cl rfl rfl ⟨fun hc => ?_, fun hc => ?_⟩ <;> (repeat rw [List.length_map] at hc) <;> (try exact absd hc)) | ((first | apply AL_t rfl | apply AL_0 rfl | apply AD_t rfl | apply AD_0 rfl); focus (first | exact z_auto | fail)) | refine thenA_n ?_ | refine thenA_r ?_ | refine thenA_e ?_ | refine inB_n ?_ | refine inB_r ?_ | refine inB_hit ?_ | refine inB_miss rfl ?_ | ((first | refine AL_cl rfl rfl rfl ⟨fun hc => ?_, fun hc => ?_⟩ | refine AD_cl rfl rfl rfl ⟨fun hc => ?_, fun hc => ?_⟩) <;> (fail_if_success (have q : (true = true) := hc)) <;> (fail_if_success (have q : (false = false) := hc)) <;> (repeat rw [List.length_map] at hc) <;> (try exact absd hc)) | refine AW_cond_nil rfl rfl (fun hc => ?_) ?_))
        (refine ⟨(by first | exact .inl rfl | exact .inr rfl), res1 rfl ?_⟩)
        exact rv_bool rfl rfl
theorem rb_Add (bs : List Bool) (probes seed r c : Int) (h1 : 1 ≤ bs.length) (h2 : bs.length ≤ 4096) (p1 : 0 ≤ probes) (p2 : probes ≤ 8) : Fn Try.prog 18 [.per (rblP bs probes seed), vrC r c] (.per (rblP (raddV bs bs.length probes seed r c) probes seed)) := by
  have hv := rver_Right r c
  unfold raddV
  cases hr : verR r c with
  | false =>
    rw [hr] at hv
    rw [if_neg (by simp)]
    refine fn_intro Try.func18 rfl (by kernel_rfl) Try.ntmps18 (Nat.le_of_ble_eq_true rfl) ?_
    (repeat' (first | refine AW_seq ?_ | refine AW_block ?_ | refine AW_skip ?_ | refine AW_exit ?_ | refine AW_ret ?_ | refine AW_region ?_ | refine AW_draw mixed0 ?_ | refine AL_nil ?_ | refine AD_nil (by kernel_rfl) ?_ | (refine AW_cl rfl rfl ⟨fun hc => ?_, fun hc => ?_⟩ <;> (repeat rw [List.length_map] at hc) <;> (try exact absd hc)) | ((first | apply AL_t rfl | apply AL_0 rfl | apply AD_t rfl | apply AD_0 rfl); focus (first | exact z_auto | exact c_A (hv) | fail)) | refine thenA_n ?_ | refine thenA_r ?_ | refine thenA_e ?_ | refine inB_n ?_ | refine inB_r ?_ | refine inB_hit ?_ | refine inB_miss rfl ?_ | ((first | refine AL_cl rfl rfl rfl ⟨fun hc => ?_, fun hc => ?_⟩ | refine AD_cl rfl rfl rfl ⟨fun hc => ?_, fun hc => ?_⟩) <;> (fail_if_success (have q : (true = true) := hc)) <;> (fail_if_success (have q : (false = false) := hc)) <;> (repeat rw [List.length_map] at hc) <;> (try exact absd hc)) | refine AW_cond_nil rfl rfl (fun hc => ?_) ?_))
    refine ⟨.inl rfl, ResO_le (Le_fz 7 _ 4 1 rfl rfl) (res1 rfl ?_)⟩
    exact rv_cA inferInstance inferInstance rfl rfl rfl rfl rfl rfl
  | true =>
    rw [hr] at hv
    obtain ⟨o1, o2⟩ := ok_ver hr
    rw [if_pos rfl]
    refine fn_intro Try.func18 rfl (by kernel_rfl) Try.ntmps18 (Nat.le_of_ble_eq_true rfl) ?_
    (repeat' (first | refine AW_seq ?_ | refine AW_block ?_ | refine AW_skip ?_ | refine AW_exit ?_ | refine AW_ret ?_ | refine AW_region ?_ | refine AW_draw mixed0 ?_ | refine AL_nil ?_ | refine AD_nil (by kernel_rfl) ?_ | (refine AW_cl rfl rfl ⟨fun hc => ?_, fun hc => ?_⟩ <;> (repeat rw [List.length_map] at hc) <;> (try exact absd hc)) | ((first | apply AL_t rfl | apply AL_0 rfl | apply AD_t rfl | apply AD_0 rfl); focus (first | exact z_auto | exact c_A (hv) | fail)) | refine thenA_n ?_ | refine thenA_r ?_ | refine thenA_e ?_ | refine inB_n ?_ | refine inB_r ?_ | refine inB_hit ?_ | refine inB_miss rfl ?_ | ((first | refine AL_cl rfl rfl rfl ⟨fun hc => ?_, fun hc => ?_⟩ | refine AD_cl rfl rfl rfl ⟨fun hc => ?_, fun hc => ?_⟩) <;> (fail_if_success (have q : (true = true) := hc)) <;> (fail_if_success (have q : (false = false) := hc)) <;> (repeat rw [List.length_map] at hc) <;> (try exact absd hc)) | refine AW_cond_nil rfl rfl (fun hc => ?_) ?_))
    refine AW_loopP (X := Nat) (fun k => (k : Int) ≤ probes)
      (fun k => mkSt [(2, .ptr 2 0 0), (3, .ptr 3 0 0), (4, .ptr 4 0 0), (5, .ptr 5 0 0), (6, iC .i64 (k : Nat))] [(2, .box 32 [.per (lstP 1 (bs.map boolP)), iC .i64 probes, iC .u64 seed]), (3, .box 35 [iC .i64 r, iC .i64 c]), (4, .box 32 [.per (rawP (.slice none 0 0)), iC .i64 0, iC .u64 0]), (5, .box 32 [.row 7 0, iC .i64 probes, iC .u64 seed]), (7, rblRow (raddP bs bs.length seed (verB r c) k))]) (fun k => probes.toNat - k) 0 (by omega) ?_ ?_
    · exact le_auto
    · rintro k hk
      have hlen := raddP_len bs bs.length seed (verB r c) k
      by_cases hlt : (k : Int) < probes
      · have h3 := rb_Probe bs probes seed r c k (by omega) h1 h2 o1 o2
        have hml := probeN_lt bs.length seed (verB r c) k (by omega)
        have hs1 := raddP_succ bs bs.length seed (verB r c) k
        generalize probeN bs.length seed (verB r c) k = m at *
        generalize raddP bs bs.length seed (verB r c) k = rk at *
        have hm8 : m < rk.length := by omega
        have HJ : (rk.map boolP)[m]? = some (boolP rk[m]) := by rw [List.getElem?_map, List.getElem?_eq_getElem hm8]; rfl
        have HS : (rk.map boolP).set m (setP (boolP rk[m]) 0 (boolP true)) = (rk.set m true).map boolP := by rw [List.map_set]; rfl
        clear hv
        (repeat' (first | refine AW_seq ?_ | refine AW_block ?_ | refine AW_skip ?_ | refine AW_exit ?_ | refine AW_ret ?_ | refine AW_region ?_ | refine AW_draw mixed0 ?_ | refine AL_nil ?_ | refine AD_nil (by kernel_rfl) ?_ | (refine AW_cl rfl rfl ⟨fun hc => ?_, fun hc => ?_⟩ <;> (repeat rw [List.length_map] at hc) <;> (try exact absd hc)) | ((first | apply AL_t rfl | apply AL_0 rfl | apply AD_t rfl | apply AD_0 rfl); focus (first | exact z_auto | exact c_A (h3) | ((apply u_k 6; (focus rfl); exact u_store_r ⟨rfl, rfl⟩ rfl inferInstance rfl rfl rfl rfl HJ rfl (part_raw rfl rfl rfl) rfl HS)) | (apply u_g; (focus rfl); apply op_gyes rfl rfl rfl rfl rfl; ((apply u_k 6; (focus rfl); exact u_store_r ⟨rfl, rfl⟩ rfl inferInstance rfl rfl rfl rfl HJ rfl (part_raw rfl rfl rfl) rfl HS))) | fail)) | refine thenA_n ?_ | refine thenA_r ?_ | refine thenA_e ?_ | refine inB_n ?_ | refine inB_r ?_ | refine inB_hit ?_ | refine inB_miss rfl ?_ | ((first | refine AL_cl rfl rfl rfl ⟨fun hc => ?_, fun hc => ?_⟩ | refine AD_cl rfl rfl rfl ⟨fun hc => ?_, fun hc => ?_⟩) <;> (fail_if_success (have q : (true = true) := hc)) <;> (fail_if_success (have q : (false = false) := hc)) <;> (repeat rw [List.length_map] at hc) <;> (try exact absd hc)) | refine AW_cond_nil rfl rfl (fun hc => ?_) ?_))
        refine ⟨k + 1, by omega, by omega, ?_⟩
        rw [hs1]
        exact le_auto
      · have hkp : probes.toNat = k := by omega
        rw [hkp]
        (repeat' (first | refine AW_seq ?_ | refine AW_block ?_ | refine AW_skip ?_ | refine AW_exit ?_ | refine AW_ret ?_ | refine AW_region ?_ | refine AW_draw mixed0 ?_ | refine AL_nil ?_ | refine AD_nil (by kernel_rfl) ?_ | (refine AW_cl rfl rfl ⟨fun hc => ?_, fun hc => ?_⟩ <;> (repeat rw [List.length_map] at hc) <;> (try exact absd hc)) | ((first | apply AL_t rfl | apply AL_0 rfl | apply AD_t rfl | apply AD_0 rfl); focus (first | exact z_auto | fail)) | refine thenA_n ?_ | refine thenA_r ?_ | refine thenA_e ?_ | refine inB_n ?_ | refine inB_r ?_ | refine inB_hit ?_ | refine inB_miss rfl ?_ | ((first | refine AL_cl rfl rfl rfl ⟨fun hc => ?_, fun hc => ?_⟩ | refine AD_cl rfl rfl rfl ⟨fun hc => ?_, fun hc => ?_⟩) <;> (fail_if_success (have q : (true = true) := hc)) <;> (fail_if_success (have q : (false = false) := hc)) <;> (repeat rw [List.length_map] at hc) <;> (try exact absd hc)) | refine AW_cond_nil rfl rfl (fun hc => ?_) ?_))
        refine ⟨.inl rfl, ResO_le (Le_fz 7 _ 4 1 rfl rfl) (res1 rfl ?_)⟩
        exact rv_cA inferInstance inferInstance rfl rfl rfl rfl rfl rfl
theorem rb_Bytes (bs : List Bool) (probes seed : Int) (h1 : 1 ≤ bs.length) (h2 : bs.length ≤ 4096) (p1 : 1 ≤ probes) (p2 : probes ≤ 8) :
    Fn Try.prog 22 [.per (rblP bs probes seed)] (ownB (bloomB bs.length probes (addBs (List.replicate ((bs.length + 7) / 8) 0) 0 bs))) := by
  have hlen := addBs_len bs (List.replicate ((bs.length + 7) / 8) 0) 0
  rw [List.length_replicate] at hlen
  generalize hR : addBs (List.replicate ((bs.length + 7) / 8) 0) 0 bs = R at *
  have ob : okNum (bs.length : Int) := by unfold okNum; omega
  have op : okNum probes := by unfold okNum; omega
  have hp := ref_Put [(bs.length : Int), probes] (by simp) (ok2 ob op)
  have ht := ref_Text ⟨R.toArray⟩ (by rw [ba_size]; omega)
  have hl1 := numI_le _ ob
  have hl2 := numI_le _ op
  have hl3 : (textB ⟨R.toArray⟩).length ≤ 9 + R.length := by
    have := numB_len9 (ByteArray.mk R.toArray).size (by rw [ba_size]; omega)
    unfold textB; simp; omega
  refine fn_intro Try.func22 rfl (by kernel_rfl) Try.ntmps22 (Nat.le_of_ble_eq_true rfl) ?_
  (repeat' (first | refine AW_seq ?_ | refine AW_block ?_ | refine AW_skip ?_ | refine AW_exit ?_ | refine AW_ret ?_ | refine AW_region ?_ | refine AW_draw mixed0 ?_ | refine AL_nil ?_ | refine AD_nil (by kernel_rfl) ?_ | (refine AW_cl rfl rfl ⟨fun hc => ?_, fun hc => ?_⟩ <;> (repeat rw [List.length_map] at hc) <;> (try exact absd hc)) | ((first | apply AL_t rfl | apply AL_0 rfl | apply AD_t rfl | apply AD_0 rfl); focus (first | ((exact u_mk (m := (bs.length + 7) / 8) ⟨rfl, rfl, rfl⟩ rfl inferInstance inferInstance rfl rfl rfl rfl (by omega) (by omega))) | (apply u_g; (focus rfl); apply op_gyes rfl rfl rfl rfl rfl; ((exact u_mk (m := (bs.length + 7) / 8) ⟨rfl, rfl, rfl⟩ rfl inferInstance inferInstance rfl rfl rfl rfl (by omega) (by omega)))) | exact z_auto | fail)) | refine thenA_n ?_ | refine thenA_r ?_ | refine thenA_e ?_ | refine inB_n ?_ | refine inB_r ?_ | refine inB_hit ?_ | refine inB_miss rfl ?_ | ((first | refine AL_cl rfl rfl rfl ⟨fun hc => ?_, fun hc => ?_⟩ | refine AD_cl rfl rfl rfl ⟨fun hc => ?_, fun hc => ?_⟩) <;> (fail_if_success (have q : (true = true) := hc)) <;> (fail_if_success (have q : (false = false) := hc)) <;> (repeat rw [List.length_map] at hc) <;> (try exact absd hc)) | refine AW_cond_nil rfl rfl (fun hc => ?_) ?_))
  rw [zeros_map]
  refine AW_loopP (X := Nat × List UInt8) (fun x => x.1 ≤ bs.length ∧ x.2.length = (bs.length + 7) / 8 ∧ (∀ m, hasBit x.2 m = true → m < x.1) ∧ addBs x.2 x.1 (bs.drop x.1) = R)
    (fun x => mkSt [(1, .ptr 1 0 0), (3, .row 13 0), (4, iC .i64 (x.1 : Nat))] [(1, .box 32 [.per (lstP 1 (bs.map boolP)), iC .i64 probes, iC .u64 seed]), (13, blRow x.2)]) (fun x => bs.length - x.1) (0, List.replicate ((bs.length + 7) / 8) 0)
    ⟨Nat.zero_le _, by simp, fun m hm => absurd hm (by simp [hasBit_zero]), hR⟩ ?_ ?_
  · exact le_auto
  · rintro ⟨i, rw0⟩ ⟨g1, g2, g3, g4⟩
    simp only at g1 g2 g3 g4 ⊢
    by_cases hi : i < bs.length
    · rw [List.drop_eq_getElem_cons hi, addBs] at g4
      cases hb : bs[i] with
      | false =>
        rw [hb, if_neg (by simp)] at g4
        clear hp ht
        (repeat' (first | refine AW_seq ?_ | refine AW_block ?_ | refine AW_skip ?_ | refine AW_exit ?_ | refine AW_ret ?_ | refine AW_region ?_ | refine AW_draw mixed0 ?_ | refine AL_nil ?_ | refine AD_nil (by kernel_rfl) ?_ | (refine AW_cl rfl rfl ⟨fun hc => ?_, fun hc => ?_⟩ <;> (repeat rw [List.length_map] at hc) <;> (try exact absd hc)) | ((first | apply AL_t rfl | apply AL_0 rfl | apply AD_t rfl | apply AD_0 rfl); focus (first | exact z_auto | fail)) | refine thenA_n ?_ | refine thenA_r ?_ | refine thenA_e ?_ | refine inB_n ?_ | refine inB_r ?_ | refine inB_hit ?_ | refine inB_miss rfl ?_ | ((first | refine AL_cl rfl rfl rfl ⟨fun hc => ?_, fun hc => ?_⟩ | refine AD_cl rfl rfl rfl ⟨fun hc => ?_, fun hc => ?_⟩) <;> (fail_if_success (have q : (true = true) := hc)) <;> (fail_if_success (have q : (false = false) := hc)) <;> (repeat rw [List.length_map] at hc) <;> (try exact absd hc)) | refine AW_cond_nil rfl rfl (fun hc => ?_) ?_))
        refine ⟨(i + 1, rw0), ⟨by simp only; omega, g2, fun m hm => by have := g3 m hm; simp only; omega, g4⟩, by simp only; omega, ?_⟩
        exact le_auto
      | true =>
        rw [hb, if_pos rfl] at g4
        have hi8 : i / 8 < rw0.length := by omega
        have hz : (((i : Int) / 8)).toNat = i / 8 := by omega
        have HJ : (rw0.map byteP)[(((i : Int) / 8)).toNat]? = some (byteP rw0[i / 8]) := by rw [hz, List.getElem?_map, List.getElem?_eq_getElem hi8]; rfl
        have hfree : (rw0[i / 8] &&& bitOf i) = 0 := by
          have hh : hasBit rw0 i = false := by
            cases q : hasBit rw0 i with
            | false => rfl
            | true => have := g3 i q; omega
          unfold hasBit at hh
          rw [List.getElem?_eq_getElem hi8, Option.getD_some] at hh
          simpa using hh
        have hadd := add_bit hfree
        have HS : (rw0.map byteP).set (((i : Int) / 8)).toNat (setP (byteP rw0[i / 8]) 0 (byteP (rw0[i / 8] ||| bitOf i))) = (addBit rw0 i).map byteP := by
          unfold addBit
          rw [hz, List.map_set, List.getElem?_eq_getElem hi8]; rfl
        have hbt := fun m => hasBit_add rw0 i m hi8
        generalize rw0[i / 8] = x at *
        have hal := addBit_len rw0 i
        generalize addBit rw0 i = rw1 at *
        clear hp ht hfree
        (repeat' (first | refine AW_seq ?_ | refine AW_block ?_ | refine AW_skip ?_ | refine AW_exit ?_ | refine AW_ret ?_ | refine AW_region ?_ | refine AL_nil ?_ | refine AD_nil (by kernel_rfl) ?_ | (refine AW_cl rfl rfl ⟨fun hc => ?_, fun hc => ?_⟩ <;> (repeat rw [List.length_map] at hc) <;> (try exact absd hc)) | ((first | apply AL_t rfl | apply AL_0 rfl | apply AD_t rfl | apply AD_0 rfl); focus (first | exact z_auto | fail)) | refine thenA_n ?_ | refine thenA_r ?_ | refine thenA_e ?_ | refine inB_n ?_ | refine inB_r ?_ | refine inB_hit ?_ | refine inB_miss rfl ?_ | ((first | refine AL_cl rfl rfl rfl ⟨fun hc => ?_, fun hc => ?_⟩ | refine AD_cl rfl rfl rfl ⟨fun hc => ?_, fun hc => ?_⟩) <;> (fail_if_success (have q : (true = true) := hc)) <;> (fail_if_success (have q : (false = false) := hc)) <;> (repeat rw [List.length_map] at hc) <;> (try exact absd hc)) | refine AW_cond_nil rfl rfl (fun hc => ?_) ?_))
        refine AW_loopP (X := Nat) (fun k => k ≤ i % 8)
          (fun k => mkSt [(1, .ptr 1 0 0), (3, .row 13 0), (4, iC .i64 (i : Nat)), (5, iC .u8 ((2 ^ k : Nat) : Int)), (6, iC .i64 (k : Nat))] [(1, .box 32 [.per (lstP 1 (bs.map boolP)), iC .i64 probes, iC .u64 seed]), (13, blRow rw0)]) (fun k => i % 8 - k) 0 (Nat.zero_le _) ?_ ?_
        · exact le_auto
        · rintro k hk
          by_cases hlt : k < i % 8
          · have hmul := @mul_bit k (by omega)
            (repeat' (first | refine AW_seq ?_ | refine AW_block ?_ | refine AW_skip ?_ | refine AW_exit ?_ | refine AW_ret ?_ | refine AW_region ?_ | refine AW_draw mixed0 ?_ | refine AL_nil ?_ | refine AD_nil (by kernel_rfl) ?_ | (refine AW_cl rfl rfl ⟨fun hc => ?_, fun hc => ?_⟩ <;> (repeat rw [List.length_map] at hc) <;> (try exact absd hc)) | ((first | apply AL_t rfl | apply AL_0 rfl | apply AD_t rfl | apply AD_0 rfl); focus (first | ((apply u_k 8; (focus rfl); exact op_num ⟨rfl, rfl, rfl⟩ rfl rfl rfl rfl hmul)) | (apply u_g; (focus rfl); apply op_gyes rfl rfl rfl rfl rfl; ((apply u_k 8; (focus rfl); exact op_num ⟨rfl, rfl, rfl⟩ rfl rfl rfl rfl hmul))) | exact z_auto | fail)) | refine thenA_n ?_ | refine thenA_r ?_ | refine thenA_e ?_ | refine inB_n ?_ | refine inB_r ?_ | refine inB_hit ?_ | refine inB_miss rfl ?_ | ((first | refine AL_cl rfl rfl rfl ⟨fun hc => ?_, fun hc => ?_⟩ | refine AD_cl rfl rfl rfl ⟨fun hc => ?_, fun hc => ?_⟩) <;> (fail_if_success (have q : (true = true) := hc)) <;> (fail_if_success (have q : (false = false) := hc)) <;> (repeat rw [List.length_map] at hc) <;> (try exact absd hc)) | refine AW_cond_nil rfl rfl (fun hc => ?_) ?_))
            refine ⟨k + 1, by omega, by omega, ?_⟩
            exact le_auto
          · obtain rfl : k = i % 8 := by omega
            (repeat' (first | refine AW_seq ?_ | refine AW_block ?_ | refine AW_skip ?_ | refine AW_exit ?_ | refine AW_ret ?_ | refine AW_region ?_ | refine AW_draw mixed0 ?_ | refine AL_nil ?_ | refine AD_nil (by kernel_rfl) ?_ | (refine AW_cl rfl rfl ⟨fun hc => ?_, fun hc => ?_⟩ <;> (repeat rw [List.length_map] at hc) <;> (try exact absd hc)) | ((first | apply AL_t rfl | apply AL_0 rfl | apply AD_t rfl | apply AD_0 rfl); focus (first | ((apply u_k 8; (focus rfl); exact op_num ⟨rfl, rfl, rfl⟩ rfl rfl rfl rfl hadd)) | (apply u_g; (focus rfl); apply op_gyes rfl rfl rfl rfl rfl; ((apply u_k 8; (focus rfl); exact op_num ⟨rfl, rfl, rfl⟩ rfl rfl rfl rfl hadd))) | ((apply u_k 5; (focus rfl); exact u_load_r1 ⟨rfl, rfl, rfl⟩ rfl inferInstance rfl rfl rfl HJ rfl)) | (apply u_g; (focus rfl); apply op_gyes rfl rfl rfl rfl rfl; ((apply u_k 5; (focus rfl); exact u_load_r1 ⟨rfl, rfl, rfl⟩ rfl inferInstance rfl rfl rfl HJ rfl))) | exact z_auto | ((apply u_k 6; (focus rfl); exact u_store_r ⟨rfl, rfl⟩ rfl inferInstance rfl rfl rfl rfl HJ rfl (part_raw rfl rfl rfl) rfl HS)) | (apply u_g; (focus rfl); apply op_gyes rfl rfl rfl rfl rfl; ((apply u_k 6; (focus rfl); exact u_store_r ⟨rfl, rfl⟩ rfl inferInstance rfl rfl rfl rfl HJ rfl (part_raw rfl rfl rfl) rfl HS))) | fail)) | refine thenA_n ?_ | refine thenA_r ?_ | refine thenA_e ?_ | refine inB_n ?_ | refine inB_r ?_ | refine inB_hit ?_ | refine inB_miss rfl ?_ | ((first | refine AL_cl rfl rfl rfl ⟨fun hc => ?_, fun hc => ?_⟩ | refine AD_cl rfl rfl rfl ⟨fun hc => ?_, fun hc => ?_⟩) <;> (fail_if_success (have q : (true = true) := hc)) <;> (fail_if_success (have q : (false = false) := hc)) <;> (repeat rw [List.length_map] at hc) <;> (try exact absd hc)) | refine AW_cond_nil rfl rfl (fun hc => ?_) ?_))
            refine ⟨(i + 1, rw1), ⟨by simp only; omega, by simp only; omega, fun m hm => ?_, g4⟩, by simp only; omega, ?_⟩
            · simp only at hm ⊢
              rw [hbt, Bool.or_eq_true] at hm
              rcases hm with q | q
              · have := g3 m q; omega
              · have := eq_of_beq q; omega
            · exact le_auto
    · obtain rfl : i = bs.length := by omega
      rw [List.drop_length] at g4
      have g4 : rw0 = R := g4
      subst g4
      (repeat' (first | refine AW_seq ?_ | refine AW_block ?_ | refine AW_skip ?_ | refine AW_exit ?_ | refine AW_ret ?_ | refine AW_region ?_ | refine AW_draw mixed0 ?_ | refine AL_nil ?_ | refine AD_nil (by kernel_rfl) ?_ | (refine AW_cl rfl rfl ⟨fun hc => ?_, fun hc => ?_⟩ <;> (repeat rw [List.length_map] at hc) <;> (try exact absd hc)) | ((first | apply AL_t rfl | apply AL_0 rfl | apply AD_t rfl | apply AD_0 rfl); focus (first | exact z_auto | exact c_A (hp) | exact c_A (ht) | fail)) | refine thenA_n ?_ | refine thenA_r ?_ | refine thenA_e ?_ | refine inB_n ?_ | refine inB_r ?_ | refine inB_hit ?_ | refine inB_miss rfl ?_ | ((first | refine AL_cl rfl rfl rfl ⟨fun hc => ?_, fun hc => ?_⟩ | refine AD_cl rfl rfl rfl ⟨fun hc => ?_, fun hc => ?_⟩) <;> (fail_if_success (have q : (true = true) := hc)) <;> (fail_if_success (have q : (false = false) := hc)) <;> (repeat rw [List.length_map] at hc) <;> (try exact absd hc)) | refine AW_cond_nil rfl rfl (fun hc => ?_) ?_))
      (refine ⟨(by first | exact .inl rfl | exact .inr rfl), res1 rfl ?_⟩)
      have hfin : (bloomB bs.length probes rw0).map byteP = ([(bs.length : Int), probes].flatMap numI).map byteP ++ (textB ⟨rw0.toArray⟩).map byteP := by unfold bloomB; rw [List.map_append]
      unfold ownB
      rw [hfin]
      exact rv_own rfl rfl rfl
end
end Go.Proofs.Ytbpmafpmlapekaa
namespace Go.Proofs.Ytbpmafpmlapekaa
open Go.RowKit
def bitsOf (n : Nat) (row : List UInt8) : List Bool := (List.range n).map (hasBit row)
theorem bitsOf_len (n : Nat) (row : List UInt8) : (bitsOf n row).length = n := by simp [bitsOf]
theorem bitsOf_getD {n : Nat} {row : List UInt8} {m : Nat} (h : m < n) : (bitsOf n row).getD m false = hasBit row m := by
  simp [bitsOf, h]
/-- no bit behind the last one -/
def NoTop (n : Nat) (row : List UInt8) : Prop := ∀ m, hasBit row m = true → m < n
theorem bitsOf_zero (n k : Nat) : bitsOf n (List.replicate k 0) = List.replicate n false := by
  apply List.ext_getElem
  · simp [bitsOf]
  · intro i h1 h2
    simp [bitsOf, hasBit_zero]
theorem bitsOf_add {n m : Nat} {row : List UInt8} (h : m / 8 < row.length) : (bitsOf n row).set m true = bitsOf n (addBit row m) := by
  apply List.ext_getElem
  · simp [bitsOf]
  · intro i h1 h2
    rw [List.getElem_set]
    simp only [bitsOf, List.getElem_map, List.getElem_range]
    rw [hasBit_add row m i h]
    by_cases e : m = i
    · subst e; simp
    · rw [if_neg e, show (i == m) = false by simpa using fun q => e q.symm, Bool.or_false]
theorem raddP_bits {n : Nat} {row : List UInt8} (h1 : 1 ≤ n) (hl : row.length = (n + 7) / 8) (seed : Int) (l : List UInt8) (k : Nat) : raddP (bitsOf n row) n seed l k = bitsOf n (addP row n seed l k) := by
  induction k with
  | zero => rfl
  | succ k ih =>
    rw [raddP_succ, addP_succ, ih, bitsOf_add]
    rw [addP_len, hl]
    have := probeN_lt n seed l k (by omega)
    omega
theorem raddV_bits {n : Nat} {row : List UInt8} (h1 : 1 ≤ n) (hl : row.length = (n + 7) / 8) (probes seed r c : Int) : raddV (bitsOf n row) n probes seed r c = bitsOf n (addV row n probes seed (r, c)) := by
  unfold raddV addV
  split
  · exact raddP_bits h1 hl _ _ _
  · rfl
theorem rhasV_bits {n : Nat} {row : List UInt8} (h1 : 1 ≤ n) (probes seed r c : Int) : rhasV (bitsOf n row) n probes seed r c = hasV row n probes seed r c := by
  unfold rhasV hasV
  congr 1
  unfold rhasP bhP
  rw [Bool.eq_iff_iff, List.all_eq_true, List.all_eq_true]
  have : ∀ i : Nat, (bitsOf n row).getD (probeN n seed (verB r c) i) false = hasBit row (probeN n seed (verB r c) i) := fun i => bitsOf_getD (by have := probeN_lt n seed (verB r c) i (by omega); omega)
  simp only [this]
theorem addV_top {n : Nat} {row : List UInt8} (h1 : 1 ≤ n) (hl : row.length = (n + 7) / 8) (probes seed : Int) (v : Int × Int) (ht : NoTop n row) : NoTop n (addV row n probes seed v) := fun m hm => by
  rw [hasBit_addV (by omega) (by simpa using hl), Bool.or_eq_true] at hm
  rcases hm with h | h
  · exact ht m h
  · have := inV_lt (bits := n) (by omega) h; omega
theorem cnt8 (row : List UInt8) : ((List.range (8 * row.length)).filter (hasBit row)).length = onesR row := by
  induction row with
  | nil => rfl
  | cons x l ih =>
    rw [onesR_cons, List.length_cons, show 8 * (l.length + 1) = 8 + 8 * l.length by omega, List.range_add, List.filter_append, List.length_append, ← ih]
    have e1 : ((List.range 8).filter (hasBit (x :: l))).length = ones8 x := by
      unfold ones8
      first | (congr 1; done) | (congr 1; apply List.filter_congr; intro k hk; rw [hasBit_cons, if_pos (List.mem_range.1 hk)])
    have e2 : (((List.range (8 * l.length)).map (8 + ·)).filter (hasBit (x :: l))).length = ((List.range (8 * l.length)).filter (hasBit l)).length := by
      rw [List.filter_map, List.length_map]
      congr 1
      apply List.filter_congr
      intro k _
      simp only [Function.comp]
      rw [hasBit_cons, if_neg (by omega), Nat.add_sub_cancel_left]
    rw [e1, e2]
theorem cnt_bits {n : Nat} {row : List UInt8} (hl : row.length = (n + 7) / 8) (ht : NoTop n row) : ((bitsOf n row).filter id).length = onesR row := by
  rw [← cnt8]
  obtain ⟨d, hd⟩ : ∃ d, 8 * row.length = n + d := ⟨8 * row.length - n, by omega⟩
  rw [hd, List.range_add, List.filter_append, List.length_append]
  have h0 : ((List.range d).map (n + ·)).filter (hasBit row) = [] := by
    rw [List.filter_eq_nil_iff]
    intro a ha h
    obtain ⟨k, _, rfl⟩ := List.mem_map.1 ha
    have := ht _ h; omega
  rw [h0, List.length_nil, Nat.add_zero]
  unfold bitsOf
  rw [List.filter_map, List.length_map]
  rfl
theorem addBs_bit : ∀ (bs : List Bool) (row : List UInt8) (i m : Nat), i + bs.length ≤ 8 * row.length → hasBit (addBs row i bs) m = (hasBit row m || (decide (i ≤ m) && bs.getD (m - i) false))
  | [], row, i, m, _ => by simp [addBs]
  | b :: bs, row, i, m, h => by
    rw [List.length_cons] at h
    have hi : i / 8 < row.length := by omega
    rw [addBs, addBs_bit bs _ (i + 1) m (by
      split
      · rw [addBit_len]; omega
      · omega)]
    have hb : hasBit (if b then addBit row i else row) m = (hasBit row m || (b && (m == i))) := by
      cases b with
      | true => simp only [if_true, Bool.true_and]; exact hasBit_add row i m hi
      | false => simp
    rw [hb, Bool.or_assoc]
    congr 1
    by_cases e : m = i
    · subst e; simp; intro h; omega
    · rw [show (m == i) = false by simpa using e, Bool.and_false, Bool.false_or]
      by_cases q : i + 1 ≤ m
      · obtain ⟨d, rfl⟩ : ∃ d, m = i + 1 + d := ⟨m - (i + 1), by omega⟩
        rw [show i + 1 + d - (i + 1) = d by omega, show i + 1 + d - i = d + 1 by omega]
        simp; omega
      · rw [decide_eq_false q, decide_eq_false (by omega : ¬ i ≤ m)]; rfl
theorem addBs_back {n : Nat} {row : List UInt8} (hl : row.length = (n + 7) / 8) (ht : NoTop n row) : addBs (List.replicate ((n + 7) / 8) 0) 0 (bitsOf n row) = row := by
  refine rows_eq (by rw [addBs_len, List.length_replicate, hl]) fun m => ?_
  rw [addBs_bit _ _ _ _ (by rw [bitsOf_len, List.length_replicate]; omega), hasBit_zero, Bool.false_or, decide_eq_true (Nat.zero_le m), Bool.true_and, Nat.sub_zero]
  by_cases h : m < n
  · exact bitsOf_getD h
  · rw [List.getD_eq_getElem?_getD, List.getElem?_eq_none (by rw [bitsOf_len]; omega)]
    cases hh : hasBit row m with
    | false => rfl
    | true => exact absurd (ht m hh) h
theorem top_of {bits : Int} {row : List UInt8} (_ : 1 ≤ bits) (hl : row.length = (bits.toNat + 7) / 8) (h : ¬ topBad bits row) : NoTop bits.toNat row := fun m hm => by
  rcases Nat.lt_or_ge m bits.toNat with q | q
  · exact q
  exfalso
  apply h
  have hm8 : m / 8 < row.length := by
    rcases Nat.lt_or_ge (m / 8) row.length with g | g
    · exact g
    · unfold hasBit at hm
      rw [List.getElem?_eq_none g] at hm
      simp at hm
  have e1 : m / 8 = row.length - 1 := by omega
  have e2 : 0 < bits.toNat % 8 := by omega
  have e3 : bits.toNat % 8 ≤ m % 8 := by omega
  refine ⟨e2, ?_⟩
  unfold hasBit at hm
  rw [e1] at hm
  rw [List.getD_eq_getElem?_getD]
  generalize row[row.length - 1]?.getD 0 = x at *
  have : ∀ j k : Fin 8, ∀ x : Fin 256, j ≤ k → (UInt8.ofNat x.val &&& UInt8.ofNat (2 ^ k.val) != 0) = true → 0 < (UInt8.ofNat x.val).toNat / 2 ^ j.val := by decide +kernel
  have := this ⟨bits.toNat % 8, Nat.mod_lt _ (by decide)⟩ ⟨m % 8, Nat.mod_lt _ (by decide)⟩ ⟨x.toNat, x.toNat_lt⟩ e3
  simpa [bitOf] using this (by simpa [bitOf] using hm)
theorem no_top {bits : Int} {row : List UInt8} (h1 : 1 ≤ bits) (hl : row.length = (bits.toNat + 7) / 8) (h : NoTop bits.toNat row) : ¬ topBad bits row := not_top h1 hl fun n hn => by have := h n hn; omega
theorem rdBl_back {b : List UInt8} {bits probes : Int} {row : List UInt8} (h : rdBl b = ((bits, probes, row), 0)) : bloomB bits probes row = b ∧ row.length = (bits.toNat + 7) / 8 ∧ 1 ≤ bits ∧ bits ≤ 4096 ∧ 1 ≤ probes ∧ probes ≤ 8 ∧ NoTop bits.toNat row := by
  dsimp only [rdBl] at h
  generalize hp : withinSt 1 4096 b 0 = p at *
  generalize hq : withinSt 1 8 p.2.1 p.2.2 = q at *
  generalize hs : textSt 281474976710656 q.2.1 q.2.2 = s at *
  split at h
  · rename_i hne; exact absurd (congrArg Prod.snd h) hne
  · rename_i he
    have he := Decidable.of_not_not he
    obtain ⟨a1, a2, a3, a4, a5⟩ := rd_parts hp hq hs he
    split at h
    · rename_i hok
      obtain ⟨hl, hnt⟩ := hok
      simp only [Prod.mk.injEq, and_true] at h
      obtain ⟨rfl, rfl, rfl⟩ := h
      refine ⟨?_, hl, a1, a2, a3, a4, top_of a1 hl hnt⟩
      obtain ⟨s1, s2, s3⟩ := s
      obtain ⟨q1, q2, q3⟩ := q
      obtain ⟨p1, p2, p3⟩ := p
      simp only at hp hq hs he ⊢
      obtain ⟨rfl, rfl⟩ := end_zero he
      obtain ⟨x, l1, b1, b2, b3, b4, b5⟩ := text_zero hs
      obtain ⟨rfl, _, _, b6⟩ := within_zero b1
      obtain ⟨rfl, _, _, c6⟩ := within_zero hq
      obtain ⟨_, _, _, d6⟩ := within_zero hp
      have e1 := (num_back (l := b) (e := 0) (by rw [d6])).2.2
      have e2 := (num_back (l := p2) (e := 0) (by rw [c6])).2.2
      have e3 := (num_back (l := q2) (e := 0) (by rw [b6])).2.2
      rw [d6] at e1; rw [c6] at e2; rw [b6] at e3
      simp only at e1 e2 e3
      have e4 : x.toNat = l1.length := by
        have := congrArg List.length b3
        rw [List.length_drop, List.length_nil] at this
        omega
      have e5 : s1 = l1 := by rw [b2, e4, List.take_length]
      subst e5
      have e6 : x = (s1.length : Int) := by omega
      rw [e1, e2, e3, e6]
      unfold bloomB textB
      rw [ba_size]
      simp [numI]
    · exact absurd (congrArg Prod.snd h) (by simp)
/-- the first i bits of a filter -/
def upTo (n : Nat) (row : List UInt8) (i : Nat) : List Bool := (List.range n).map fun m => decide (m < i) && hasBit row m
theorem upTo_zero (n : Nat) (row : List UInt8) : upTo n row 0 = List.replicate n false := by
  apply List.ext_getElem
  · simp [upTo]
  · intro i h1 h2; simp [upTo]
theorem upTo_len (n : Nat) (row : List UInt8) (i : Nat) : (upTo n row i).length = n := by simp [upTo]
theorem upTo_skip {n : Nat} {row : List UInt8} {i : Nat} (h : hasBit row i = false) : upTo n row (i + 1) = upTo n row i := by
  apply List.ext_getElem
  · simp [upTo]
  · intro j h1 h2
    simp only [upTo, List.getElem_map, List.getElem_range]
    by_cases e : j = i
    · subst e; rw [h]; simp
    · congr 1
      rw [decide_eq_decide]; omega
theorem upTo_set {n : Nat} {row : List UInt8} {i : Nat} (h : hasBit row i = true) : (upTo n row i).set i true = upTo n row (i + 1) := by
  apply List.ext_getElem
  · simp [upTo]
  · intro j h1 h2
    rw [List.getElem_set]
    simp only [upTo, List.getElem_map, List.getElem_range]
    by_cases e : i = j
    · subst e; rw [h]; simp
    · rw [if_neg e]
      congr 1
      rw [decide_eq_decide]; omega
theorem upTo_all {n : Nat} {row : List UInt8} {i : Nat} (h : n ≤ i) : upTo n row i = bitsOf n row := by
  apply List.ext_getElem
  · simp [upTo, bitsOf]
  · intro j h1 h2
    simp only [upTo, bitsOf, List.getElem_map, List.getElem_range]
    rw [upTo_len] at h1
    rw [decide_eq_true (by omega), Bool.true_and]
abbrev zblP : PV := aggP [rawP (.slice none 0 0), rawP (.int .i64 0), rawP (.int .u64 0)]
def rdV (x : (Int × Int × List UInt8) × Int) (seed : Int) : PV := if x.2 = 0 then rblP (bitsOf x.1.1.toNat x.1.2.2) x.1.2.1 seed else zblP
section
set_option maxRecDepth 10000
set_option maxHeartbeats 4000000
theorem rb_Read (b : List UInt8) (hb : b.length ≤ 1000000) (seed : Int) : Fn Try.prog 24 [.per (bysP b), iC .u64 seed] (.tup2 (.per (rdV (rdBl b) seed)) (inR (rdBl b).2)) := by
  have hs0 : b <:+ b := List.suffix_refl b
  have hb' : b.length ≤ 1000000000000 := by omega
  generalize hX : rdBl b = X
  dsimp only [rdBl] at hX
  have h1 := rr_Within b b 0 hs0 hb' 1 4096
  have hs1 := (withinSt_suf 1 4096 b 0).trans hs0
  generalize hp : withinSt 1 4096 b 0 = p at *
  have h2 := rr_Within b p.2.1 p.2.2 hs1 hb' 1 8
  have hs2 := (withinSt_suf 1 8 p.2.1 p.2.2).trans hs1
  generalize hq : withinSt 1 8 p.2.1 p.2.2 = q at *
  have h3 := rr_Text b q.2.1 q.2.2 hs2 hb' 281474976710656
  have hs3 := (textSt_suf 281474976710656 q.2.1 q.2.2).trans hs2
  generalize hs : textSt 281474976710656 q.2.1 q.2.2 = s at *
  have h4 := rr_End b s.2.1 s.2.2 hs3
  generalize hE : endSt s.2.1 s.2.2 = v at *
  have e0 : ((b.length - b.length : Nat) : Int) = 0 := by omega
  unfold rrBox at h1
  rw [e0] at h1
  clear hs0 hs1 hs2 hs3
  by_cases hv : v = 0
  · subst hv
    obtain ⟨a1, a2, a3, a4, a5⟩ := rd_parts hp hq hs hE
    clear hp hq hs hE
    rw [if_neg (by simp)] at hX
    obtain ⟨n, hn⟩ := Int.eq_ofNat_of_zero_le (show 0 ≤ p.1 by omega)
    have h5 := rb_NewM n (by omega) q.1 seed
    rw [← hn] at h5
    have hSz := ba_size s.1
    by_cases hl : s.1.length = (p.1.toNat + 7) / 8
    · have hA : ∀ i, hasBit s.1 i = true → n ≤ i → X = ((0, 0, []), 11) := fun i hi hni => by
        rw [← hX, if_neg]
        rintro ⟨_, hnt⟩
        have := top_of a1 hl hnt i hi
        omega
      have hB : NoTop n s.1 → X = ((p.1, q.1, s.1), 0) := fun ht => by
        rw [← hX, if_pos]
        exact ⟨hl, no_top a1 hl (by rwa [show p.1.toNat = n by omega])⟩
      clear hX
      obtain ⟨S, hS⟩ : ∃ S : ByteArray, S = ⟨s.1.toArray⟩ := ⟨_, rfl⟩
      have hSl : S.data.toList = s.1 := by rw [hS]
      rw [← hS] at h3 hSz
      refine fn_intro Try.func24 rfl (by kernel_rfl) Try.ntmps24 (Nat.le_of_ble_eq_true rfl) ?_
      (repeat' (first | refine AW_seq ?_ | refine AW_block ?_ | refine AW_skip ?_ | refine AW_exit ?_ | refine AW_ret ?_ | refine AW_region ?_ | refine AW_draw mixed0 ?_ | refine AL_nil ?_ | refine AD_nil (by kernel_rfl) ?_ | (refine AW_cl rfl rfl ⟨fun hc => ?_, fun hc => ?_⟩ <;> (repeat rw [List.length_map] at hc) <;> (try exact absd hc)) | ((first | apply AL_t rfl | apply AL_0 rfl | apply AD_t rfl | apply AD_0 rfl); focus (first | exact z_auto | exact c_RA (h1) | exact c_RA (h2) | exact c_RA (h3) | exact c_RA (h4) | exact c_NA (h5) | fail)) | refine thenA_n ?_ | refine thenA_r ?_ | refine thenA_e ?_ | refine inB_n ?_ | refine inB_r ?_ | refine inB_hit ?_ | refine inB_miss rfl ?_ | ((first | refine AL_cl rfl rfl rfl ⟨fun hc => ?_, fun hc => ?_⟩ | refine AD_cl rfl rfl rfl ⟨fun hc => ?_, fun hc => ?_⟩) <;> (fail_if_success (have q : (true = true) := hc)) <;> (fail_if_success (have q : (false = false) := hc)) <;> (repeat rw [List.length_map] at hc) <;> (try exact absd hc)) | refine AW_cond_nil rfl rfl (fun hc => ?_) ?_))
      refine AW_loopP (X := Nat) (fun i => i ≤ 8 * s.1.length ∧ ∀ m, m < i → hasBit s.1 m = true → m < n)
        (fun i => mkSt [(4, .ptr 4 0 0), (7, iC .i64 p.1), (9, sC S), (10, .ptr 10 0 0), (11, iC .i64 (i : Nat))] [(4, .box 32 [.per (rawP (.slice none 0 0)), iC .i64 0, iC .u64 0]), (10, .box 32 [.row 32 0, iC .i64 q.1, iC .u64 seed]), (32, rblRow (upTo n s.1 i))]) (fun i => 8 * s.1.length - i) 0 ⟨Nat.zero_le _, fun m hm => by omega⟩ ?_ ?_
      · rw [upTo_zero]
        exact le_auto
      · rintro i ⟨g1, g2⟩
        clear h1 h2 h3 h4 h5
        by_cases hi : i < 8 * s.1.length
        · have hi8 : i / 8 < s.1.length := by omega
          have hcx : S.data.toList[i / 8]? = some s.1[i / 8] := by rw [hSl]; exact List.getElem?_eq_getElem hi8
          have hz : (i : Int) / 8 = ((i / 8 : Nat) : Int) := by omega
          have hbd := @bit_div s.1[i / 8] i
          have hbit : hasBit s.1 i = (s.1[i / 8] &&& bitOf i != 0) := by unfold hasBit; rw [List.getElem?_eq_getElem hi8]; rfl
          rw [← hbit] at hbd
          clear hbit
          have hx := s.1[i / 8].toNat_lt
          generalize s.1[i / 8] = x at *
          (repeat' (first | refine AW_seq ?_ | refine AW_block ?_ | refine AW_skip ?_ | refine AW_exit ?_ | refine AW_ret ?_ | refine AW_region ?_ | refine AW_draw mixed0 ?_ | refine AL_nil ?_ | refine AD_nil (by kernel_rfl) ?_ | (refine AW_cl rfl rfl ⟨fun hc => ?_, fun hc => ?_⟩ <;> (repeat rw [List.length_map] at hc) <;> (try exact absd hc)) | ((first | apply AL_t rfl | apply AL_0 rfl | apply AD_t rfl | apply AD_0 rfl); focus (first | ((apply u_k 13; (focus rfl); exact u_sindex ⟨rfl, rfl, rfl⟩ rfl inferInstance rfl rfl hz hcx)) | (apply u_g; (focus rfl); apply op_gyes rfl rfl rfl rfl rfl; ((apply u_k 13; (focus rfl); exact u_sindex ⟨rfl, rfl, rfl⟩ rfl inferInstance rfl rfl hz hcx))) | exact z_auto | fail)) | refine thenA_n ?_ | refine thenA_r ?_ | refine thenA_e ?_ | refine inB_n ?_ | refine inB_r ?_ | refine inB_hit ?_ | refine inB_miss rfl ?_ | ((first | refine AL_cl rfl rfl rfl ⟨fun hc => ?_, fun hc => ?_⟩ | refine AD_cl rfl rfl rfl ⟨fun hc => ?_, fun hc => ?_⟩) <;> (fail_if_success (have q : (true = true) := hc)) <;> (fail_if_success (have q : (false = false) := hc)) <;> (repeat rw [List.length_map] at hc) <;> (try exact absd hc)) | refine AW_cond_nil rfl rfl (fun hc => ?_) ?_))
          refine AW_loopP (X := Nat × Nat) (fun t => t.1 ≤ i % 8 ∧ t.2 = x.toNat / 2 ^ t.1)
            (fun t => mkSt [(4, .ptr 4 0 0), (7, iC .i64 p.1), (9, sC S), (10, .ptr 10 0 0), (11, iC .i64 (i : Nat)), (12, iC .i64 (t.2 : Nat)), (13, iC .i64 (t.1 : Nat))] [(4, .box 32 [.per (rawP (.slice none 0 0)), iC .i64 0, iC .u64 0]), (10, .box 32 [.row 32 0, iC .i64 q.1, iC .u64 seed]), (32, rblRow (upTo n s.1 i))]) (fun t => i % 8 - t.1) (0, x.toNat) ⟨Nat.zero_le _, by simp⟩ ?_ ?_
          · exact le_auto
          · rintro ⟨k, y⟩ ⟨hk, hy0⟩
            simp only at hk hy0 ⊢
            by_cases hlt : k < i % 8
            · obtain ⟨z, hz2⟩ : ∃ z, z = x.toNat / 2 ^ (k + 1) := ⟨_, rfl⟩
              have hdv : (y : Int) / 2 = (z : Int) := by
                rw [hz2, hy0, Nat.pow_succ, ← Nat.div_div_eq_div_mul]; omega
              have hle : y ≤ x.toNat := by rw [hy0]; exact Nat.div_le_self _ _
              clear hy0
              (repeat' (first | refine AW_seq ?_ | refine AW_block ?_ | refine AW_skip ?_ | refine AW_exit ?_ | refine AW_ret ?_ | refine AW_region ?_ | refine AW_draw mixed0 ?_ | refine AL_nil ?_ | refine AD_nil (by kernel_rfl) ?_ | (refine AW_cl rfl rfl ⟨fun hc => ?_, fun hc => ?_⟩ <;> (repeat rw [List.length_map] at hc) <;> (try exact absd hc)) | ((first | apply AL_t rfl | apply AL_0 rfl | apply AD_t rfl | apply AD_0 rfl); focus (first | exact z_auto | fail)) | refine thenA_n ?_ | refine thenA_r ?_ | refine thenA_e ?_ | refine inB_n ?_ | refine inB_r ?_ | refine inB_hit ?_ | refine inB_miss rfl ?_ | ((first | refine AL_cl rfl rfl rfl ⟨fun hc => ?_, fun hc => ?_⟩ | refine AD_cl rfl rfl rfl ⟨fun hc => ?_, fun hc => ?_⟩) <;> (fail_if_success (have q : (true = true) := hc)) <;> (fail_if_success (have q : (false = false) := hc)) <;> (repeat rw [List.length_map] at hc) <;> (try exact absd hc)) | refine AW_cond_nil rfl rfl (fun hc => ?_) ?_))
              refine ⟨(k + 1, z), ⟨by simp only; omega, hz2⟩, by simp only; omega, ?_⟩
              exact le_auto
            · obtain rfl : k = i % 8 := by omega
              have hle : y ≤ x.toNat := by rw [hy0]; exact Nat.div_le_self _ _
              have HJ : ∀ hin : i < n, ((upTo n s.1 i).map boolP)[i]? = some (boolP ((upTo n s.1 i)[i]'(by rw [upTo_len]; exact hin))) := fun hin => by rw [List.getElem?_map, List.getElem?_eq_getElem (by rw [upTo_len]; exact hin)]; rfl
              have hul := upTo_len n s.1 i
              rw [← hy0] at hbd
              clear hy0
              by_cases hbt : hasBit s.1 i = true
              · have hy : (y : Int) % 2 = 1 := hbd.2 hbt
                by_cases hin : i < n
                · replace HJ := HJ hin
                  have HS : ((upTo n s.1 i).map boolP).set i (setP (boolP ((upTo n s.1 i)[i]'(by rw [upTo_len]; exact hin))) 0 (boolP true)) = (upTo n s.1 (i + 1)).map boolP := by
                    rw [← upTo_set hbt, List.map_set]; rfl
                  generalize (upTo n s.1 i)[i]'(by rw [upTo_len]; exact hin) = bb at *
                  generalize upTo n s.1 i = U at *
                  (repeat' (first | refine AW_seq ?_ | refine AW_block ?_ | refine AW_skip ?_ | refine AW_exit ?_ | refine AW_ret ?_ | refine AW_region ?_ | refine AW_draw mixed0 ?_ | refine AL_nil ?_ | refine AD_nil (by kernel_rfl) ?_ | (refine AW_cl rfl rfl ⟨fun hc => ?_, fun hc => ?_⟩ <;> (repeat rw [List.length_map] at hc) <;> (try exact absd hc)) | ((first | apply AL_t rfl | apply AL_0 rfl | apply AD_t rfl | apply AD_0 rfl); focus (first | exact z_auto | ((apply u_k 6; (focus rfl); exact u_store_r ⟨rfl, rfl⟩ rfl inferInstance rfl rfl rfl rfl HJ rfl (part_raw rfl rfl rfl) rfl HS)) | (apply u_g; (focus rfl); apply op_gyes rfl rfl rfl rfl rfl; ((apply u_k 6; (focus rfl); exact u_store_r ⟨rfl, rfl⟩ rfl inferInstance rfl rfl rfl rfl HJ rfl (part_raw rfl rfl rfl) rfl HS))) | fail)) | refine thenA_n ?_ | refine thenA_r ?_ | refine thenA_e ?_ | refine inB_n ?_ | refine inB_r ?_ | refine inB_hit ?_ | refine inB_miss rfl ?_ | ((first | refine AL_cl rfl rfl rfl ⟨fun hc => ?_, fun hc => ?_⟩ | refine AD_cl rfl rfl rfl ⟨fun hc => ?_, fun hc => ?_⟩) <;> (fail_if_success (have q : (true = true) := hc)) <;> (fail_if_success (have q : (false = false) := hc)) <;> (repeat rw [List.length_map] at hc) <;> (try exact absd hc)) | refine AW_cond_nil rfl rfl (fun hc => ?_) ?_))
                  refine ⟨i + 1, ⟨by omega, fun m hm hh => ?_⟩, by omega, ?_⟩
                  · rcases Nat.lt_or_ge m i with q | q
                    · exact g2 m q hh
                    · omega
                  · exact le_auto
                · have hX := hA i hbt (by omega)
                  subst hX
                  (repeat' (first | refine AW_seq ?_ | refine AW_block ?_ | refine AW_skip ?_ | refine AW_exit ?_ | refine AW_ret ?_ | refine AW_region ?_ | refine AW_draw mixed0 ?_ | refine AL_nil ?_ | refine AD_nil (by kernel_rfl) ?_ | (refine AW_cl rfl rfl ⟨fun hc => ?_, fun hc => ?_⟩ <;> (repeat rw [List.length_map] at hc) <;> (try exact absd hc)) | ((first | apply AL_t rfl | apply AL_0 rfl | apply AD_t rfl | apply AD_0 rfl); focus (first | exact z_auto | fail)) | refine thenA_n ?_ | refine thenA_r ?_ | refine thenA_e ?_ | refine inB_n ?_ | refine inB_r ?_ | refine inB_hit ?_ | refine inB_miss rfl ?_ | ((first | refine AL_cl rfl rfl rfl ⟨fun hc => ?_, fun hc => ?_⟩ | refine AD_cl rfl rfl rfl ⟨fun hc => ?_, fun hc => ?_⟩) <;> (fail_if_success (have q : (true = true) := hc)) <;> (fail_if_success (have q : (false = false) := hc)) <;> (repeat rw [List.length_map] at hc) <;> (try exact absd hc)) | refine AW_cond_nil rfl rfl (fun hc => ?_) ?_))
                  refine ⟨.inl rfl, res2 rfl ?_ ?_⟩
                  · exact rv_cA inferInstance inferInstance rfl rfl rfl rfl rfl rfl
                  · exact rv_int rfl rfl
              · have hy : ¬ (y : Int) % 2 = 1 := fun q => hbt (hbd.1 q)
                have hsk := upTo_skip (n := n) (by simpa using hbt : hasBit s.1 i = false)
                rw [← hsk]
                clear HJ
                (repeat' (first | refine AW_seq ?_ | refine AW_block ?_ | refine AW_skip ?_ | refine AW_exit ?_ | refine AW_ret ?_ | refine AW_region ?_ | refine AW_draw mixed0 ?_ | refine AL_nil ?_ | refine AD_nil (by kernel_rfl) ?_ | (refine AW_cl rfl rfl ⟨fun hc => ?_, fun hc => ?_⟩ <;> (repeat rw [List.length_map] at hc) <;> (try exact absd hc)) | ((first | apply AL_t rfl | apply AL_0 rfl | apply AD_t rfl | apply AD_0 rfl); focus (first | exact z_auto | fail)) | refine thenA_n ?_ | refine thenA_r ?_ | refine thenA_e ?_ | refine inB_n ?_ | refine inB_r ?_ | refine inB_hit ?_ | refine inB_miss rfl ?_ | ((first | refine AL_cl rfl rfl rfl ⟨fun hc => ?_, fun hc => ?_⟩ | refine AD_cl rfl rfl rfl ⟨fun hc => ?_, fun hc => ?_⟩) <;> (fail_if_success (have q : (true = true) := hc)) <;> (fail_if_success (have q : (false = false) := hc)) <;> (repeat rw [List.length_map] at hc) <;> (try exact absd hc)) | refine AW_cond_nil rfl rfl (fun hc => ?_) ?_))
                refine ⟨i + 1, ⟨by omega, fun m hm hh => ?_⟩, by omega, ?_⟩
                · rcases Nat.lt_or_ge m i with q | q
                  · exact g2 m q hh
                  · obtain rfl : m = i := by omega
                    exact absurd hh hbt
                · exact le_auto
        · have hi' : i = 8 * s.1.length := by omega
          have hX := hB fun m hm => by
            rcases Nat.lt_or_ge m i with q | q
            · exact g2 m q hm
            · exfalso
              unfold hasBit at hm
              rw [List.getElem?_eq_none (by omega)] at hm
              simp at hm
          subst hX
          rw [upTo_all (by omega)]
          have hV : rdV ((p.1, q.1, s.1), 0) seed = rblP (bitsOf n s.1) q.1 seed := by unfold rdV; rw [if_pos rfl, show p.1.toNat = n by omega]
          rw [hV]
          (repeat' (first | refine AW_seq ?_ | refine AW_block ?_ | refine AW_skip ?_ | refine AW_exit ?_ | refine AW_ret ?_ | refine AW_region ?_ | refine AW_draw mixed0 ?_ | refine AL_nil ?_ | refine AD_nil (by kernel_rfl) ?_ | (refine AW_cl rfl rfl ⟨fun hc => ?_, fun hc => ?_⟩ <;> (repeat rw [List.length_map] at hc) <;> (try exact absd hc)) | ((first | apply AL_t rfl | apply AL_0 rfl | apply AD_t rfl | apply AD_0 rfl); focus (first | exact z_auto | fail)) | refine thenA_n ?_ | refine thenA_r ?_ | refine thenA_e ?_ | refine inB_n ?_ | refine inB_r ?_ | refine inB_hit ?_ | refine inB_miss rfl ?_ | ((first | refine AL_cl rfl rfl rfl ⟨fun hc => ?_, fun hc => ?_⟩ | refine AD_cl rfl rfl rfl ⟨fun hc => ?_, fun hc => ?_⟩) <;> (fail_if_success (have q : (true = true) := hc)) <;> (fail_if_success (have q : (false = false) := hc)) <;> (repeat rw [List.length_map] at hc) <;> (try exact absd hc)) | refine AW_cond_nil rfl rfl (fun hc => ?_) ?_))
          refine ⟨.inl rfl, ResO_le (Le_fz 32 _ 4 1 rfl rfl) (res2 rfl ?_ ?_)⟩
          · exact rv_cA inferInstance inferInstance rfl rfl rfl rfl rfl rfl
          · exact rv_int rfl rfl
    · rw [if_neg (fun q => hl q.1)] at hX
      subst hX
      refine fn_intro Try.func24 rfl (by kernel_rfl) Try.ntmps24 (Nat.le_of_ble_eq_true rfl) ?_
      (repeat' (first | refine AW_seq ?_ | refine AW_block ?_ | refine AW_skip ?_ | refine AW_exit ?_ | refine AW_ret ?_ | refine AW_region ?_ | refine AW_draw mixed0 ?_ | refine AL_nil ?_ | refine AD_nil (by kernel_rfl) ?_ | (refine AW_cl rfl rfl ⟨fun hc => ?_, fun hc => ?_⟩ <;> (repeat rw [List.length_map] at hc) <;> (try exact absd hc)) | ((first | apply AL_t rfl | apply AL_0 rfl | apply AD_t rfl | apply AD_0 rfl); focus (first | exact z_auto | exact c_RA (h1) | exact c_RA (h2) | exact c_RA (h3) | exact c_RA (h4) | exact c_NA (h5) | fail)) | refine thenA_n ?_ | refine thenA_r ?_ | refine thenA_e ?_ | refine inB_n ?_ | refine inB_r ?_ | refine inB_hit ?_ | refine inB_miss rfl ?_ | ((first | refine AL_cl rfl rfl rfl ⟨fun hc => ?_, fun hc => ?_⟩ | refine AD_cl rfl rfl rfl ⟨fun hc => ?_, fun hc => ?_⟩) <;> (fail_if_success (have q : (true = true) := hc)) <;> (fail_if_success (have q : (false = false) := hc)) <;> (repeat rw [List.length_map] at hc) <;> (try exact absd hc)) | refine AW_cond_nil rfl rfl (fun hc => ?_) ?_))
      refine ⟨.inl rfl, res2 rfl ?_ ?_⟩
      · exact rv_cA inferInstance inferInstance rfl rfl rfl rfl rfl rfl
      · exact rv_int rfl rfl
  · rw [if_pos hv] at hX
    subst hX
    have hV : rdV ((0, 0, []), v) seed = zblP := by unfold rdV; rw [if_neg hv]
    rw [hV]
    refine fn_intro Try.func24 rfl (by kernel_rfl) Try.ntmps24 (Nat.le_of_ble_eq_true rfl) ?_
    (repeat' (first | refine AW_seq ?_ | refine AW_block ?_ | refine AW_skip ?_ | refine AW_exit ?_ | refine AW_ret ?_ | refine AW_region ?_ | refine AW_draw mixed0 ?_ | refine AL_nil ?_ | refine AD_nil (by kernel_rfl) ?_ | (refine AW_cl rfl rfl ⟨fun hc => ?_, fun hc => ?_⟩ <;> (repeat rw [List.length_map] at hc) <;> (try exact absd hc)) | ((first | apply AL_t rfl | apply AL_0 rfl | apply AD_t rfl | apply AD_0 rfl); focus (first | exact z_auto | exact c_RA (h1) | exact c_RA (h2) | exact c_RA (h3) | exact c_RA (h4) | fail)) | refine thenA_n ?_ | refine thenA_r ?_ | refine thenA_e ?_ | refine inB_n ?_ | refine inB_r ?_ | refine inB_hit ?_ | refine inB_miss rfl ?_ | ((first | refine AL_cl rfl rfl rfl ⟨fun hc => ?_, fun hc => ?_⟩ | refine AD_cl rfl rfl rfl ⟨fun hc => ?_, fun hc => ?_⟩) <;> (fail_if_success (have q : (true = true) := hc)) <;> (fail_if_success (have q : (false = false) := hc)) <;> (repeat rw [List.length_map] at hc) <;> (try exact absd hc)) | refine AW_cond_nil rfl rfl (fun hc => ?_) ?_))
    refine ⟨.inl rfl, res2 rfl ?_ ?_⟩
    · exact rv_cA inferInstance inferInstance rfl rfl rfl rfl rfl rfl
    · exact rv_int rfl rfl
end
end Go.Proofs.Ytbpmafpmlapekaa
