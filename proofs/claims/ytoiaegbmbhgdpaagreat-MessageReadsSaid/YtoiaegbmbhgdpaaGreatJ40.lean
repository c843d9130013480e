/- Texts joined: MsW. -/
import Derived.Test.YtoiaegbmbhgdpaaGreatJ39
namespace Go.Proofs.YtoiaegbmbhgdpaaGreat
open Go.RowKit
section
variable {P : Program} {n t : Nat} {ops : Array Oper} {o : Oper} {S : St} {K E : TypeId}
theorem op_mapgetE {ty : TypeId} {x k : Operand} {id vr m : Nat} {f : ByteArray → Int} {s : ByteArray} {z : Int} (hp : Pl n o t) (ho : o.op = .lookup ty x k false) (hK : P.underlying K = some .string) (hT : P.underlying ty = some (.map K E)) (hE : P.underlying E = some (.int .i64))
    (hz : ∀ w : World, (zeroValue E).run P w = .ok (.int .i64 0) w) (hx : S.opd x = .row id vr) (hv : S.ver id = vr) (hb : S.blk id = .obj (mapO P K E m f)) (hk : S.opd k = sC s) (hs : s.size ≤ maxLen) (hf : f s = z) :
    OpOk n P ops o ((2 * id + 1) :: (opdN x ++ opdN k)) (iC .i64 z) [] S := hf ▸ op_mapget hp ho hK hT hE hz hx hv hb hk hs
theorem op_mapsetE {ty : TypeId} {x k y : Operand} {id vr m : Nat} {f f' : ByteArray → Int} {s : ByteArray} {z : Int} (hp : Pl0 o) (ho : o.op = .mapUpdate ty x k y) (hK : P.underlying K = some .string) (hT : P.underlying ty = some (.map K E)) (hE : P.underlying E = some (.int .i64))
    (hx : S.opd x = .row id vr) (hv : S.ver id = vr) (hb : S.blk id = .obj (mapO P K E m f)) (hk : S.opd k = sC s) (hs : s.size ≤ maxLen) (hy : S.opd y = iC .i64 z) (hw : (Lit.int .i64 z).wf = true) (hm : m < maxLen) (hf : (fun u => if u = s then z else f u) = f') :
    OpOk n P ops o ((2 * id + 1) :: (opdN x ++ opdN k ++ opdN y)) .any [(id, vr, .obj (mapO P K E (m + 1) f'))] S := hf ▸ op_mapset hp ho hK hT hE hx hv hb hk hs hy hw hm
end
theorem zero_int (w : World) : (zeroValue 3).run Tryz.prog w = .ok (.int .i64 0) w := by
  have h : (Tryz.prog.info? 3).bind (·.zero) = some (.int .i64 0) := by kernel_rfl
  cases hi : Tryz.prog.info? 3 with
  | none => rw [hi] at h; cases h
  | some i =>
    rw [hi] at h
    have h : i.zero = some (.int .i64 0) := h
    simp [zeroValue, typeInfo, hi, h]
section
set_option maxRecDepth 10000
set_option maxHeartbeats 4000000
theorem ms_unlike (l : List It) (hl : l.length ≤ 1000000000) (hall : l.all itR = true) : Fn Tryz.prog 109 [itsB l] (boR (ulk l)) := by
  rw [List.all_eq_true] at hall
  refine fn_intro Tryz.func109 rfl (by kernel_rfl) Tryz.ntmps109 (Nat.le_of_ble_eq_true rfl) ?_
  (refine w0 ?_; (repeat' (first | refine W2.mk ?_ ?_ | refine W1.mk fun hc => ?_ | ((first | apply AL_t rfl | apply AL_0 rfl | apply AD_t rfl | apply AD_0 rfl); (focus (first | ((exact op_mkmap (K := 9) (E := 3) ⟨rfl, rfl, rfl⟩ rfl)) | (apply u_g; (focus rfl); apply op_gyes rfl rfl rfl rfl rfl; first | ((exact op_mkmap (K := 9) (E := 3) ⟨rfl, rfl, rfl⟩ rfl))))); refine w0 ?_))))
  refine AW_loopP (X := Nat) (fun i => i ≤ l.length ∧ ((l.take i).map It.key).Nodup)
    (fun i => mkSt [(3, .row 6 0), (7, itsB l), (8, iC .i64 (l.length : Nat)), (9, iC .i64 (i : Nat))] [(6, .obj (mapO Tryz.prog 9 3 i (seenF l i)))]) (fun i => l.length - i) 0 ⟨Nat.zero_le _, by simp⟩ ?_ ?_
  · rw [seenF_zero]
    exact le_auto
  · rintro i ⟨h1, h2⟩
    by_cases hi : i < l.length
    · have hr := hall _ (List.getElem_mem hi)
      have hk := itR_nums hr
      have hkr : keyR l[i].key = true := by unfold itR at hr; simp only [Bool.and_eq_true] at hr; exact hr.1.1
      have c1 := key_Right l[i].key
      rw [hkr] at c1
      have hks : l[i].key.size ≤ maxLen := by unfold maxLen; omega
      have him : i < maxLen := by unfold maxLen; omega
      by_cases hd : l[i].key ∈ (l.take i).map It.key
      · have g0 : seenF l i l[i].key = 1 := seenF_in hd
        have hu : ulk l = false := by
          rw [← Bool.not_eq_true, ulk_iff]
          exact fun q => nodup_stop hi hd q.2
        obtain ⟨F, hF⟩ : ∃ F : ByteArray → Int, (fun u => if u = l[i].key then (2 : Int) else seenF l i u) = F := ⟨_, rfl⟩
        have g1 : F l[i].key = 2 := by rw [← hF]; simp
        rw [hu]
        clear hk hall
        (have kc1 := c1; have ke1 := Lib.hid ((show (1 : Int) + 1 = 2 from rfl)); refine w0e ?_; (repeat' (first | refine W2.mk ?_ ?_ | refine W1.mk fun hc => ?_ | ((first | apply AL_t rfl | apply AL_0 rfl | apply AD_t rfl | apply AD_0 rfl); (focus (first | ((exact op_mapgetE ⟨rfl, rfl, rfl⟩ rfl Tryz.underlying9 Tryz.underlying221 Tryz.underlying3 zero_int rfl rfl rfl rfl hks g0)) | ((exact op_mapgetE ⟨rfl, rfl, rfl⟩ rfl Tryz.underlying9 Tryz.underlying221 Tryz.underlying3 zero_int rfl rfl rfl rfl hks g1)) | ((exact op_mapsetE ⟨rfl, rfl⟩ rfl Tryz.underlying9 Tryz.underlying221 Tryz.underlying3 rfl rfl rfl rfl hks rfl (by decide) him hF)) | (apply u_g; (focus rfl); apply op_gyes rfl rfl rfl rfl rfl; first | ((exact op_mapgetE ⟨rfl, rfl, rfl⟩ rfl Tryz.underlying9 Tryz.underlying221 Tryz.underlying3 zero_int rfl rfl rfl rfl hks g0)) | ((exact op_mapgetE ⟨rfl, rfl, rfl⟩ rfl Tryz.underlying9 Tryz.underlying221 Tryz.underlying3 zero_int rfl rfl rfl rfl hks g1)) | ((exact op_mapsetE ⟨rfl, rfl⟩ rfl Tryz.underlying9 Tryz.underlying221 Tryz.underlying3 rfl rfl rfl rfl hks rfl (by decide) him hF))))); refine w0e ?_))); all_goals clear ke1 kc1)
        (refine ⟨(by first | exact .inl rfl | exact .inr rfl), res1 rfl ?_⟩)
        exact rv_bool rfl rfl
      · have g0 : seenF l i l[i].key = 0 := seenF_no hd
        have hF := seenF_step hi
        have g1 : seenF l (i + 1) l[i].key = 1 := by rw [← hF]; simp
        have h2 := nodup_step hi h2 hd
        clear hk hall
        (have kc1 := c1; have ke1 := Lib.hid ((show (0 : Int) + 1 = 1 from rfl)); refine w0e ?_; (repeat' (first | refine W2.mk ?_ ?_ | refine W1.mk fun hc => ?_ | ((first | apply AL_t rfl | apply AL_0 rfl | apply AD_t rfl | apply AD_0 rfl); (focus (first | ((exact op_mapgetE ⟨rfl, rfl, rfl⟩ rfl Tryz.underlying9 Tryz.underlying221 Tryz.underlying3 zero_int rfl rfl rfl rfl hks g0)) | ((exact op_mapgetE ⟨rfl, rfl, rfl⟩ rfl Tryz.underlying9 Tryz.underlying221 Tryz.underlying3 zero_int rfl rfl rfl rfl hks g1)) | ((exact op_mapsetE ⟨rfl, rfl⟩ rfl Tryz.underlying9 Tryz.underlying221 Tryz.underlying3 rfl rfl rfl rfl hks rfl (by decide) him hF)) | (apply u_g; (focus rfl); apply op_gyes rfl rfl rfl rfl rfl; first | ((exact op_mapgetE ⟨rfl, rfl, rfl⟩ rfl Tryz.underlying9 Tryz.underlying221 Tryz.underlying3 zero_int rfl rfl rfl rfl hks g0)) | ((exact op_mapgetE ⟨rfl, rfl, rfl⟩ rfl Tryz.underlying9 Tryz.underlying221 Tryz.underlying3 zero_int rfl rfl rfl rfl hks g1)) | ((exact op_mapsetE ⟨rfl, rfl⟩ rfl Tryz.underlying9 Tryz.underlying221 Tryz.underlying3 rfl rfl rfl rfl hks rfl (by decide) him hF))))); refine w0e ?_))); all_goals clear ke1 kc1)
        refine ⟨i + 1, ⟨by omega, h2⟩, by omega, ?_⟩
        exact le_auto
    · rw [List.take_of_length_le (by omega)] at h2
      have hu : ulk l = true := ulk_iff.2 ⟨List.all_eq_true.2 hall, h2⟩
      rw [hu]
      clear hall
      (refine w0 ?_; (repeat' (first | refine W2.mk ?_ ?_ | refine W1.mk fun hc => ?_)))
      (refine ⟨(by first | exact .inl rfl | exact .inr rfl), res1 rfl ?_⟩)
      exact rv_bool rfl rfl
theorem ms_flag (b : Bool) : Fn Tryz.prog 102 [bC b] (inR (bitI b)) := by
  cases b with
  | false =>
    refine fn_intro Tryz.func102 rfl (by kernel_rfl) Tryz.ntmps102 (Nat.le_of_ble_eq_true rfl) ?_
    (refine w0 ?_; (repeat' (first | refine W2.mk ?_ ?_ | refine W1.mk fun hc => ?_)))
    (refine ⟨(by first | exact .inl rfl | exact .inr rfl), res1 rfl ?_⟩)
    exact rv_int rfl rfl
  | true =>
    refine fn_intro Tryz.func102 rfl (by kernel_rfl) Tryz.ntmps102 (Nat.le_of_ble_eq_true rfl) ?_
    (refine w0 ?_; (repeat' (first | refine W2.mk ?_ ?_ | refine W1.mk fun hc => ?_)))
    (refine ⟨(by first | exact .inl rfl | exact .inr rfl), res1 rfl ?_⟩)
    exact rv_int rfl rfl
theorem ms_sum (s : Nat) : Fn Tryz.prog 105 [iC .u64 (s : Nat)] (ownB (oct s)) := by
  rw [show oct s = tlN 8 s from rfl]
  refine fn_intro Tryz.func105 rfl (by kernel_rfl) Tryz.ntmps105 (Nat.le_of_ble_eq_true rfl) ?_
  (repeat' (first | refine AW_seq ?_ | refine AW_block ?_ | refine AW_skip ?_ | refine AW_exit ?_ | refine AW_ret ?_ | refine AW_region ?_ | refine AW_draw mixed0 ?_ | refine AL_nil ?_ | refine AD_nil (by kernel_rfl) ?_ | (refine AW_cl rfl rfl ⟨fun hc => ?_, fun hc => ?_⟩ <;> (repeat rw [List.length_map] at hc) <;> (try exact absd hc)) | ((first | apply AL_t rfl | apply AL_0 rfl | apply AD_t rfl | apply AD_0 rfl); focus (first | ((exact u_mk (m := 8) ⟨rfl, rfl, rfl⟩ rfl inferInstance inferInstance rfl rfl rfl rfl (by omega) (by omega))) | (apply u_g; (focus rfl); apply op_gyes rfl rfl rfl rfl rfl; ((exact u_mk (m := 8) ⟨rfl, rfl, rfl⟩ rfl inferInstance inferInstance rfl rfl rfl rfl (by omega) (by omega)))) | exact z_auto | fail)) | refine thenA_n ?_ | refine thenA_r ?_ | refine thenA_e ?_ | refine inB_n ?_ | refine inB_r ?_ | refine inB_hit ?_ | refine inB_miss rfl ?_ | ((first | refine AL_cl rfl rfl rfl ⟨fun hc => ?_, fun hc => ?_⟩ | refine AD_cl rfl rfl rfl ⟨fun hc => ?_, fun hc => ?_⟩) <;> (fail_if_success (have q : (true = true) := hc)) <;> (fail_if_success (have q : (false = false) := hc)) <;> (repeat rw [List.length_map] at hc) <;> (try exact absd hc)) | refine AW_cond_nil rfl rfl (fun hc => ?_) ?_))
  refine AW_loopP (X := Nat) (fun k => k ≤ 8) (fun k => mkSt [(0, iC .u64 (s : Nat)), (3, .row 5 0), (7, iC .i64 8), (8, iC .i64 (k : Nat))] [(5, .row 5 1 ((tlR 8 s k).map byteP))]) (fun k => 8 - k) 0 (by omega) ?_ ?_
  · rw [tlR_0]
    exact le_auto
  · intro k hk
    have hl := tlR_len 8 s k hk
    by_cases hlt : k < 8
    · have hZ := shr_256 (s := s) (k := k) (b := IntKind.u64.bits) (by show 8 * k ≤ 64; omega)
      have hW := wrap_u8_nat (s / 256 ^ k)
      have HJ : ((tlR 8 s k).map byteP)[k]? = some (byteP 0) := by rw [List.getElem?_map, tlR_get 8 s k hlt]; rfl
      have HS : ((tlR 8 s k).map byteP).set k (setP (byteP 0) 0 (byteP (UInt8.ofNat (s / 256 ^ k)))) = (tlR 8 s (k + 1)).map byteP := by
        rw [← tlR_set 8 s k hlt, List.map_set]; rfl
      generalize s / 256 ^ k = q at *
      (repeat' (first | refine AW_seq ?_ | refine AW_block ?_ | refine AW_skip ?_ | refine AW_exit ?_ | refine AW_ret ?_ | refine AW_region ?_ | refine AW_draw mixed0 ?_ | refine AL_nil ?_ | refine AD_nil (by kernel_rfl) ?_ | (refine AW_cl rfl rfl ⟨fun hc => ?_, fun hc => ?_⟩ <;> (repeat rw [List.length_map] at hc) <;> (try exact absd hc)) | ((first | apply AL_t rfl | apply AL_0 rfl | apply AD_t rfl | apply AD_0 rfl); focus (first | ((exact op_shrB ⟨rfl, rfl, rfl⟩ rfl rfl rfl (by omega) hZ)) | (apply u_g; (focus rfl); apply op_gyes rfl rfl rfl rfl rfl; ((exact op_shrB ⟨rfl, rfl, rfl⟩ rfl rfl rfl (by omega) hZ))) | ((apply u_k 10; (focus rfl); exact u_conv ⟨rfl, rfl, rfl⟩ rfl inferInstance inferInstance rfl hW)) | (apply u_g; (focus rfl); apply op_gyes rfl rfl rfl rfl rfl; ((apply u_k 10; (focus rfl); exact u_conv ⟨rfl, rfl, rfl⟩ rfl inferInstance inferInstance rfl hW))) | exact z_auto | ((apply u_k 6; (focus rfl); exact u_store_r ⟨rfl, rfl⟩ rfl inferInstance rfl rfl rfl rfl HJ rfl (part_raw rfl rfl rfl) rfl HS)) | (apply u_g; (focus rfl); apply op_gyes rfl rfl rfl rfl rfl; ((apply u_k 6; (focus rfl); exact u_store_r ⟨rfl, rfl⟩ rfl inferInstance rfl rfl rfl rfl HJ rfl (part_raw rfl rfl rfl) rfl HS))) | fail)) | refine thenA_n ?_ | refine thenA_r ?_ | refine thenA_e ?_ | refine inB_n ?_ | refine inB_r ?_ | refine inB_hit ?_ | refine inB_miss rfl ?_ | ((first | refine AL_cl rfl rfl rfl ⟨fun hc => ?_, fun hc => ?_⟩ | refine AD_cl rfl rfl rfl ⟨fun hc => ?_, fun hc => ?_⟩) <;> (fail_if_success (have q : (true = true) := hc)) <;> (fail_if_success (have q : (false = false) := hc)) <;> (repeat rw [List.length_map] at hc) <;> (try exact absd hc)) | refine AW_cond_nil rfl rfl (fun hc => ?_) ?_))
      refine ⟨k + 1, by omega, by omega, ?_⟩
      exact le_auto
    · obtain rfl : k = 8 := by omega
      rw [tlR_n] at *
      (refine w0 ?_; (repeat' (first | refine W2.mk ?_ ?_ | refine W1.mk fun hc => ?_)))
      (refine ⟨(by first | exact .inl rfl | exact .inr rfl), res1 rfl ?_⟩)
      exact rv_ownM rfl rfl rfl rfl
abbrev ownI (l : List Int) : Ret := .own 3 1 (l.map intP)
theorem ms_numbers (m : Msg) : Fn Tryz.prog 40 [msC m] (ownI (msNums m)) := by
  unfold msNums
  by_cases c1 : m.kind = 1
  · rw [if_pos c1]
    have h1 := ms_flag m.wants
    refine fn_intro Tryz.func40 rfl (by kernel_rfl) Tryz.ntmps40 (Nat.le_of_ble_eq_true rfl) ?_
    (repeat' (first | refine AW_seq ?_ | refine AW_block ?_ | refine AW_skip ?_ | refine AW_exit ?_ | refine AW_ret ?_ | refine AW_region ?_ | refine AW_draw mixed0 ?_ | refine AL_nil ?_ | refine AD_nil (by kernel_rfl) ?_ | (refine AW_cl rfl rfl ⟨fun hc => ?_, fun hc => ?_⟩ <;> (repeat rw [List.length_map] at hc) <;> (try exact absd hc)) | ((first | apply AL_t rfl | apply AL_0 rfl | apply AD_t rfl | apply AD_0 rfl); focus (first | ((apply u_k 15; (focus rfl); solve | (apply u_bslice_row <;> first | exact ⟨rfl, rfl, rfl⟩ | rfl | infer_instance | (repeat (first | exact PartsL.nil | (apply PartsL.cons; (focus (first | exact part_raw rfl rfl rfl | exact part_agg rfl | exact part_lst rfl)))))))) | (apply u_g; (focus rfl); apply op_gyes rfl rfl rfl rfl rfl; ((apply u_k 15; (focus rfl); solve | (apply u_bslice_row <;> first | exact ⟨rfl, rfl, rfl⟩ | rfl | infer_instance | (repeat (first | exact PartsL.nil | (apply PartsL.cons; (focus (first | exact part_raw rfl rfl rfl | exact part_agg rfl | exact part_lst rfl))))))))) | exact z_auto | exact c_A (h1) | fail)) | refine thenA_n ?_ | refine thenA_r ?_ | refine thenA_e ?_ | refine inB_n ?_ | refine inB_r ?_ | refine inB_hit ?_ | refine inB_miss rfl ?_ | ((first | refine AL_cl rfl rfl rfl ⟨fun hc => ?_, fun hc => ?_⟩ | refine AD_cl rfl rfl rfl ⟨fun hc => ?_, fun hc => ?_⟩) <;> (fail_if_success (have q : (true = true) := hc)) <;> (fail_if_success (have q : (false = false) := hc)) <;> (repeat rw [List.length_map] at hc) <;> (try exact absd hc)) | refine AW_cond_nil rfl rfl (fun hc => ?_) ?_))
    (refine ⟨(by first | exact .inl rfl | exact .inr rfl), res1 rfl ?_⟩)
    exact rv_own rfl rfl rfl
  rw [if_neg c1]
  by_cases c2 : m.kind = 2
  · rw [if_pos c2]
    have h1 := ms_flag m.same
    refine fn_intro Tryz.func40 rfl (by kernel_rfl) Tryz.ntmps40 (Nat.le_of_ble_eq_true rfl) ?_
    (repeat' (first | refine AW_seq ?_ | refine AW_block ?_ | refine AW_skip ?_ | refine AW_exit ?_ | refine AW_ret ?_ | refine AW_region ?_ | refine AW_draw mixed0 ?_ | refine AL_nil ?_ | refine AD_nil (by kernel_rfl) ?_ | (refine AW_cl rfl rfl ⟨fun hc => ?_, fun hc => ?_⟩ <;> (repeat rw [List.length_map] at hc) <;> (try exact absd hc)) | ((first | apply AL_t rfl | apply AL_0 rfl | apply AD_t rfl | apply AD_0 rfl); focus (first | ((apply u_k 15; (focus rfl); solve | (apply u_bslice_row <;> first | exact ⟨rfl, rfl, rfl⟩ | rfl | infer_instance | (repeat (first | exact PartsL.nil | (apply PartsL.cons; (focus (first | exact part_raw rfl rfl rfl | exact part_agg rfl | exact part_lst rfl)))))))) | (apply u_g; (focus rfl); apply op_gyes rfl rfl rfl rfl rfl; ((apply u_k 15; (focus rfl); solve | (apply u_bslice_row <;> first | exact ⟨rfl, rfl, rfl⟩ | rfl | infer_instance | (repeat (first | exact PartsL.nil | (apply PartsL.cons; (focus (first | exact part_raw rfl rfl rfl | exact part_agg rfl | exact part_lst rfl))))))))) | exact z_auto | exact c_A (h1) | fail)) | refine thenA_n ?_ | refine thenA_r ?_ | refine thenA_e ?_ | refine inB_n ?_ | refine inB_r ?_ | refine inB_hit ?_ | refine inB_miss rfl ?_ | ((first | refine AL_cl rfl rfl rfl ⟨fun hc => ?_, fun hc => ?_⟩ | refine AD_cl rfl rfl rfl ⟨fun hc => ?_, fun hc => ?_⟩) <;> (fail_if_success (have q : (true = true) := hc)) <;> (fail_if_success (have q : (false = false) := hc)) <;> (repeat rw [List.length_map] at hc) <;> (try exact absd hc)) | refine AW_cond_nil rfl rfl (fun hc => ?_) ?_))
    (refine ⟨(by first | exact .inl rfl | exact .inr rfl), res1 rfl ?_⟩)
    exact rv_own rfl rfl rfl
  rw [if_neg c2]
  by_cases c3 : m.kind = 3
  · rw [if_pos c3]
    refine fn_intro Tryz.func40 rfl (by kernel_rfl) Tryz.ntmps40 (Nat.le_of_ble_eq_true rfl) ?_
    (repeat' (first | refine AW_seq ?_ | refine AW_block ?_ | refine AW_skip ?_ | refine AW_exit ?_ | refine AW_ret ?_ | refine AW_region ?_ | refine AW_draw mixed0 ?_ | refine AL_nil ?_ | refine AD_nil (by kernel_rfl) ?_ | (refine AW_cl rfl rfl ⟨fun hc => ?_, fun hc => ?_⟩ <;> (repeat rw [List.length_map] at hc) <;> (try exact absd hc)) | ((first | apply AL_t rfl | apply AL_0 rfl | apply AD_t rfl | apply AD_0 rfl); focus (first | ((apply u_k 15; (focus rfl); solve | (apply u_bslice_row <;> first | exact ⟨rfl, rfl, rfl⟩ | rfl | infer_instance | (repeat (first | exact PartsL.nil | (apply PartsL.cons; (focus (first | exact part_raw rfl rfl rfl | exact part_agg rfl | exact part_lst rfl)))))))) | (apply u_g; (focus rfl); apply op_gyes rfl rfl rfl rfl rfl; ((apply u_k 15; (focus rfl); solve | (apply u_bslice_row <;> first | exact ⟨rfl, rfl, rfl⟩ | rfl | infer_instance | (repeat (first | exact PartsL.nil | (apply PartsL.cons; (focus (first | exact part_raw rfl rfl rfl | exact part_agg rfl | exact part_lst rfl))))))))) | exact z_auto | fail)) | refine thenA_n ?_ | refine thenA_r ?_ | refine thenA_e ?_ | refine inB_n ?_ | refine inB_r ?_ | refine inB_hit ?_ | refine inB_miss rfl ?_ | ((first | refine AL_cl rfl rfl rfl ⟨fun hc => ?_, fun hc => ?_⟩ | refine AD_cl rfl rfl rfl ⟨fun hc => ?_, fun hc => ?_⟩) <;> (fail_if_success (have q : (true = true) := hc)) <;> (fail_if_success (have q : (false = false) := hc)) <;> (repeat rw [List.length_map] at hc) <;> (try exact absd hc)) | refine AW_cond_nil rfl rfl (fun hc => ?_) ?_))
    (refine ⟨(by first | exact .inl rfl | exact .inr rfl), res1 rfl ?_⟩)
    exact rv_own rfl rfl rfl
  rw [if_neg c3]
  by_cases c5 : m.kind = 5
  · rw [if_pos c5]
    have h1 := ms_flag m.last
    refine fn_intro Tryz.func40 rfl (by kernel_rfl) Tryz.ntmps40 (Nat.le_of_ble_eq_true rfl) ?_
    (repeat' (first | refine AW_seq ?_ | refine AW_block ?_ | refine AW_skip ?_ | refine AW_exit ?_ | refine AW_ret ?_ | refine AW_region ?_ | refine AW_draw mixed0 ?_ | refine AL_nil ?_ | refine AD_nil (by kernel_rfl) ?_ | (refine AW_cl rfl rfl ⟨fun hc => ?_, fun hc => ?_⟩ <;> (repeat rw [List.length_map] at hc) <;> (try exact absd hc)) | ((first | apply AL_t rfl | apply AL_0 rfl | apply AD_t rfl | apply AD_0 rfl); focus (first | ((apply u_k 15; (focus rfl); solve | (apply u_bslice_row <;> first | exact ⟨rfl, rfl, rfl⟩ | rfl | infer_instance | (repeat (first | exact PartsL.nil | (apply PartsL.cons; (focus (first | exact part_raw rfl rfl rfl | exact part_agg rfl | exact part_lst rfl)))))))) | (apply u_g; (focus rfl); apply op_gyes rfl rfl rfl rfl rfl; ((apply u_k 15; (focus rfl); solve | (apply u_bslice_row <;> first | exact ⟨rfl, rfl, rfl⟩ | rfl | infer_instance | (repeat (first | exact PartsL.nil | (apply PartsL.cons; (focus (first | exact part_raw rfl rfl rfl | exact part_agg rfl | exact part_lst rfl))))))))) | exact z_auto | exact c_A (h1) | fail)) | refine thenA_n ?_ | refine thenA_r ?_ | refine thenA_e ?_ | refine inB_n ?_ | refine inB_r ?_ | refine inB_hit ?_ | refine inB_miss rfl ?_ | ((first | refine AL_cl rfl rfl rfl ⟨fun hc => ?_, fun hc => ?_⟩ | refine AD_cl rfl rfl rfl ⟨fun hc => ?_, fun hc => ?_⟩) <;> (fail_if_success (have q : (true = true) := hc)) <;> (fail_if_success (have q : (false = false) := hc)) <;> (repeat rw [List.length_map] at hc) <;> (try exact absd hc)) | refine AW_cond_nil rfl rfl (fun hc => ?_) ?_))
    (refine ⟨(by first | exact .inl rfl | exact .inr rfl), res1 rfl ?_⟩)
    exact rv_own rfl rfl rfl
  rw [if_neg c5]
  by_cases c6 : m.kind = 6
  · rw [if_pos c6]
    refine fn_intro Tryz.func40 rfl (by kernel_rfl) Tryz.ntmps40 (Nat.le_of_ble_eq_true rfl) ?_
    (repeat' (first | refine AW_seq ?_ | refine AW_block ?_ | refine AW_skip ?_ | refine AW_exit ?_ | refine AW_ret ?_ | refine AW_region ?_ | refine AW_draw mixed0 ?_ | refine AL_nil ?_ | refine AD_nil (by kernel_rfl) ?_ | (refine AW_cl rfl rfl ⟨fun hc => ?_, fun hc => ?_⟩ <;> (repeat rw [List.length_map] at hc) <;> (try exact absd hc)) | ((first | apply AL_t rfl | apply AL_0 rfl | apply AD_t rfl | apply AD_0 rfl); focus (first | ((apply u_k 15; (focus rfl); solve | (apply u_bslice_row <;> first | exact ⟨rfl, rfl, rfl⟩ | rfl | infer_instance | (repeat (first | exact PartsL.nil | (apply PartsL.cons; (focus (first | exact part_raw rfl rfl rfl | exact part_agg rfl | exact part_lst rfl)))))))) | (apply u_g; (focus rfl); apply op_gyes rfl rfl rfl rfl rfl; ((apply u_k 15; (focus rfl); solve | (apply u_bslice_row <;> first | exact ⟨rfl, rfl, rfl⟩ | rfl | infer_instance | (repeat (first | exact PartsL.nil | (apply PartsL.cons; (focus (first | exact part_raw rfl rfl rfl | exact part_agg rfl | exact part_lst rfl))))))))) | exact z_auto | fail)) | refine thenA_n ?_ | refine thenA_r ?_ | refine thenA_e ?_ | refine inB_n ?_ | refine inB_r ?_ | refine inB_hit ?_ | refine inB_miss rfl ?_ | ((first | refine AL_cl rfl rfl rfl ⟨fun hc => ?_, fun hc => ?_⟩ | refine AD_cl rfl rfl rfl ⟨fun hc => ?_, fun hc => ?_⟩) <;> (fail_if_success (have q : (true = true) := hc)) <;> (fail_if_success (have q : (false = false) := hc)) <;> (repeat rw [List.length_map] at hc) <;> (try exact absd hc)) | refine AW_cond_nil rfl rfl (fun hc => ?_) ?_))
    (refine ⟨(by first | exact .inl rfl | exact .inr rfl), res1 rfl ?_⟩)
    exact rv_own rfl rfl rfl
  · rw [if_neg c6]
    refine fn_intro Tryz.func40 rfl (by kernel_rfl) Tryz.ntmps40 (Nat.le_of_ble_eq_true rfl) ?_
    (repeat' (first | refine AW_seq ?_ | refine AW_block ?_ | refine AW_skip ?_ | refine AW_exit ?_ | refine AW_ret ?_ | refine AW_region ?_ | refine AW_draw mixed0 ?_ | refine AL_nil ?_ | refine AD_nil (by kernel_rfl) ?_ | (refine AW_cl rfl rfl ⟨fun hc => ?_, fun hc => ?_⟩ <;> (repeat rw [List.length_map] at hc) <;> (try exact absd hc)) | ((first | apply AL_t rfl | apply AL_0 rfl | apply AD_t rfl | apply AD_0 rfl); focus (first | ((apply u_k 15; (focus rfl); solve | (apply u_bslice_row <;> first | exact ⟨rfl, rfl, rfl⟩ | rfl | infer_instance | (repeat (first | exact PartsL.nil | (apply PartsL.cons; (focus (first | exact part_raw rfl rfl rfl | exact part_agg rfl | exact part_lst rfl)))))))) | (apply u_g; (focus rfl); apply op_gyes rfl rfl rfl rfl rfl; ((apply u_k 15; (focus rfl); solve | (apply u_bslice_row <;> first | exact ⟨rfl, rfl, rfl⟩ | rfl | infer_instance | (repeat (first | exact PartsL.nil | (apply PartsL.cons; (focus (first | exact part_raw rfl rfl rfl | exact part_agg rfl | exact part_lst rfl))))))))) | exact z_auto | fail)) | refine thenA_n ?_ | refine thenA_r ?_ | refine thenA_e ?_ | refine inB_n ?_ | refine inB_r ?_ | refine inB_hit ?_ | refine inB_miss rfl ?_ | ((first | refine AL_cl rfl rfl rfl ⟨fun hc => ?_, fun hc => ?_⟩ | refine AD_cl rfl rfl rfl ⟨fun hc => ?_, fun hc => ?_⟩) <;> (fail_if_success (have q : (true = true) := hc)) <;> (fail_if_success (have q : (false = false) := hc)) <;> (repeat rw [List.length_map] at hc) <;> (try exact absd hc)) | refine AW_cond_nil rfl rfl (fun hc => ?_) ?_))
    (refine ⟨(by first | exact .inl rfl | exact .inr rfl), res1 rfl ?_⟩)
    exact rv_own rfl rfl rfl
theorem txB_len (p : List UInt8) (h : p.length ≤ 100000000) : (txB p).length ≤ p.length + 9 := by
  unfold txB textB
  have hs : (⟨p.toArray⟩ : ByteArray).size = p.length := by simp [ByteArray.size]
  rw [hs, List.length_append]
  have := numI_len (p.length : Int) (by omega)
  unfold numI at this
  simp at this ⊢
  omega
theorem ms_put (b : List UInt8) (ps : List (List UInt8)) (hb : b.length ≤ 1000000) (hn : ps.length ≤ 100) (hs : ∀ p ∈ ps, p.length ≤ 100000000) : Fn Tryz.prog 44 [.per (bysP b), .bor 1 (ps.map bysQ')] (.per (bysP (b ++ ps.flatMap txB))) := by
  generalize hR : b ++ ps.flatMap txB = R
  refine fn_intro Tryz.func44 rfl (by kernel_rfl) Tryz.ntmps44 (Nat.le_of_ble_eq_true rfl) ?_
  (refine w0 ?_; (repeat' (first | refine W2.mk ?_ ?_ | refine W1.mk fun hc => ?_)))
  refine AW_loopP (X := Nat × List UInt8) (fun x => x.1 ≤ ps.length ∧ x.2.length ≤ 1000000 + 100000009 * x.1 ∧ x.2 ++ (ps.drop x.1).flatMap txB = R)
    (fun x => mkSt [(0, .per (bysP x.2)), (7, .bor 1 (ps.map bysQ')), (8, iC .i64 (ps.length : Nat)), (9, iC .i64 (x.1 : Nat))] []) (fun x => ps.length - x.1) (0, b) ⟨Nat.zero_le _, by simp only; omega, hR⟩ ?_ ?_
  · exact le_auto
  · rintro ⟨i, acc⟩ ⟨h1, h2, h3⟩
    simp only at h1 h2 h3 ⊢
    by_cases hi : i < ps.length
    · rw [List.drop_eq_getElem_cons hi, List.flatMap_cons, ← List.append_assoc] at h3
      have hp := hs _ (List.getElem_mem hi)
      have hl := txB_len ps[i] hp
      have e : [(⟨ps[i].toArray⟩ : ByteArray)].flatMap textB = txB ps[i] := by simp [txB]
      have c1 := (varint_Text acc [⟨ps[i].toArray⟩] (by rw [e]; omega)).frz
      rw [e] at c1
      clear e hs hR
      (have kc1 := c1; refine w0 ?_; (repeat' (first | refine W2.mk ?_ ?_ | refine W1.mk fun hc => ?_)); all_goals clear kc1)
      refine ⟨(i + 1, acc ++ txB ps[i]), ⟨by simp only; omega, by simp only [List.length_append]; omega, h3⟩, by simp only; omega, ?_⟩
      exact le_auto
    · rw [List.drop_of_length_le (by omega), List.flatMap_nil, List.append_nil] at h3
      subst h3
      clear hs
      (refine w0 ?_; (repeat' (first | refine W2.mk ?_ ?_ | refine W1.mk fun hc => ?_)))
      (refine ⟨(by first | exact .inl rfl | exact .inr rfl), res1 rfl ?_⟩)
      exact rv_per rfl
end
end Go.Proofs.YtoiaegbmbhgdpaaGreat
