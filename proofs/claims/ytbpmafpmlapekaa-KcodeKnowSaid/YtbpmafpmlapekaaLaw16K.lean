/- Knowledge as bytes: the laws, walked. -/
import Derived.Test.YtbpmafpmlapekaaKkR
namespace Go.Proofs.Ytbpmafpmlapekaa
open Go.RowKit
theorem longPcs_pcsSz {k : List Pc} {most : Int} (h : longPcs k most = false) (hm : most ≤ 1000000) : pcsSz k ∧ fewK k := by
  obtain ⟨h1, h2⟩ := longPcs_sz h
  have hq : ∀ p ∈ k, knsTot p.set ∧ fewS p.set := fun p hp => by
    obtain ⟨_, _, h3⟩ := h2 p hp
    obtain ⟨g1, g2⟩ := longKns_sz h3
    refine ⟨⟨by omega, ?_⟩, fun x hx => by have := g2 x hx; omega⟩
    have : ∀ l : List Kn, (∀ k ∈ l, (k.runs.length : Int) ≤ 16) → (l.flatMap Kn.runs).length ≤ 16 * l.length := by
      intro l
      induction l with
      | nil => intro _; simp
      | cons x l ih =>
        intro h
        have h1 := h x List.mem_cons_self
        have h2 := ih (fun y hy => h y (List.mem_cons_of_mem _ hy))
        rw [List.flatMap_cons, List.length_append, List.length_cons]; omega
    have := this _ g2
    omega
  exact ⟨⟨by omega, fun p hp => (hq p hp).1⟩, fun p hp => (hq p hp).2⟩
theorem knowB_len {k : List Pc} (h : pcsOk k) (hf : fewK k) (hl : k.length ≤ 30) : (knowB k).length ≤ 50000000 := by
  have h1 := flat_lenC (B := pcB) 1500040 k (fun p hp => by
    have hfp := hf p hp
    obtain ⟨i, hi, rfl⟩ := List.getElem_of_mem hp
    obtain ⟨a, b⟩ := pcsOk_get h hi
    exact pcB_len a b hfp)
  have h3 := numI_len (k.length : Int) (by omega)
  unfold knowB
  rw [List.length_append]; omega
section
set_option maxRecDepth 10000
set_option maxHeartbeats 8000000
theorem lawKcKnow (k : List Pc) : Fn Try.prog 8 [.per (pcsP k)] (boR true) := by
  have hL := rknow_Long k 30 (by decide)
  cases hlg : longPcs k 30 with
  | true =>
    rw [hlg] at hL
    refine fn_intro Try.func8 rfl (by kernel_rfl) Try.ntmps8 (Nat.le_of_ble_eq_true rfl) ?_
    (repeat' (first | refine AW_seq ?_ | refine AW_block ?_ | refine AW_skip ?_ | refine AW_exit ?_ | refine AW_ret ?_ | refine AW_region ?_ | refine AW_draw mixed0 ?_ | refine AL_nil ?_ | refine AD_nil (by kernel_rfl) ?_ | (refine AW_cl rfl rfl ⟨fun hc => ?_, fun hc => ?_⟩ <;> (repeat rw [List.length_map] at hc) <;> (try exact absd hc)) | ((first | apply AL_t rfl | apply AL_0 rfl | apply AD_t rfl | apply AD_0 rfl); focus (first | exact z_auto | exact c_A (awake16) | exact c_A (hL) | fail)) | refine thenA_n ?_ | refine thenA_r ?_ | refine thenA_e ?_ | refine inB_n ?_ | refine inB_r ?_ | refine inB_hit ?_ | refine inB_miss rfl ?_ | ((first | refine AL_cl rfl rfl rfl ⟨fun hc => ?_, fun hc => ?_⟩ | refine AD_cl rfl rfl rfl ⟨fun hc => ?_, fun hc => ?_⟩) <;> (fail_if_success (have q : (true = true) := hc)) <;> (fail_if_success (have q : (false = false) := hc)) <;> (repeat rw [List.length_map] at hc) <;> (try exact absd hc)) | refine AW_cond_nil rfl rfl (fun hc => ?_) ?_))
    (refine ⟨(by first | exact .inl rfl | exact .inr rfl), res1 rfl ?_⟩)
    exact rv_bool rfl rfl
  | false =>
    rw [hlg] at hL
    obtain ⟨hsz, hf⟩ := longPcs_pcsSz hlg (by omega)
    have hl := (longPcs_sz hlg).1
    by_cases hok : pcsOk k
    · have h1 := kc_Know k hsz hf (by omega) true (by simp [hok])
      simp only [if_true] at h1
      have h2 := rknow_Right k hsz true (by simp [hok])
      have hbl := knowB_len hok hf (by omega)
      have h3 := kc_ReadKnow (knowB k) (by omega)
      rw [rdKnow_put hok hf (by omega)] at h3
      have h4 := rkc_Know k hf (by omega) hok
      have h5 := ref_BytesEq (knowB k) (knowB k) (by omega)
      have h6 := rknow_Same k k hsz
      rw [decide_eq_true rfl] at h5 h6
      clear hok
      refine fn_intro Try.func8 rfl (by kernel_rfl) Try.ntmps8 (Nat.le_of_ble_eq_true rfl) ?_
      (repeat' (first | refine AW_seq ?_ | refine AW_block ?_ | refine AW_skip ?_ | refine AW_exit ?_ | refine AW_ret ?_ | refine AW_region ?_ | refine AW_draw mixed0 ?_ | refine AL_nil ?_ | refine AD_nil (by kernel_rfl) ?_ | (refine AW_cl rfl rfl ⟨fun hc => ?_, fun hc => ?_⟩ <;> (repeat rw [List.length_map] at hc) <;> (try exact absd hc)) | ((first | apply AL_t rfl | apply AL_0 rfl | apply AD_t rfl | apply AD_0 rfl); focus (first | exact z_auto | exact c_A (awake16) | exact c_A (hL) | exact c_A (h1) | exact c_A (h2) | exact c_A (h3) | exact c_A (h4) | exact c_A (h5) | exact c_A (h6) | fail)) | refine thenA_n ?_ | refine thenA_r ?_ | refine thenA_e ?_ | refine inB_n ?_ | refine inB_r ?_ | refine inB_hit ?_ | refine inB_miss rfl ?_ | ((first | refine AL_cl rfl rfl rfl ⟨fun hc => ?_, fun hc => ?_⟩ | refine AD_cl rfl rfl rfl ⟨fun hc => ?_, fun hc => ?_⟩) <;> (fail_if_success (have q : (true = true) := hc)) <;> (fail_if_success (have q : (false = false) := hc)) <;> (repeat rw [List.length_map] at hc) <;> (try exact absd hc)) | refine AW_cond_nil rfl rfl (fun hc => ?_) ?_))
      (refine ⟨(by first | exact .inl rfl | exact .inr rfl), res1 rfl ?_⟩)
      exact rv_bool rfl rfl
    · have h1 := kc_Know k hsz hf (by omega) false (by simp [hok])
      simp only [Bool.false_eq_true, if_false] at h1
      have h2 := rknow_Right k hsz false (by simp [hok])
      refine fn_intro Try.func8 rfl (by kernel_rfl) Try.ntmps8 (Nat.le_of_ble_eq_true rfl) ?_
      (repeat' (first | refine AW_seq ?_ | refine AW_block ?_ | refine AW_skip ?_ | refine AW_exit ?_ | refine AW_ret ?_ | refine AW_region ?_ | refine AW_draw mixed0 ?_ | refine AL_nil ?_ | refine AD_nil (by kernel_rfl) ?_ | (refine AW_cl rfl rfl ⟨fun hc => ?_, fun hc => ?_⟩ <;> (repeat rw [List.length_map] at hc) <;> (try exact absd hc)) | ((first | apply AL_t rfl | apply AL_0 rfl | apply AD_t rfl | apply AD_0 rfl); focus (first | exact z_auto | exact c_A (awake16) | exact c_A (hL) | exact c_A (h1) | exact c_A (h2) | fail)) | refine thenA_n ?_ | refine thenA_r ?_ | refine thenA_e ?_ | refine inB_n ?_ | refine inB_r ?_ | refine inB_hit ?_ | refine inB_miss rfl ?_ | ((first | refine AL_cl rfl rfl rfl ⟨fun hc => ?_, fun hc => ?_⟩ | refine AD_cl rfl rfl rfl ⟨fun hc => ?_, fun hc => ?_⟩) <;> (fail_if_success (have q : (true = true) := hc)) <;> (fail_if_success (have q : (false = false) := hc)) <;> (repeat rw [List.length_map] at hc) <;> (try exact absd hc)) | refine AW_cond_nil rfl rfl (fun hc => ?_) ?_))
      (refine ⟨(by first | exact .inl rfl | exact .inr rfl), res1 rfl ?_⟩)
      exact rv_bool rfl rfl
theorem rdSet_sz (b : List UInt8) : knsSz (rdSet b).1 ∧ fewS (rdSet b).1 := by
  have h := lis_knSz b 0
  unfold rdSet finL
  split
  · exact ⟨⟨by simp, by simp⟩, fun k hk => by simp at hk⟩
  · split
    · exact h
    · exact ⟨⟨by simp, by simp⟩, fun k hk => by simp at hk⟩
theorem rdKnow_sz (b : List UInt8) : pcsSz (rdKnow b).1 ∧ fewK (rdKnow b).1 := by
  have h := lis_pcSz b 0
  unfold rdKnow finL
  split
  · exact ⟨⟨by simp, by simp⟩, fun k hk => by simp at hk⟩
  · split
    · exact h
    · exact ⟨⟨by simp, by simp⟩, fun k hk => by simp at hk⟩
theorem lawKcReads (b : List UInt8) : Fn Try.prog 9 [.per (bysP b)] (boR true) := by
  by_cases hb : b.length ≤ 800
  · have h1 := kc_ReadSet b (by omega)
    have h2 := rkc_ReadSet b (by omega)
    have h3 := kc_ReadKnow b (by omega)
    have h4 := rkc_ReadKnow b (by omega)
    have hI := @rdSet_back b
    have hL := @rdKnow_back b
    have z1 := rdSet_sz b
    have z2 := rdKnow_sz b
    generalize rdSet b = p at *
    generalize rdKnow b = q at *
    obtain ⟨x, e⟩ := p
    obtain ⟨y, g⟩ := q
    simp only at h1 h2 h3 h4 hI hL z1 z2
    have h5 := rvs_Same x x z1.1
    have h6 := rknow_Same y y z2.1
    have h7 := ref_BytesEq b b (by omega)
    rw [decide_eq_true rfl] at h5 h6 h7
    by_cases he : e = 0
    · subst he
      obtain ⟨i1, i2, i3⟩ := hI rfl
      have h8 := rkc_Set x i1 z1.2
      rw [i3] at h8
      by_cases hg : g = 0
      · subst hg
        obtain ⟨l1, l2, l3⟩ := hL rfl
        have h9 := rkc_Know y z2.2 (by omega) l1
        rw [l3] at h9
        clear i1 l1 hI hL z1 z2
        refine fn_intro Try.func9 rfl (by kernel_rfl) Try.ntmps9 (Nat.le_of_ble_eq_true rfl) ?_
        (repeat' (first | refine AW_seq ?_ | refine AW_block ?_ | refine AW_skip ?_ | refine AW_exit ?_ | refine AW_ret ?_ | refine AW_region ?_ | refine AW_draw mixed0 ?_ | refine AL_nil ?_ | refine AD_nil (by kernel_rfl) ?_ | (refine AW_cl rfl rfl ⟨fun hc => ?_, fun hc => ?_⟩ <;> (repeat rw [List.length_map] at hc) <;> (try exact absd hc)) | ((first | apply AL_t rfl | apply AL_0 rfl | apply AD_t rfl | apply AD_0 rfl); focus (first | exact z_auto | exact c_A (awake16) | exact c_A (h1) | exact c_A (h2) | exact c_A (h3) | exact c_A (h4) | exact c_A (h5) | exact c_A (h6) | exact c_A (h7) | exact c_A (h8) | exact c_A (h9) | fail)) | refine thenA_n ?_ | refine thenA_r ?_ | refine thenA_e ?_ | refine inB_n ?_ | refine inB_r ?_ | refine inB_hit ?_ | refine inB_miss rfl ?_ | ((first | refine AL_cl rfl rfl rfl ⟨fun hc => ?_, fun hc => ?_⟩ | refine AD_cl rfl rfl rfl ⟨fun hc => ?_, fun hc => ?_⟩) <;> (fail_if_success (have q : (true = true) := hc)) <;> (fail_if_success (have q : (false = false) := hc)) <;> (repeat rw [List.length_map] at hc) <;> (try exact absd hc)) | refine AW_cond_nil rfl rfl (fun hc => ?_) ?_))
        all_goals (refine ⟨(by first | exact .inl rfl | exact .inr rfl), res1 rfl ?_⟩)
        all_goals exact rv_bool rfl rfl
      · clear i1 hI hL z1 z2
        refine fn_intro Try.func9 rfl (by kernel_rfl) Try.ntmps9 (Nat.le_of_ble_eq_true rfl) ?_
        (repeat' (first | refine AW_seq ?_ | refine AW_block ?_ | refine AW_skip ?_ | refine AW_exit ?_ | refine AW_ret ?_ | refine AW_region ?_ | refine AW_draw mixed0 ?_ | refine AL_nil ?_ | refine AD_nil (by kernel_rfl) ?_ | (refine AW_cl rfl rfl ⟨fun hc => ?_, fun hc => ?_⟩ <;> (repeat rw [List.length_map] at hc) <;> (try exact absd hc)) | ((first | apply AL_t rfl | apply AL_0 rfl | apply AD_t rfl | apply AD_0 rfl); focus (first | exact z_auto | exact c_A (awake16) | exact c_A (h1) | exact c_A (h2) | exact c_A (h3) | exact c_A (h4) | exact c_A (h5) | exact c_A (h6) | exact c_A (h7) | exact c_A (h8) | fail)) | refine thenA_n ?_ | refine thenA_r ?_ | refine thenA_e ?_ | refine inB_n ?_ | refine inB_r ?_ | refine inB_hit ?_ | refine inB_miss rfl ?_ | ((first | refine AL_cl rfl rfl rfl ⟨fun hc => ?_, fun hc => ?_⟩ | refine AD_cl rfl rfl rfl ⟨fun hc => ?_, fun hc => ?_⟩) <;> (fail_if_success (have q : (true = true) := hc)) <;> (fail_if_success (have q : (false = false) := hc)) <;> (repeat rw [List.length_map] at hc) <;> (try exact absd hc)) | refine AW_cond_nil rfl rfl (fun hc => ?_) ?_))
        all_goals (refine ⟨(by first | exact .inl rfl | exact .inr rfl), res1 rfl ?_⟩)
        all_goals exact rv_bool rfl rfl
    · by_cases hg : g = 0
      · subst hg
        obtain ⟨l1, l2, l3⟩ := hL rfl
        have h9 := rkc_Know y z2.2 (by omega) l1
        rw [l3] at h9
        clear l1 hI hL z1 z2
        refine fn_intro Try.func9 rfl (by kernel_rfl) Try.ntmps9 (Nat.le_of_ble_eq_true rfl) ?_
        (repeat' (first | refine AW_seq ?_ | refine AW_block ?_ | refine AW_skip ?_ | refine AW_exit ?_ | refine AW_ret ?_ | refine AW_region ?_ | refine AW_draw mixed0 ?_ | refine AL_nil ?_ | refine AD_nil (by kernel_rfl) ?_ | (refine AW_cl rfl rfl ⟨fun hc => ?_, fun hc => ?_⟩ <;> (repeat rw [List.length_map] at hc) <;> (try exact absd hc)) | ((first | apply AL_t rfl | apply AL_0 rfl | apply AD_t rfl | apply AD_0 rfl); focus (first | exact z_auto | exact c_A (awake16) | exact c_A (h1) | exact c_A (h2) | exact c_A (h3) | exact c_A (h4) | exact c_A (h5) | exact c_A (h6) | exact c_A (h7) | exact c_A (h9) | fail)) | refine thenA_n ?_ | refine thenA_r ?_ | refine thenA_e ?_ | refine inB_n ?_ | refine inB_r ?_ | refine inB_hit ?_ | refine inB_miss rfl ?_ | ((first | refine AL_cl rfl rfl rfl ⟨fun hc => ?_, fun hc => ?_⟩ | refine AD_cl rfl rfl rfl ⟨fun hc => ?_, fun hc => ?_⟩) <;> (fail_if_success (have q : (true = true) := hc)) <;> (fail_if_success (have q : (false = false) := hc)) <;> (repeat rw [List.length_map] at hc) <;> (try exact absd hc)) | refine AW_cond_nil rfl rfl (fun hc => ?_) ?_))
        all_goals (refine ⟨(by first | exact .inl rfl | exact .inr rfl), res1 rfl ?_⟩)
        all_goals exact rv_bool rfl rfl
      · clear hI hL z1 z2
        refine fn_intro Try.func9 rfl (by kernel_rfl) Try.ntmps9 (Nat.le_of_ble_eq_true rfl) ?_
        (repeat' (first | refine AW_seq ?_ | refine AW_block ?_ | refine AW_skip ?_ | refine AW_exit ?_ | refine AW_ret ?_ | refine AW_region ?_ | refine AW_draw mixed0 ?_ | refine AL_nil ?_ | refine AD_nil (by kernel_rfl) ?_ | (refine AW_cl rfl rfl ⟨fun hc => ?_, fun hc => ?_⟩ <;> (repeat rw [List.length_map] at hc) <;> (try exact absd hc)) | ((first | apply AL_t rfl | apply AL_0 rfl | apply AD_t rfl | apply AD_0 rfl); focus (first | exact z_auto | exact c_A (awake16) | exact c_A (h1) | exact c_A (h2) | exact c_A (h3) | exact c_A (h4) | exact c_A (h5) | exact c_A (h6) | exact c_A (h7) | fail)) | refine thenA_n ?_ | refine thenA_r ?_ | refine thenA_e ?_ | refine inB_n ?_ | refine inB_r ?_ | refine inB_hit ?_ | refine inB_miss rfl ?_ | ((first | refine AL_cl rfl rfl rfl ⟨fun hc => ?_, fun hc => ?_⟩ | refine AD_cl rfl rfl rfl ⟨fun hc => ?_, fun hc => ?_⟩) <;> (fail_if_success (have q : (true = true) := hc)) <;> (fail_if_success (have q : (false = false) := hc)) <;> (repeat rw [List.length_map] at hc) <;> (try exact absd hc)) | refine AW_cond_nil rfl rfl (fun hc => ?_) ?_))
        all_goals (refine ⟨(by first | exact .inl rfl | exact .inr rfl), res1 rfl ?_⟩)
        all_goals exact rv_bool rfl rfl
  · refine fn_intro Try.func9 rfl (by kernel_rfl) Try.ntmps9 (Nat.le_of_ble_eq_true rfl) ?_
    (repeat' (first | refine AW_seq ?_ | refine AW_block ?_ | refine AW_skip ?_ | refine AW_exit ?_ | refine AW_ret ?_ | refine AW_region ?_ | refine AW_draw mixed0 ?_ | refine AL_nil ?_ | refine AD_nil (by kernel_rfl) ?_ | (refine AW_cl rfl rfl ⟨fun hc => ?_, fun hc => ?_⟩ <;> (repeat rw [List.length_map] at hc) <;> (try exact absd hc)) | ((first | apply AL_t rfl | apply AL_0 rfl | apply AD_t rfl | apply AD_0 rfl); focus (first | exact z_auto | exact c_A (awake16) | fail)) | refine thenA_n ?_ | refine thenA_r ?_ | refine thenA_e ?_ | refine inB_n ?_ | refine inB_r ?_ | refine inB_hit ?_ | refine inB_miss rfl ?_ | ((first | refine AL_cl rfl rfl rfl ⟨fun hc => ?_, fun hc => ?_⟩ | refine AD_cl rfl rfl rfl ⟨fun hc => ?_, fun hc => ?_⟩) <;> (fail_if_success (have q : (true = true) := hc)) <;> (fail_if_success (have q : (false = false) := hc)) <;> (repeat rw [List.length_map] at hc) <;> (try exact absd hc)) | refine AW_cond_nil rfl rfl (fun hc => ?_) ?_))
    (refine ⟨(by first | exact .inl rfl | exact .inr rfl), res1 rfl ?_⟩)
    exact rv_bool rfl rfl
end
end Go.Proofs.Ytbpmafpmlapekaa
