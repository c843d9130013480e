/- Knowledge read of bytes: the program's way and the references'. -/
import Derived.Test.YtbpmafpmlapekaaKk
namespace Go.Proofs.Ytbpmafpmlapekaa
open Go.RowKit
section
set_option maxRecDepth 10000
set_option maxHeartbeats 8000000
theorem kc_ReadKnow (b : List UInt8) (hb : b.length ≤ 1000000000) : Fn Try.prog 47 [bytesB b] (.tup2 (.own 144 4 ((rdKnow b).1.map pcP)) (inR (rdKnow b).2)) := by
  have hgood := (lis_pcSz b 0).1
  generalize hQ : rdKnow b = Q at *
  dsimp only [rdKnow, lisSt] at hQ hgood
  have h1 := r_Within b 0 0 4096
  have hn := within_rng0 (most := 4096) (by omega) b 0
  generalize withinSt 0 4096 b 0 = s at *
  obtain ⟨n, l0, e0'⟩ := s
  simp only at h1 hn hQ hgood
  obtain ⟨hn0, hn1⟩ := hn
  obtain ⟨n, rfl⟩ := Int.eq_ofNat_of_zero_le hn0
  rw [Int.toNat_natCast] at hQ hgood
  generalize hR : lsSt pcSt n [] l0 e0' = R at *
  refine fn_intro Try.func47 rfl (by kernel_rfl) Try.ntmps47 (Nat.le_of_ble_eq_true rfl) ?_
  (repeat' (first | refine AW_seq ?_ | refine AW_block ?_ | refine AW_skip ?_ | refine AW_exit ?_ | refine AW_ret ?_ | refine AW_region ?_ | refine AW_draw mixed0 ?_ | refine AL_nil ?_ | refine AD_nil (by kernel_rfl) ?_ | (refine AW_cl rfl rfl ⟨fun hc => ?_, fun hc => ?_⟩ <;> (repeat rw [List.length_map] at hc) <;> (try exact absd hc)) | ((first | apply AL_t rfl | apply AL_0 rfl | apply AD_t rfl | apply AD_0 rfl); focus (first | exact z_auto | exact c_NA (v_New b hb) | exact c_RA (h1) | fail)) | refine thenA_n ?_ | refine thenA_r ?_ | refine thenA_e ?_ | refine inB_n ?_ | refine inB_r ?_ | refine inB_hit ?_ | refine inB_miss rfl ?_ | ((first | refine AL_cl rfl rfl rfl ⟨fun hc => ?_, fun hc => ?_⟩ | refine AD_cl rfl rfl rfl ⟨fun hc => ?_, fun hc => ?_⟩) <;> (fail_if_success (have q : (true = true) := hc)) <;> (fail_if_success (have q : (false = false) := hc)) <;> (repeat rw [List.length_map] at hc) <;> (try exact absd hc)) | refine AW_cond_nil rfl rfl (fun hc => ?_) ?_))
  refine AW_le (Le_nil 6 600 144 4 rfl rfl) ?_
  refine AW_loopP (X := Nat × List Pc × List UInt8 × Int) (fun x => x.1 ≤ n ∧ x.2.1.length ≤ x.1 ∧ lsSt pcSt (n - x.1) x.2.1 x.2.2.1 x.2.2.2 = R)
    (fun x => mkSt [(4, .ptr 4 0 0), (5, iC .i64 (n : Nat)), (6, .row 600 0), (7, iC .i64 (x.1 : Nat))] [(4, .box 139 [.ptr 10 0 0]), (10, rdBox x.2.2.1 x.2.2.2), (600, .row 144 4 (x.2.1.map pcP))]) (fun x => n - x.1) (0, [], l0, e0') ⟨Nat.zero_le _, Nat.le_refl _, hR⟩ ?_ ?_
  · exact le_auto
  · clear h1 hR
    rintro ⟨i, acc, l, e⟩ ⟨hi, hacc, hR⟩
    simp only at hi hacc hR ⊢
    have hE := r_Err l e
    by_cases hst : i < n ∧ e = 0
    · obtain ⟨hlt, he⟩ := hst
      subst he
      obtain ⟨m, hm⟩ : ∃ m, n - i = m + 1 := ⟨n - i - 1, by omega⟩
      rw [hm, lsSt, if_neg (by simp)] at hR
      have h2 := kc_piece l 0
      generalize pcSt l 0 = q at *
      clear hQ hgood
      (repeat' (first | refine AW_seq ?_ | refine AW_block ?_ | refine AW_skip ?_ | refine AW_exit ?_ | refine AW_ret ?_ | refine AW_region ?_ | refine AW_draw mixed0 ?_ | refine AL_nil ?_ | refine AD_nil (by kernel_rfl) ?_ | (refine AW_cl rfl rfl ⟨fun hc => ?_, fun hc => ?_⟩ <;> (repeat rw [List.length_map] at hc) <;> (try exact absd hc)) | ((first | apply AL_t rfl | apply AL_0 rfl | apply AD_t rfl | apply AD_0 rfl); focus (first | exact z_auto | exact c_RA (hE) | exact c_MA [(1000, 10)] (h2) | fail)) | refine thenA_n ?_ | refine thenA_r ?_ | refine thenA_e ?_ | refine inB_n ?_ | refine inB_r ?_ | refine inB_hit ?_ | refine inB_miss rfl ?_ | ((first | refine AL_cl rfl rfl rfl ⟨fun hc => ?_, fun hc => ?_⟩ | refine AD_cl rfl rfl rfl ⟨fun hc => ?_, fun hc => ?_⟩) <;> (fail_if_success (have q : (true = true) := hc)) <;> (fail_if_success (have q : (false = false) := hc)) <;> (repeat rw [List.length_map] at hc) <;> (try exact absd hc)) | refine AW_cond_nil rfl rfl (fun hc => ?_) ?_))
      refine ⟨(i + 1, acc ++ [q.1], q.2.1, q.2.2), ⟨by simp only; omega, by simp; omega, by simp only; rw [show n - (i + 1) = m by omega]; exact hR⟩, by simp only; omega, ?_⟩
      exact le_auto
    · have hR2 : R = (acc, l, e) := by
        rw [← hR]
        by_cases he : e = 0
        · rw [show n - i = 0 by omega]; rfl
        · cases n - i with
          | zero => rfl
          | succ m => rw [lsSt, if_pos he]
      subst hR2
      simp only at hQ hgood
      have h2 := r_End l e
      have h3 := know_Right acc hgood (decide (pcsOk acc)) (by simp)
      clear hgood hR
      by_cases hlt : i < n
      · have he : e ≠ 0 := fun q => hst ⟨hlt, q⟩
        have hen : endSt l e ≠ 0 := by unfold endSt; rw [if_neg (fun q => he q.1)]; exact he
        rw [finL, if_pos hen] at hQ
        subst hQ
        clear hst
        (repeat' (first | refine AW_seq ?_ | refine AW_block ?_ | refine AW_skip ?_ | refine AW_exit ?_ | refine AW_ret ?_ | refine AW_region ?_ | refine AW_draw mixed0 ?_ | refine AL_nil ?_ | refine AD_nil (by kernel_rfl) ?_ | (refine AW_cl rfl rfl ⟨fun hc => ?_, fun hc => ?_⟩ <;> (repeat rw [List.length_map] at hc) <;> (try exact absd hc)) | ((first | apply AL_t rfl | apply AL_0 rfl | apply AD_t rfl | apply AD_0 rfl); focus (first | exact z_auto | exact c_RA (hE) | exact c_RA (h2) | exact c_A (h3) | fail)) | refine thenA_n ?_ | refine thenA_r ?_ | refine thenA_e ?_ | refine inB_n ?_ | refine inB_r ?_ | refine inB_hit ?_ | refine inB_miss rfl ?_ | ((first | refine AL_cl rfl rfl rfl ⟨fun hc => ?_, fun hc => ?_⟩ | refine AD_cl rfl rfl rfl ⟨fun hc => ?_, fun hc => ?_⟩) <;> (fail_if_success (have q : (true = true) := hc)) <;> (fail_if_success (have q : (false = false) := hc)) <;> (repeat rw [List.length_map] at hc) <;> (try exact absd hc)) | refine AW_cond_nil rfl rfl (fun hc => ?_) ?_))
        (refine ⟨(by first | exact .inl rfl | exact .inr rfl), res2 rfl ?_ ?_⟩)
        · exact rv_nil rfl
        · exact rv_int rfl rfl
      · clear hst
        (repeat' (first | refine AW_seq ?_ | refine AW_block ?_ | refine AW_skip ?_ | refine AW_exit ?_ | refine AW_ret ?_ | refine AW_region ?_ | refine AW_draw mixed0 ?_ | refine AL_nil ?_ | refine AD_nil (by kernel_rfl) ?_ | (refine AW_cl rfl rfl ⟨fun hc => ?_, fun hc => ?_⟩ <;> (repeat rw [List.length_map] at hc) <;> (try exact absd hc)) | ((first | apply AL_t rfl | apply AL_0 rfl | apply AD_t rfl | apply AD_0 rfl); focus (first | exact z_auto | exact c_RA (hE) | exact c_RA (h2) | exact c_A (h3) | fail)) | refine thenA_n ?_ | refine thenA_r ?_ | refine thenA_e ?_ | refine inB_n ?_ | refine inB_r ?_ | refine inB_hit ?_ | refine inB_miss rfl ?_ | ((first | refine AL_cl rfl rfl rfl ⟨fun hc => ?_, fun hc => ?_⟩ | refine AD_cl rfl rfl rfl ⟨fun hc => ?_, fun hc => ?_⟩) <;> (fail_if_success (have q : (true = true) := hc)) <;> (fail_if_success (have q : (false = false) := hc)) <;> (repeat rw [List.length_map] at hc) <;> (try exact absd hc)) | refine AW_cond_nil rfl rfl (fun hc => ?_) ?_))
        · rw [finL, if_pos (by assumption)] at hQ
          subst hQ
          (refine ⟨(by first | exact .inl rfl | exact .inr rfl), res2 rfl ?_ ?_⟩)
          · exact rv_nil rfl
          · exact rv_int rfl rfl
        · rw [finL, if_neg (by simp [*]), if_neg (by simp_all)] at hQ
          subst hQ
          (refine ⟨(by first | exact .inl rfl | exact .inr rfl), res2 rfl ?_ ?_⟩)
          · exact rv_nil rfl
          · exact rv_int rfl rfl
        · rw [finL, if_neg (by simp [*]), if_pos (by simp_all)] at hQ
          subst hQ
          (refine ⟨(by first | exact .inl rfl | exact .inr rfl), res2 rfl ?_ ?_⟩)
          · exact rv_own rfl rfl rfl
          · exact rv_int rfl rfl
theorem rkc_ReadKnow (b : List UInt8) (hb : b.length ≤ 1000000000) : Fn Try.prog 51 [.per (bysP b)] (.tup2 (.own 144 4 ((rdKnow b).1.map pcP)) (inR (rdKnow b).2)) := by
  have hgood := (lis_pcSz b 0).1
  have hs : b <:+ b := List.suffix_refl b
  have hb' : b.length ≤ 1000000000000 := by omega
  generalize hQ : rdKnow b = Q at *
  dsimp only [rdKnow, lisSt] at hQ hgood
  have h1 := rr_Within b b 0 hs hb' 0 4096
  have hn := within_rng0 (most := 4096) (by omega) b 0
  replace hs := (withinSt_suf 0 4096 b 0).trans hs
  generalize withinSt 0 4096 b 0 = s at *
  obtain ⟨n, l0, e0'⟩ := s
  simp only at h1 hn hs hQ hgood
  obtain ⟨hn0, hn1⟩ := hn
  obtain ⟨n, rfl⟩ := Int.eq_ofNat_of_zero_le hn0
  rw [Int.toNat_natCast] at hQ hgood
  generalize hR : lsSt pcSt n [] l0 e0' = R at *
  have e0 : ((b.length - b.length : Nat) : Int) = 0 := by omega
  unfold rrBox at h1
  rw [e0] at h1
  refine fn_intro Try.func51 rfl (by kernel_rfl) Try.ntmps51 (Nat.le_of_ble_eq_true rfl) ?_
  (repeat' (first | refine AW_seq ?_ | refine AW_block ?_ | refine AW_skip ?_ | refine AW_exit ?_ | refine AW_ret ?_ | refine AW_region ?_ | refine AW_draw mixed0 ?_ | refine AL_nil ?_ | refine AD_nil (by kernel_rfl) ?_ | (refine AW_cl rfl rfl ⟨fun hc => ?_, fun hc => ?_⟩ <;> (repeat rw [List.length_map] at hc) <;> (try exact absd hc)) | ((first | apply AL_t rfl | apply AL_0 rfl | apply AD_t rfl | apply AD_0 rfl); focus (first | exact z_auto | exact c_RA (h1) | fail)) | refine thenA_n ?_ | refine thenA_r ?_ | refine thenA_e ?_ | refine inB_n ?_ | refine inB_r ?_ | refine inB_hit ?_ | refine inB_miss rfl ?_ | ((first | refine AL_cl rfl rfl rfl ⟨fun hc => ?_, fun hc => ?_⟩ | refine AD_cl rfl rfl rfl ⟨fun hc => ?_, fun hc => ?_⟩) <;> (fail_if_success (have q : (true = true) := hc)) <;> (fail_if_success (have q : (false = false) := hc)) <;> (repeat rw [List.length_map] at hc) <;> (try exact absd hc)) | refine AW_cond_nil rfl rfl (fun hc => ?_) ?_))
  refine AW_le (Le_nil 6 600 144 4 rfl rfl) ?_
  refine AW_loopP (X := Nat × List Pc × List UInt8 × Int) (fun x => x.1 ≤ n ∧ x.2.1.length ≤ x.1 ∧ x.2.2.1 <:+ b ∧ lsSt pcSt (n - x.1) x.2.1 x.2.2.1 x.2.2.2 = R)
    (fun x => mkSt [(4, .ptr 11 0 0), (5, iC .i64 (n : Nat)), (6, .row 600 0), (7, iC .i64 (x.1 : Nat))] [(11, rrBox b x.2.2.1 x.2.2.2), (600, .row 144 4 (x.2.1.map pcP))]) (fun x => n - x.1) (0, [], l0, e0') ⟨Nat.zero_le _, Nat.le_refl _, hs, hR⟩ ?_ ?_
  · exact le_auto
  · clear h1 hR hs
    rintro ⟨i, acc, l, e⟩ ⟨hi, hacc, hs, hR⟩
    simp only at hi hacc hs hR ⊢
    by_cases hst : i < n ∧ e = 0
    · obtain ⟨hlt, he⟩ := hst
      subst he
      obtain ⟨m, hm⟩ : ∃ m, n - i = m + 1 := ⟨n - i - 1, by omega⟩
      rw [hm, lsSt, if_neg (by simp)] at hR
      clear hQ hgood
      dsimp only [pcSt, rgSt] at hR
      have h2 := rr_Text b l 0 hs hb' 17
      replace hs := (textSt_suf 17 l 0).trans hs
      generalize textSt 17 l 0 = t at *
      have h3 := rr_Within b t.2.1 t.2.2 hs hb' 0 1
      replace hs := (withinSt_suf 0 1 t.2.1 t.2.2).trans hs
      generalize withinSt 0 1 t.2.1 t.2.2 = o at *
      by_cases ho : o.1 = 1
      · rw [if_pos (by simp [ho])] at hR
        rw [ho] at h3
        dsimp only at hR
        have h5 := (rkc_ReadIn b o.2.1 o.2.2 hs hb').frz3
        replace hs := (lisSt_suf knSt_suf 16 o.2.1 o.2.2).trans hs
        generalize lisSt knSt 16 o.2.1 o.2.2 = s at *
        (repeat' (first | refine AW_seq ?_ | refine AW_block ?_ | refine AW_skip ?_ | refine AW_exit ?_ | refine AW_ret ?_ | refine AW_region ?_ | refine AW_draw mixed0 ?_ | refine AL_nil ?_ | refine AD_nil (by kernel_rfl) ?_ | (refine AW_cl rfl rfl ⟨fun hc => ?_, fun hc => ?_⟩ <;> (repeat rw [List.length_map] at hc) <;> (try exact absd hc)) | ((first | apply AL_t rfl | apply AL_0 rfl | apply AD_t rfl | apply AD_0 rfl); focus (first | exact z_auto | exact c_RA (h2) | exact c_RA (h3) | exact c_RA (h5) | fail)) | refine thenA_n ?_ | refine thenA_r ?_ | refine thenA_e ?_ | refine inB_n ?_ | refine inB_r ?_ | refine inB_hit ?_ | refine inB_miss rfl ?_ | ((first | refine AL_cl rfl rfl rfl ⟨fun hc => ?_, fun hc => ?_⟩ | refine AD_cl rfl rfl rfl ⟨fun hc => ?_, fun hc => ?_⟩) <;> (fail_if_success (have q : (true = true) := hc)) <;> (fail_if_success (have q : (false = false) := hc)) <;> (repeat rw [List.length_map] at hc) <;> (try exact absd hc)) | refine AW_cond_nil rfl rfl (fun hc => ?_) ?_))
        refine ⟨(i + 1, acc ++ [⟨⟨ba t.1, ByteArray.mk #[], true⟩, s.1⟩], s.2.1, s.2.2), ⟨by simp only; omega, by simp; omega, hs, by simp only; rw [show n - (i + 1) = m by omega]; exact hR⟩, by simp only; omega, ?_⟩
        exact le_auto
      · rw [if_neg (by simp [ho])] at hR
        dsimp only at hR
        have h4 := rr_Text b o.2.1 o.2.2 hs hb' 17
        replace hs := (textSt_suf 17 o.2.1 o.2.2).trans hs
        generalize textSt 17 o.2.1 o.2.2 = h at *
        have h5 := (rkc_ReadIn b h.2.1 h.2.2 hs hb').frz3
        replace hs := (lisSt_suf knSt_suf 16 h.2.1 h.2.2).trans hs
        generalize lisSt knSt 16 h.2.1 h.2.2 = s at *
        (repeat' (first | refine AW_seq ?_ | refine AW_block ?_ | refine AW_skip ?_ | refine AW_exit ?_ | refine AW_ret ?_ | refine AW_region ?_ | refine AW_draw mixed0 ?_ | refine AL_nil ?_ | refine AD_nil (by kernel_rfl) ?_ | (refine AW_cl rfl rfl ⟨fun hc => ?_, fun hc => ?_⟩ <;> (repeat rw [List.length_map] at hc) <;> (try exact absd hc)) | ((first | apply AL_t rfl | apply AL_0 rfl | apply AD_t rfl | apply AD_0 rfl); focus (first | exact z_auto | exact c_RA (h2) | exact c_RA (h3) | exact c_RA (h4) | exact c_RA (h5) | fail)) | refine thenA_n ?_ | refine thenA_r ?_ | refine thenA_e ?_ | refine inB_n ?_ | refine inB_r ?_ | refine inB_hit ?_ | refine inB_miss rfl ?_ | ((first | refine AL_cl rfl rfl rfl ⟨fun hc => ?_, fun hc => ?_⟩ | refine AD_cl rfl rfl rfl ⟨fun hc => ?_, fun hc => ?_⟩) <;> (fail_if_success (have q : (true = true) := hc)) <;> (fail_if_success (have q : (false = false) := hc)) <;> (repeat rw [List.length_map] at hc) <;> (try exact absd hc)) | refine AW_cond_nil rfl rfl (fun hc => ?_) ?_))
        refine ⟨(i + 1, acc ++ [⟨⟨ba t.1, ba h.1, false⟩, s.1⟩], s.2.1, s.2.2), ⟨by simp only; omega, by simp; omega, hs, by simp only; rw [show n - (i + 1) = m by omega]; exact hR⟩, by simp only; omega, ?_⟩
        (refine Le_mk ?_ ?_; (focus ((repeat (first | exact AllG.nil | (refine AllG.cons ?_ ?_; rotate_left))); (all_goals try (first | rfl | (refine eqI ?_; first | omega | (simp; done) | (simp; omega)) | (refine eqBo ?_; first | (simp; done) | (simp [*]; done)))))); (focus ((repeat (first | exact AllB.nil | (refine AllB.cons ?_ ?_; rotate_left))); (all_goals try (first | rfl | (refine eqRw ?_; (rw [List.map_append] <;> rfl); done) | (refine eqMix ?_; (rw [List.map_append] <;> rfl); done))))))
        show Blk.row _ _ (acc.map pcP ++ [[_, _, rawP (.bool (o.1 == 1)), _]]) = _
        rw [show (o.1 == 1) = false by simpa using ho, List.map_append]
        rfl
    · have hR2 : R = (acc, l, e) := by
        rw [← hR]
        by_cases he : e = 0
        · rw [show n - i = 0 by omega]; rfl
        · cases n - i with
          | zero => rfl
          | succ m => rw [lsSt, if_pos he]
      subst hR2
      simp only at hQ hgood
      have hD := rr_End b l e hs
      have h3 := rknow_Right acc hgood (decide (pcsOk acc)) (by simp)
      clear hgood hR
      by_cases hlt : i < n
      · have he : e ≠ 0 := fun q => hst ⟨hlt, q⟩
        have hen : endSt l e ≠ 0 := by unfold endSt; rw [if_neg (fun q => he q.1)]; exact he
        rw [finL, if_pos hen] at hQ
        subst hQ
        clear hst
        (repeat' (first | refine AW_seq ?_ | refine AW_block ?_ | refine AW_skip ?_ | refine AW_exit ?_ | refine AW_ret ?_ | refine AW_region ?_ | refine AW_draw mixed0 ?_ | refine AL_nil ?_ | refine AD_nil (by kernel_rfl) ?_ | (refine AW_cl rfl rfl ⟨fun hc => ?_, fun hc => ?_⟩ <;> (repeat rw [List.length_map] at hc) <;> (try exact absd hc)) | ((first | apply AL_t rfl | apply AL_0 rfl | apply AD_t rfl | apply AD_0 rfl); focus (first | exact z_auto | exact c_RA (hD) | exact c_A (h3) | fail)) | refine thenA_n ?_ | refine thenA_r ?_ | refine thenA_e ?_ | refine inB_n ?_ | refine inB_r ?_ | refine inB_hit ?_ | refine inB_miss rfl ?_ | ((first | refine AL_cl rfl rfl rfl ⟨fun hc => ?_, fun hc => ?_⟩ | refine AD_cl rfl rfl rfl ⟨fun hc => ?_, fun hc => ?_⟩) <;> (fail_if_success (have q : (true = true) := hc)) <;> (fail_if_success (have q : (false = false) := hc)) <;> (repeat rw [List.length_map] at hc) <;> (try exact absd hc)) | refine AW_cond_nil rfl rfl (fun hc => ?_) ?_))
        (refine ⟨(by first | exact .inl rfl | exact .inr rfl), res2 rfl ?_ ?_⟩)
        · exact rv_nil rfl
        · exact rv_int rfl rfl
      · clear hst
        (repeat' (first | refine AW_seq ?_ | refine AW_block ?_ | refine AW_skip ?_ | refine AW_exit ?_ | refine AW_ret ?_ | refine AW_region ?_ | refine AW_draw mixed0 ?_ | refine AL_nil ?_ | refine AD_nil (by kernel_rfl) ?_ | (refine AW_cl rfl rfl ⟨fun hc => ?_, fun hc => ?_⟩ <;> (repeat rw [List.length_map] at hc) <;> (try exact absd hc)) | ((first | apply AL_t rfl | apply AL_0 rfl | apply AD_t rfl | apply AD_0 rfl); focus (first | exact z_auto | exact c_RA (hD) | exact c_A (h3) | fail)) | refine thenA_n ?_ | refine thenA_r ?_ | refine thenA_e ?_ | refine inB_n ?_ | refine inB_r ?_ | refine inB_hit ?_ | refine inB_miss rfl ?_ | ((first | refine AL_cl rfl rfl rfl ⟨fun hc => ?_, fun hc => ?_⟩ | refine AD_cl rfl rfl rfl ⟨fun hc => ?_, fun hc => ?_⟩) <;> (fail_if_success (have q : (true = true) := hc)) <;> (fail_if_success (have q : (false = false) := hc)) <;> (repeat rw [List.length_map] at hc) <;> (try exact absd hc)) | refine AW_cond_nil rfl rfl (fun hc => ?_) ?_))
        · rw [finL, if_pos (by assumption)] at hQ
          subst hQ
          (refine ⟨(by first | exact .inl rfl | exact .inr rfl), res2 rfl ?_ ?_⟩)
          · exact rv_nil rfl
          · exact rv_int rfl rfl
        · rw [finL, if_neg (by simp [*]), if_neg (by simp_all)] at hQ
          subst hQ
          (refine ⟨(by first | exact .inl rfl | exact .inr rfl), res2 rfl ?_ ?_⟩)
          · exact rv_nil rfl
          · exact rv_int rfl rfl
        · rw [finL, if_neg (by simp [*]), if_pos (by simp_all)] at hQ
          subst hQ
          (refine ⟨(by first | exact .inl rfl | exact .inr rfl), res2 rfl ?_ ?_⟩)
          · exact rv_own rfl rfl rfl
          · exact rv_int rfl rfl
end
end Go.Proofs.Ytbpmafpmlapekaa
