/- What a range has, and which of two ends ahead: the program's and the references'. -/
import Derived.Test.YtpndnlnjgnckdaaRgO
namespace Go.Proofs.Ytpndnlnjgnckdaa
open Go.RowKit
section
set_option maxRecDepth 10000
set_option maxHeartbeats 4000000
theorem rspan_Has (r : Rg) (s : ByteArray) (hs : s.size ≤ 1000000000) : Fn Try.prog 41 [rgC r, sC s] (boR (rgHas r s)) := by
  have h1 := rspan_Right r
  obtain ⟨lo, hi, op⟩ := r
  have hR := rgR_iff ⟨lo, hi, op⟩
  have hH : rgHas ⟨lo, hi, op⟩ s = (rgR ⟨lo, hi, op⟩ && (decide (lo ≤ s) && (op || decide (s < hi)))) := rfl
  generalize rgHas ⟨lo, hi, op⟩ s = b at *
  generalize rgR ⟨lo, hi, op⟩ = q at *
  subst hH
  show Fn Try.prog _ [.per (aggP [rawP (.string lo), rawP (.string hi), rawP (.bool op)]), sC s] (boR _)
  cases q with
  | false =>
    refine fn_intro Try.func41 rfl (by kernel_rfl) Try.ntmps41 (Nat.le_of_ble_eq_true rfl) ?_
    (repeat' (first | refine AW_seq ?_ | refine AW_block ?_ | refine AW_skip ?_ | refine AW_exit ?_ | refine AW_ret ?_ | refine AW_region ?_ | refine AW_draw mixed0 ?_ | refine AL_nil ?_ | refine AD_nil (by kernel_rfl) ?_ | (refine AW_cl rfl rfl ⟨fun hc => ?_, fun hc => ?_⟩ <;> (repeat rw [List.length_map] at hc) <;> (try exact absd hc)) | ((first | apply AL_t rfl | apply AL_0 rfl | apply AD_t rfl | apply AD_0 rfl); focus (first | exact z_auto | exact c_A (h1) | fail)) | refine thenA_n ?_ | refine thenA_r ?_ | refine thenA_e ?_ | refine inB_n ?_ | refine inB_r ?_ | refine inB_hit ?_ | refine inB_miss rfl ?_ | ((first | refine AL_cl rfl rfl rfl ⟨fun hc => ?_, fun hc => ?_⟩ | refine AD_cl rfl rfl rfl ⟨fun hc => ?_, fun hc => ?_⟩) <;> (fail_if_success (have q : (true = true) := hc)) <;> (fail_if_success (have q : (false = false) := hc)) <;> (repeat rw [List.length_map] at hc) <;> (try exact absd hc)) | refine AW_cond_nil rfl rfl (fun hc => ?_) ?_))
    (refine ⟨(by first | exact .inl rfl | exact .inr rfl), res1 rfl ?_⟩)
    exact rv_bool rfl rfl
  | true =>
    have hlo := (hR.1 rfl).1
    simp only at hlo
    clear hR
    have h2 := ref_Less s lo (by omega)
    have h3 := ref_Less s hi (by omega)
    by_cases q1 : cmpB s lo < 0
    · rw [decide_eq_false (show ¬ lo ≤ s by have := (o_lt s lo).1 q1; grind)]
      rw [decide_eq_true q1] at h2
      refine fn_intro Try.func41 rfl (by kernel_rfl) Try.ntmps41 (Nat.le_of_ble_eq_true rfl) ?_
      (repeat' (first | refine AW_seq ?_ | refine AW_block ?_ | refine AW_skip ?_ | refine AW_exit ?_ | refine AW_ret ?_ | refine AW_region ?_ | refine AW_draw mixed0 ?_ | refine AL_nil ?_ | refine AD_nil (by kernel_rfl) ?_ | (refine AW_cl rfl rfl ⟨fun hc => ?_, fun hc => ?_⟩ <;> (repeat rw [List.length_map] at hc) <;> (try exact absd hc)) | ((first | apply AL_t rfl | apply AL_0 rfl | apply AD_t rfl | apply AD_0 rfl); focus (first | exact z_auto | exact c_A (h1) | exact c_A (h2) | fail)) | refine thenA_n ?_ | refine thenA_r ?_ | refine thenA_e ?_ | refine inB_n ?_ | refine inB_r ?_ | refine inB_hit ?_ | refine inB_miss rfl ?_ | ((first | refine AL_cl rfl rfl rfl ⟨fun hc => ?_, fun hc => ?_⟩ | refine AD_cl rfl rfl rfl ⟨fun hc => ?_, fun hc => ?_⟩) <;> (fail_if_success (have q : (true = true) := hc)) <;> (fail_if_success (have q : (false = false) := hc)) <;> (repeat rw [List.length_map] at hc) <;> (try exact absd hc)) | refine AW_cond_nil rfl rfl (fun hc => ?_) ?_))
      (refine ⟨(by first | exact .inl rfl | exact .inr rfl), res1 rfl ?_⟩)
      exact rv_bool rfl rfl
    · rw [decide_eq_true (show lo ≤ s by rw [o_lt] at q1; grind)]
      rw [decide_eq_false q1] at h2
      cases op with
      | true =>
        refine fn_intro Try.func41 rfl (by kernel_rfl) Try.ntmps41 (Nat.le_of_ble_eq_true rfl) ?_
        (repeat' (first | refine AW_seq ?_ | refine AW_block ?_ | refine AW_skip ?_ | refine AW_exit ?_ | refine AW_ret ?_ | refine AW_region ?_ | refine AW_draw mixed0 ?_ | refine AL_nil ?_ | refine AD_nil (by kernel_rfl) ?_ | (refine AW_cl rfl rfl ⟨fun hc => ?_, fun hc => ?_⟩ <;> (repeat rw [List.length_map] at hc) <;> (try exact absd hc)) | ((first | apply AL_t rfl | apply AL_0 rfl | apply AD_t rfl | apply AD_0 rfl); focus (first | exact z_auto | exact c_A (h1) | exact c_A (h2) | fail)) | refine thenA_n ?_ | refine thenA_r ?_ | refine thenA_e ?_ | refine inB_n ?_ | refine inB_r ?_ | refine inB_hit ?_ | refine inB_miss rfl ?_ | ((first | refine AL_cl rfl rfl rfl ⟨fun hc => ?_, fun hc => ?_⟩ | refine AD_cl rfl rfl rfl ⟨fun hc => ?_, fun hc => ?_⟩) <;> (fail_if_success (have q : (true = true) := hc)) <;> (fail_if_success (have q : (false = false) := hc)) <;> (repeat rw [List.length_map] at hc) <;> (try exact absd hc)) | refine AW_cond_nil rfl rfl (fun hc => ?_) ?_))
        (refine ⟨(by first | exact .inl rfl | exact .inr rfl), res1 rfl ?_⟩)
        exact rv_bool rfl rfl
      | false =>
        refine fn_intro Try.func41 rfl (by kernel_rfl) Try.ntmps41 (Nat.le_of_ble_eq_true rfl) ?_
        (repeat' (first | refine AW_seq ?_ | refine AW_block ?_ | refine AW_skip ?_ | refine AW_exit ?_ | refine AW_ret ?_ | refine AW_region ?_ | refine AW_draw mixed0 ?_ | refine AL_nil ?_ | refine AD_nil (by kernel_rfl) ?_ | (refine AW_cl rfl rfl ⟨fun hc => ?_, fun hc => ?_⟩ <;> (repeat rw [List.length_map] at hc) <;> (try exact absd hc)) | ((first | apply AL_t rfl | apply AL_0 rfl | apply AD_t rfl | apply AD_0 rfl); focus (first | exact z_auto | exact c_A (h1) | ((refine c_F (h2) (hg := ?_); ((repeat (first | exact GL.nil | (refine GL.cons ?_ ?_; focus (first | exact gl_per rfl | exact gl_lst rfl | exact gl_row rfl rfl rfl | exact gl_bor rfl | exact gl_nil rfl | exact gl_nil' rfl)))); done))) | (apply u_g; (focus rfl); apply op_gyes rfl rfl rfl rfl rfl; ((refine c_F (h2) (hg := ?_); ((repeat (first | exact GL.nil | (refine GL.cons ?_ ?_; focus (first | exact gl_per rfl | exact gl_lst rfl | exact gl_row rfl rfl rfl | exact gl_bor rfl | exact gl_nil rfl | exact gl_nil' rfl)))); done)))) | ((refine c_F (h3) (hg := ?_); ((repeat (first | exact GL.nil | (refine GL.cons ?_ ?_; focus (first | exact gl_per rfl | exact gl_lst rfl | exact gl_row rfl rfl rfl | exact gl_bor rfl | exact gl_nil rfl | exact gl_nil' rfl)))); done))) | (apply u_g; (focus rfl); apply op_gyes rfl rfl rfl rfl rfl; ((refine c_F (h3) (hg := ?_); ((repeat (first | exact GL.nil | (refine GL.cons ?_ ?_; focus (first | exact gl_per rfl | exact gl_lst rfl | exact gl_row rfl rfl rfl | exact gl_bor rfl | exact gl_nil rfl | exact gl_nil' rfl)))); done)))) | fail)) | refine thenA_n ?_ | refine thenA_r ?_ | refine thenA_e ?_ | refine inB_n ?_ | refine inB_r ?_ | refine inB_hit ?_ | refine inB_miss rfl ?_ | ((first | refine AL_cl rfl rfl rfl ⟨fun hc => ?_, fun hc => ?_⟩ | refine AD_cl rfl rfl rfl ⟨fun hc => ?_, fun hc => ?_⟩) <;> (fail_if_success (have q : (true = true) := hc)) <;> (fail_if_success (have q : (false = false) := hc)) <;> (repeat rw [List.length_map] at hc) <;> (try exact absd hc)) | refine AW_cond_nil rfl rfl (fun hc => ?_) ?_))
        (refine ⟨(by first | exact .inl rfl | exact .inr rfl), res1 rfl ?_⟩)
        exact rv_bool rfl rfl
end
end Go.Proofs.Ytpndnlnjgnckdaa
