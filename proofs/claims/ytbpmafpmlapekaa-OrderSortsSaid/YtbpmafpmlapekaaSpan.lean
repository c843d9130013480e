/- What a range has, and which of two ends ahead: the program's and the references'. -/
import Derived.Test.YtbpmafpmlapekaaRgO
namespace Go.Proofs.Ytbpmafpmlapekaa
open Go.RowKit
section
set_option maxRecDepth 10000
set_option maxHeartbeats 4000000
theorem span_Has (r : Rg) (s : ByteArray) (hs : s.size ≤ 1000000000) : Fn Try.prog 124 [rgC r, sC s] (boR (rgHas r s)) := by
  have h1 := span_Right r
  obtain ⟨lo, hi, op⟩ := r
  have hR := rgR_iff ⟨lo, hi, op⟩
  have hH : rgHas ⟨lo, hi, op⟩ s = (rgR ⟨lo, hi, op⟩ && (decide (lo ≤ s) && (op || decide (s < hi)))) := rfl
  generalize rgHas ⟨lo, hi, op⟩ s = b at *
  generalize rgR ⟨lo, hi, op⟩ = q at *
  subst hH
  show Fn Try.prog _ [.per (aggP [rawP (.string lo), rawP (.string hi), rawP (.bool op)]), sC s] (boR _)
  cases q with
  | false =>
    refine fn_intro Try.func124 rfl (by kernel_rfl) Try.ntmps124 (Nat.le_of_ble_eq_true rfl) ?_
    (repeat' (first | refine AW_seq ?_ | refine AW_block ?_ | refine AW_skip ?_ | refine AW_exit ?_ | refine AW_ret ?_ | refine AW_region ?_ | refine AW_draw mixed0 ?_ | refine AL_nil ?_ | refine AD_nil (by kernel_rfl) ?_ | (refine AW_cl rfl rfl ⟨fun hc => ?_, fun hc => ?_⟩ <;> (repeat rw [List.length_map] at hc) <;> (try exact absd hc)) | ((first | apply AL_t rfl | apply AL_0 rfl | apply AD_t rfl | apply AD_0 rfl); focus (first | exact z_auto | exact c_A (h1) | fail)) | refine thenA_n ?_ | refine thenA_r ?_ | refine thenA_e ?_ | refine inB_n ?_ | refine inB_r ?_ | refine inB_hit ?_ | refine inB_miss rfl ?_ | ((first | refine AL_cl rfl rfl rfl ⟨fun hc => ?_, fun hc => ?_⟩ | refine AD_cl rfl rfl rfl ⟨fun hc => ?_, fun hc => ?_⟩) <;> (fail_if_success (have q : (true = true) := hc)) <;> (fail_if_success (have q : (false = false) := hc)) <;> (repeat rw [List.length_map] at hc) <;> (try exact absd hc)) | refine AW_cond_nil rfl rfl (fun hc => ?_) ?_))
    (refine ⟨(by first | exact .inl rfl | exact .inr rfl), res1 rfl ?_⟩)
    exact rv_bool rfl rfl
  | true =>
    have hlo := (hR.1 rfl).1
    simp only at hlo
    clear hR
    have h2 := key_Cmp lo s (by omega)
    have h3 := key_Cmp s hi (by omega)
    by_cases q1 : cmpB lo s ≤ 0
    · rw [decide_eq_true (show lo ≤ s from q1)]
      cases op with
      | true =>
        refine fn_intro Try.func124 rfl (by kernel_rfl) Try.ntmps124 (Nat.le_of_ble_eq_true rfl) ?_
        (repeat' (first | refine AW_seq ?_ | refine AW_block ?_ | refine AW_skip ?_ | refine AW_exit ?_ | refine AW_ret ?_ | refine AW_region ?_ | refine AW_draw mixed0 ?_ | refine AL_nil ?_ | refine AD_nil (by kernel_rfl) ?_ | (refine AW_cl rfl rfl ⟨fun hc => ?_, fun hc => ?_⟩ <;> (repeat rw [List.length_map] at hc) <;> (try exact absd hc)) | ((first | apply AL_t rfl | apply AL_0 rfl | apply AD_t rfl | apply AD_0 rfl); focus (first | exact z_auto | exact c_A (h1) | ((refine c_F (h2) (hg := ?_); ((repeat (first | exact GL.nil | (refine GL.cons ?_ ?_; focus (first | exact gl_per rfl | exact gl_lst rfl | exact gl_row rfl rfl rfl | exact gl_bor rfl | exact gl_nil rfl | exact gl_nil' rfl)))); done))) | (apply u_g; (focus rfl); apply op_gyes rfl rfl rfl rfl rfl; ((refine c_F (h2) (hg := ?_); ((repeat (first | exact GL.nil | (refine GL.cons ?_ ?_; focus (first | exact gl_per rfl | exact gl_lst rfl | exact gl_row rfl rfl rfl | exact gl_bor rfl | exact gl_nil rfl | exact gl_nil' rfl)))); done)))) | ((refine c_F (h3) (hg := ?_); ((repeat (first | exact GL.nil | (refine GL.cons ?_ ?_; focus (first | exact gl_per rfl | exact gl_lst rfl | exact gl_row rfl rfl rfl | exact gl_bor rfl | exact gl_nil rfl | exact gl_nil' rfl)))); done))) | (apply u_g; (focus rfl); apply op_gyes rfl rfl rfl rfl rfl; ((refine c_F (h3) (hg := ?_); ((repeat (first | exact GL.nil | (refine GL.cons ?_ ?_; focus (first | exact gl_per rfl | exact gl_lst rfl | exact gl_row rfl rfl rfl | exact gl_bor rfl | exact gl_nil rfl | exact gl_nil' rfl)))); done)))) | fail)) | refine thenA_n ?_ | refine thenA_r ?_ | refine thenA_e ?_ | refine inB_n ?_ | refine inB_r ?_ | refine inB_hit ?_ | refine inB_miss rfl ?_ | ((first | refine AL_cl rfl rfl rfl ⟨fun hc => ?_, fun hc => ?_⟩ | refine AD_cl rfl rfl rfl ⟨fun hc => ?_, fun hc => ?_⟩) <;> (fail_if_success (have q : (true = true) := hc)) <;> (fail_if_success (have q : (false = false) := hc)) <;> (repeat rw [List.length_map] at hc) <;> (try exact absd hc)) | refine AW_cond_nil rfl rfl (fun hc => ?_) ?_))
        (refine ⟨(by first | exact .inl rfl | exact .inr rfl), res1 rfl ?_⟩)
        exact rv_bool rfl rfl
      | false =>
        refine fn_intro Try.func124 rfl (by kernel_rfl) Try.ntmps124 (Nat.le_of_ble_eq_true rfl) ?_
        (repeat' (first | refine AW_seq ?_ | refine AW_block ?_ | refine AW_skip ?_ | refine AW_exit ?_ | refine AW_ret ?_ | refine AW_region ?_ | refine AW_draw mixed0 ?_ | refine AL_nil ?_ | refine AD_nil (by kernel_rfl) ?_ | (refine AW_cl rfl rfl ⟨fun hc => ?_, fun hc => ?_⟩ <;> (repeat rw [List.length_map] at hc) <;> (try exact absd hc)) | ((first | apply AL_t rfl | apply AL_0 rfl | apply AD_t rfl | apply AD_0 rfl); focus (first | exact z_auto | exact c_A (h1) | ((refine c_F (h2) (hg := ?_); ((repeat (first | exact GL.nil | (refine GL.cons ?_ ?_; focus (first | exact gl_per rfl | exact gl_lst rfl | exact gl_row rfl rfl rfl | exact gl_bor rfl | exact gl_nil rfl | exact gl_nil' rfl)))); done))) | (apply u_g; (focus rfl); apply op_gyes rfl rfl rfl rfl rfl; ((refine c_F (h2) (hg := ?_); ((repeat (first | exact GL.nil | (refine GL.cons ?_ ?_; focus (first | exact gl_per rfl | exact gl_lst rfl | exact gl_row rfl rfl rfl | exact gl_bor rfl | exact gl_nil rfl | exact gl_nil' rfl)))); done)))) | ((refine c_F (h3) (hg := ?_); ((repeat (first | exact GL.nil | (refine GL.cons ?_ ?_; focus (first | exact gl_per rfl | exact gl_lst rfl | exact gl_row rfl rfl rfl | exact gl_bor rfl | exact gl_nil rfl | exact gl_nil' rfl)))); done))) | (apply u_g; (focus rfl); apply op_gyes rfl rfl rfl rfl rfl; ((refine c_F (h3) (hg := ?_); ((repeat (first | exact GL.nil | (refine GL.cons ?_ ?_; focus (first | exact gl_per rfl | exact gl_lst rfl | exact gl_row rfl rfl rfl | exact gl_bor rfl | exact gl_nil rfl | exact gl_nil' rfl)))); done)))) | fail)) | refine thenA_n ?_ | refine thenA_r ?_ | refine thenA_e ?_ | refine inB_n ?_ | refine inB_r ?_ | refine inB_hit ?_ | refine inB_miss rfl ?_ | ((first | refine AL_cl rfl rfl rfl ⟨fun hc => ?_, fun hc => ?_⟩ | refine AD_cl rfl rfl rfl ⟨fun hc => ?_, fun hc => ?_⟩) <;> (fail_if_success (have q : (true = true) := hc)) <;> (fail_if_success (have q : (false = false) := hc)) <;> (repeat rw [List.length_map] at hc) <;> (try exact absd hc)) | refine AW_cond_nil rfl rfl (fun hc => ?_) ?_))
        (refine ⟨(by first | exact .inl rfl | exact .inr rfl), res1 rfl ?_⟩)
        exact rv_bool rfl rfl
    · rw [decide_eq_false (show ¬ lo ≤ s from q1)]
      refine fn_intro Try.func124 rfl (by kernel_rfl) Try.ntmps124 (Nat.le_of_ble_eq_true rfl) ?_
      (repeat' (first | refine AW_seq ?_ | refine AW_block ?_ | refine AW_skip ?_ | refine AW_exit ?_ | refine AW_ret ?_ | refine AW_region ?_ | refine AW_draw mixed0 ?_ | refine AL_nil ?_ | refine AD_nil (by kernel_rfl) ?_ | (refine AW_cl rfl rfl ⟨fun hc => ?_, fun hc => ?_⟩ <;> (repeat rw [List.length_map] at hc) <;> (try exact absd hc)) | ((first | apply AL_t rfl | apply AL_0 rfl | apply AD_t rfl | apply AD_0 rfl); focus (first | exact z_auto | exact c_A (h1) | exact c_A (h2) | fail)) | refine thenA_n ?_ | refine thenA_r ?_ | refine thenA_e ?_ | refine inB_n ?_ | refine inB_r ?_ | refine inB_hit ?_ | refine inB_miss rfl ?_ | ((first | refine AL_cl rfl rfl rfl ⟨fun hc => ?_, fun hc => ?_⟩ | refine AD_cl rfl rfl rfl ⟨fun hc => ?_, fun hc => ?_⟩) <;> (fail_if_success (have q : (true = true) := hc)) <;> (fail_if_success (have q : (false = false) := hc)) <;> (repeat rw [List.length_map] at hc) <;> (try exact absd hc)) | refine AW_cond_nil rfl rfl (fun hc => ?_) ?_))
      (refine ⟨(by first | exact .inl rfl | exact .inr rfl), res1 rfl ?_⟩)
      exact rv_bool rfl rfl
theorem rspan_Has (r : Rg) (s : ByteArray) (hs : s.size ≤ 1000000000) : Fn Try.prog 88 [rgC r, sC s] (boR (rgHas r s)) := by
  have h1 := rspan_Right r
  obtain ⟨lo, hi, op⟩ := r
  have hR := rgR_iff ⟨lo, hi, op⟩
  have hH : rgHas ⟨lo, hi, op⟩ s = (rgR ⟨lo, hi, op⟩ && (decide (lo ≤ s) && (op || decide (s < hi)))) := rfl
  generalize rgHas ⟨lo, hi, op⟩ s = b at *
  generalize rgR ⟨lo, hi, op⟩ = q at *
  subst hH
  show Fn Try.prog _ [.per (aggP [rawP (.string lo), rawP (.string hi), rawP (.bool op)]), sC s] (boR _)
  cases q with
  | false =>
    refine fn_intro Try.func88 rfl (by kernel_rfl) Try.ntmps88 (Nat.le_of_ble_eq_true rfl) ?_
    (repeat' (first | refine AW_seq ?_ | refine AW_block ?_ | refine AW_skip ?_ | refine AW_exit ?_ | refine AW_ret ?_ | refine AW_region ?_ | refine AW_draw mixed0 ?_ | refine AL_nil ?_ | refine AD_nil (by kernel_rfl) ?_ | (refine AW_cl rfl rfl ⟨fun hc => ?_, fun hc => ?_⟩ <;> (repeat rw [List.length_map] at hc) <;> (try exact absd hc)) | ((first | apply AL_t rfl | apply AL_0 rfl | apply AD_t rfl | apply AD_0 rfl); focus (first | exact z_auto | exact c_A (h1) | fail)) | refine thenA_n ?_ | refine thenA_r ?_ | refine thenA_e ?_ | refine inB_n ?_ | refine inB_r ?_ | refine inB_hit ?_ | refine inB_miss rfl ?_ | ((first | refine AL_cl rfl rfl rfl ⟨fun hc => ?_, fun hc => ?_⟩ | refine AD_cl rfl rfl rfl ⟨fun hc => ?_, fun hc => ?_⟩) <;> (fail_if_success (have q : (true = true) := hc)) <;> (fail_if_success (have q : (false = false) := hc)) <;> (repeat rw [List.length_map] at hc) <;> (try exact absd hc)) | refine AW_cond_nil rfl rfl (fun hc => ?_) ?_))
    (refine ⟨(by first | exact .inl rfl | exact .inr rfl), res1 rfl ?_⟩)
    exact rv_bool rfl rfl
  | true =>
    have hlo := (hR.1 rfl).1
    simp only at hlo
    clear hR
    have h2 := ref_Less s lo (by omega)
    have h3 := ref_Less s hi (by omega)
    by_cases q1 : cmpB s lo < 0
    · rw [decide_eq_false (show ¬ lo ≤ s by have := (o_lt s lo).1 q1; grind)]
      rw [decide_eq_true q1] at h2
      refine fn_intro Try.func88 rfl (by kernel_rfl) Try.ntmps88 (Nat.le_of_ble_eq_true rfl) ?_
      (repeat' (first | refine AW_seq ?_ | refine AW_block ?_ | refine AW_skip ?_ | refine AW_exit ?_ | refine AW_ret ?_ | refine AW_region ?_ | refine AW_draw mixed0 ?_ | refine AL_nil ?_ | refine AD_nil (by kernel_rfl) ?_ | (refine AW_cl rfl rfl ⟨fun hc => ?_, fun hc => ?_⟩ <;> (repeat rw [List.length_map] at hc) <;> (try exact absd hc)) | ((first | apply AL_t rfl | apply AL_0 rfl | apply AD_t rfl | apply AD_0 rfl); focus (first | exact z_auto | exact c_A (h1) | exact c_A (h2) | fail)) | refine thenA_n ?_ | refine thenA_r ?_ | refine thenA_e ?_ | refine inB_n ?_ | refine inB_r ?_ | refine inB_hit ?_ | refine inB_miss rfl ?_ | ((first | refine AL_cl rfl rfl rfl ⟨fun hc => ?_, fun hc => ?_⟩ | refine AD_cl rfl rfl rfl ⟨fun hc => ?_, fun hc => ?_⟩) <;> (fail_if_success (have q : (true = true) := hc)) <;> (fail_if_success (have q : (false = false) := hc)) <;> (repeat rw [List.length_map] at hc) <;> (try exact absd hc)) | refine AW_cond_nil rfl rfl (fun hc => ?_) ?_))
      (refine ⟨(by first | exact .inl rfl | exact .inr rfl), res1 rfl ?_⟩)
      exact rv_bool rfl rfl
    · rw [decide_eq_true (show lo ≤ s by rw [o_lt] at q1; grind)]
      rw [decide_eq_false q1] at h2
      cases op with
      | true =>
        refine fn_intro Try.func88 rfl (by kernel_rfl) Try.ntmps88 (Nat.le_of_ble_eq_true rfl) ?_
        (repeat' (first | refine AW_seq ?_ | refine AW_block ?_ | refine AW_skip ?_ | refine AW_exit ?_ | refine AW_ret ?_ | refine AW_region ?_ | refine AW_draw mixed0 ?_ | refine AL_nil ?_ | refine AD_nil (by kernel_rfl) ?_ | (refine AW_cl rfl rfl ⟨fun hc => ?_, fun hc => ?_⟩ <;> (repeat rw [List.length_map] at hc) <;> (try exact absd hc)) | ((first | apply AL_t rfl | apply AL_0 rfl | apply AD_t rfl | apply AD_0 rfl); focus (first | exact z_auto | exact c_A (h1) | exact c_A (h2) | fail)) | refine thenA_n ?_ | refine thenA_r ?_ | refine thenA_e ?_ | refine inB_n ?_ | refine inB_r ?_ | refine inB_hit ?_ | refine inB_miss rfl ?_ | ((first | refine AL_cl rfl rfl rfl ⟨fun hc => ?_, fun hc => ?_⟩ | refine AD_cl rfl rfl rfl ⟨fun hc => ?_, fun hc => ?_⟩) <;> (fail_if_success (have q : (true = true) := hc)) <;> (fail_if_success (have q : (false = false) := hc)) <;> (repeat rw [List.length_map] at hc) <;> (try exact absd hc)) | refine AW_cond_nil rfl rfl (fun hc => ?_) ?_))
        (refine ⟨(by first | exact .inl rfl | exact .inr rfl), res1 rfl ?_⟩)
        exact rv_bool rfl rfl
      | false =>
        refine fn_intro Try.func88 rfl (by kernel_rfl) Try.ntmps88 (Nat.le_of_ble_eq_true rfl) ?_
        (repeat' (first | refine AW_seq ?_ | refine AW_block ?_ | refine AW_skip ?_ | refine AW_exit ?_ | refine AW_ret ?_ | refine AW_region ?_ | refine AW_draw mixed0 ?_ | refine AL_nil ?_ | refine AD_nil (by kernel_rfl) ?_ | (refine AW_cl rfl rfl ⟨fun hc => ?_, fun hc => ?_⟩ <;> (repeat rw [List.length_map] at hc) <;> (try exact absd hc)) | ((first | apply AL_t rfl | apply AL_0 rfl | apply AD_t rfl | apply AD_0 rfl); focus (first | exact z_auto | exact c_A (h1) | ((refine c_F (h2) (hg := ?_); ((repeat (first | exact GL.nil | (refine GL.cons ?_ ?_; focus (first | exact gl_per rfl | exact gl_lst rfl | exact gl_row rfl rfl rfl | exact gl_bor rfl | exact gl_nil rfl | exact gl_nil' rfl)))); done))) | (apply u_g; (focus rfl); apply op_gyes rfl rfl rfl rfl rfl; ((refine c_F (h2) (hg := ?_); ((repeat (first | exact GL.nil | (refine GL.cons ?_ ?_; focus (first | exact gl_per rfl | exact gl_lst rfl | exact gl_row rfl rfl rfl | exact gl_bor rfl | exact gl_nil rfl | exact gl_nil' rfl)))); done)))) | ((refine c_F (h3) (hg := ?_); ((repeat (first | exact GL.nil | (refine GL.cons ?_ ?_; focus (first | exact gl_per rfl | exact gl_lst rfl | exact gl_row rfl rfl rfl | exact gl_bor rfl | exact gl_nil rfl | exact gl_nil' rfl)))); done))) | (apply u_g; (focus rfl); apply op_gyes rfl rfl rfl rfl rfl; ((refine c_F (h3) (hg := ?_); ((repeat (first | exact GL.nil | (refine GL.cons ?_ ?_; focus (first | exact gl_per rfl | exact gl_lst rfl | exact gl_row rfl rfl rfl | exact gl_bor rfl | exact gl_nil rfl | exact gl_nil' rfl)))); done)))) | fail)) | refine thenA_n ?_ | refine thenA_r ?_ | refine thenA_e ?_ | refine inB_n ?_ | refine inB_r ?_ | refine inB_hit ?_ | refine inB_miss rfl ?_ | ((first | refine AL_cl rfl rfl rfl ⟨fun hc => ?_, fun hc => ?_⟩ | refine AD_cl rfl rfl rfl ⟨fun hc => ?_, fun hc => ?_⟩) <;> (fail_if_success (have q : (true = true) := hc)) <;> (fail_if_success (have q : (false = false) := hc)) <;> (repeat rw [List.length_map] at hc) <;> (try exact absd hc)) | refine AW_cond_nil rfl rfl (fun hc => ?_) ?_))
        (refine ⟨(by first | exact .inl rfl | exact .inr rfl), res1 rfl ?_⟩)
        exact rv_bool rfl rfl
theorem rrgs_Has (l : List Rg) (s : ByteArray) (hl : l.length ≤ 1000000000) (hs : s.size ≤ 1000000000) : Fn Try.prog 36 [rgsB l, sC s] (boR (anyR l s)) := by
  generalize hb : anyR l s = b
  refine fn_intro Try.func36 rfl (by kernel_rfl) Try.ntmps36 (Nat.le_of_ble_eq_true rfl) ?_
  (repeat' (first | refine AW_seq ?_ | refine AW_block ?_ | refine AW_skip ?_ | refine AW_exit ?_ | refine AW_ret ?_ | refine AW_region ?_ | refine AW_draw mixed0 ?_ | refine AL_nil ?_ | refine AD_nil (by kernel_rfl) ?_ | (refine AW_cl rfl rfl ⟨fun hc => ?_, fun hc => ?_⟩ <;> (repeat rw [List.length_map] at hc) <;> (try exact absd hc)) | ((first | apply AL_t rfl | apply AL_0 rfl | apply AD_t rfl | apply AD_0 rfl); focus (first | exact z_auto | fail)) | refine thenA_n ?_ | refine thenA_r ?_ | refine thenA_e ?_ | refine inB_n ?_ | refine inB_r ?_ | refine inB_hit ?_ | refine inB_miss rfl ?_ | ((first | refine AL_cl rfl rfl rfl ⟨fun hc => ?_, fun hc => ?_⟩ | refine AD_cl rfl rfl rfl ⟨fun hc => ?_, fun hc => ?_⟩) <;> (fail_if_success (have q : (true = true) := hc)) <;> (fail_if_success (have q : (false = false) := hc)) <;> (repeat rw [List.length_map] at hc) <;> (try exact absd hc)) | refine AW_cond_nil rfl rfl (fun hc => ?_) ?_))
  refine AW_loopP (X := Nat) (fun z => z ≤ l.length ∧ anyR (l.drop z) s = b)
    (fun z => mkSt [(0, rgsB l), (1, sC s), (5, iC .i64 (z : Nat))] []) (fun z => l.length - z) 0 ⟨Nat.zero_le _, by rw [List.drop_zero]; exact hb⟩ ?_ ?_
  · exact le_auto
  · rintro z ⟨h1, h2⟩
    by_cases hz : z < l.length
    · have h3 := rspan_Has l[z] s hs
      rw [List.drop_eq_getElem_cons hz, anyR, List.any_cons] at h2
      cases hr : rgHas l[z] s with
      | true =>
        rw [hr] at h3 h2
        rw [Bool.true_or] at h2
        subst h2
        clear hb
        (repeat' (first | refine AW_seq ?_ | refine AW_block ?_ | refine AW_skip ?_ | refine AW_exit ?_ | refine AW_ret ?_ | refine AW_region ?_ | refine AW_draw mixed0 ?_ | refine AL_nil ?_ | refine AD_nil (by kernel_rfl) ?_ | (refine AW_cl rfl rfl ⟨fun hc => ?_, fun hc => ?_⟩ <;> (repeat rw [List.length_map] at hc) <;> (try exact absd hc)) | ((first | apply AL_t rfl | apply AL_0 rfl | apply AD_t rfl | apply AD_0 rfl); focus (first | exact z_auto | exact c_A (h3) | fail)) | refine thenA_n ?_ | refine thenA_r ?_ | refine thenA_e ?_ | refine inB_n ?_ | refine inB_r ?_ | refine inB_hit ?_ | refine inB_miss rfl ?_ | ((first | refine AL_cl rfl rfl rfl ⟨fun hc => ?_, fun hc => ?_⟩ | refine AD_cl rfl rfl rfl ⟨fun hc => ?_, fun hc => ?_⟩) <;> (fail_if_success (have q : (true = true) := hc)) <;> (fail_if_success (have q : (false = false) := hc)) <;> (repeat rw [List.length_map] at hc) <;> (try exact absd hc)) | refine AW_cond_nil rfl rfl (fun hc => ?_) ?_))
        (refine ⟨(by first | exact .inl rfl | exact .inr rfl), res1 rfl ?_⟩)
        exact rv_bool rfl rfl
      | false =>
        rw [hr] at h3 h2
        rw [Bool.false_or] at h2
        clear hb
        (repeat' (first | refine AW_seq ?_ | refine AW_block ?_ | refine AW_skip ?_ | refine AW_exit ?_ | refine AW_ret ?_ | refine AW_region ?_ | refine AW_draw mixed0 ?_ | refine AL_nil ?_ | refine AD_nil (by kernel_rfl) ?_ | (refine AW_cl rfl rfl ⟨fun hc => ?_, fun hc => ?_⟩ <;> (repeat rw [List.length_map] at hc) <;> (try exact absd hc)) | ((first | apply AL_t rfl | apply AL_0 rfl | apply AD_t rfl | apply AD_0 rfl); focus (first | exact z_auto | exact c_A (h3) | fail)) | refine thenA_n ?_ | refine thenA_r ?_ | refine thenA_e ?_ | refine inB_n ?_ | refine inB_r ?_ | refine inB_hit ?_ | refine inB_miss rfl ?_ | ((first | refine AL_cl rfl rfl rfl ⟨fun hc => ?_, fun hc => ?_⟩ | refine AD_cl rfl rfl rfl ⟨fun hc => ?_, fun hc => ?_⟩) <;> (fail_if_success (have q : (true = true) := hc)) <;> (fail_if_success (have q : (false = false) := hc)) <;> (repeat rw [List.length_map] at hc) <;> (try exact absd hc)) | refine AW_cond_nil rfl rfl (fun hc => ?_) ?_))
        refine ⟨z + 1, ⟨by omega, h2⟩, by omega, ?_⟩
        exact le_auto
    · obtain rfl : z = l.length := by omega
      rw [List.drop_length] at h2
      simp only [anyR, List.any_nil] at h2
      subst h2
      clear hb
      (repeat' (first | refine AW_seq ?_ | refine AW_block ?_ | refine AW_skip ?_ | refine AW_exit ?_ | refine AW_ret ?_ | refine AW_region ?_ | refine AW_draw mixed0 ?_ | refine AL_nil ?_ | refine AD_nil (by kernel_rfl) ?_ | (refine AW_cl rfl rfl ⟨fun hc => ?_, fun hc => ?_⟩ <;> (repeat rw [List.length_map] at hc) <;> (try exact absd hc)) | ((first | apply AL_t rfl | apply AL_0 rfl | apply AD_t rfl | apply AD_0 rfl); focus (first | exact z_auto | fail)) | refine thenA_n ?_ | refine thenA_r ?_ | refine thenA_e ?_ | refine inB_n ?_ | refine inB_r ?_ | refine inB_hit ?_ | refine inB_miss rfl ?_ | ((first | refine AL_cl rfl rfl rfl ⟨fun hc => ?_, fun hc => ?_⟩ | refine AD_cl rfl rfl rfl ⟨fun hc => ?_, fun hc => ?_⟩) <;> (fail_if_success (have q : (true = true) := hc)) <;> (fail_if_success (have q : (false = false) := hc)) <;> (repeat rw [List.length_map] at hc) <;> (try exact absd hc)) | refine AW_cond_nil rfl rfl (fun hc => ?_) ?_))
      (refine ⟨(by first | exact .inl rfl | exact .inr rfl), res1 rfl ?_⟩)
      exact rv_bool rfl rfl
theorem span_Ends (x y : Rg) (hx : rgR x = true) (hy : rgR y = true) : Fn Try.prog 121 [rgC x, rgC y] (inR (endR x y)) := by
  have h1 := span_Right x
  have h2 := span_Right y
  have hR := (rgR_iff x).1 hx
  rw [hx] at h1
  rw [hy] at h2
  clear hx hy
  obtain ⟨lo, hi, op⟩ := x
  obtain ⟨lo', hi', op'⟩ := y
  have hhi := hR.2.1
  simp only at hhi
  clear hR
  have h3 := key_Cmp hi hi' (by omega)
  have hE : endR ⟨lo, hi, op⟩ ⟨lo', hi', op'⟩ = (if op && op' then 0 else if op then 1 else if op' then -1 else cmpB hi hi') := rfl
  rw [hE]
  show Fn Try.prog _ [.per (aggP [rawP (.string lo), rawP (.string hi), rawP (.bool op)]), .per (aggP [rawP (.string lo'), rawP (.string hi'), rawP (.bool op')])] (inR _)
  cases op <;> cases op'
  all_goals
    refine fn_intro Try.func121 rfl (by kernel_rfl) Try.ntmps121 (Nat.le_of_ble_eq_true rfl) ?_
    (repeat' (first | refine AW_seq ?_ | refine AW_block ?_ | refine AW_skip ?_ | refine AW_exit ?_ | refine AW_ret ?_ | refine AW_region ?_ | refine AW_draw mixed0 ?_ | refine AL_nil ?_ | refine AD_nil (by kernel_rfl) ?_ | (refine AW_cl rfl rfl ⟨fun hc => ?_, fun hc => ?_⟩ <;> (repeat rw [List.length_map] at hc) <;> (try exact absd hc)) | ((first | apply AL_t rfl | apply AL_0 rfl | apply AD_t rfl | apply AD_0 rfl); focus (first | exact z_auto | ((refine c_F (h1) (hg := ?_); ((repeat (first | exact GL.nil | (refine GL.cons ?_ ?_; focus (first | exact gl_per rfl | exact gl_lst rfl | exact gl_row rfl rfl rfl | exact gl_bor rfl | exact gl_nil rfl | exact gl_nil' rfl)))); done))) | (apply u_g; (focus rfl); apply op_gyes rfl rfl rfl rfl rfl; ((refine c_F (h1) (hg := ?_); ((repeat (first | exact GL.nil | (refine GL.cons ?_ ?_; focus (first | exact gl_per rfl | exact gl_lst rfl | exact gl_row rfl rfl rfl | exact gl_bor rfl | exact gl_nil rfl | exact gl_nil' rfl)))); done)))) | ((refine c_F (h2) (hg := ?_); ((repeat (first | exact GL.nil | (refine GL.cons ?_ ?_; focus (first | exact gl_per rfl | exact gl_lst rfl | exact gl_row rfl rfl rfl | exact gl_bor rfl | exact gl_nil rfl | exact gl_nil' rfl)))); done))) | (apply u_g; (focus rfl); apply op_gyes rfl rfl rfl rfl rfl; ((refine c_F (h2) (hg := ?_); ((repeat (first | exact GL.nil | (refine GL.cons ?_ ?_; focus (first | exact gl_per rfl | exact gl_lst rfl | exact gl_row rfl rfl rfl | exact gl_bor rfl | exact gl_nil rfl | exact gl_nil' rfl)))); done)))) | exact c_A (h3) | fail)) | refine thenA_n ?_ | refine thenA_r ?_ | refine thenA_e ?_ | refine inB_n ?_ | refine inB_r ?_ | refine inB_hit ?_ | refine inB_miss rfl ?_ | ((first | refine AL_cl rfl rfl rfl ⟨fun hc => ?_, fun hc => ?_⟩ | refine AD_cl rfl rfl rfl ⟨fun hc => ?_, fun hc => ?_⟩) <;> (fail_if_success (have q : (true = true) := hc)) <;> (fail_if_success (have q : (false = false) := hc)) <;> (repeat rw [List.length_map] at hc) <;> (try exact absd hc)) | refine AW_cond_nil rfl rfl (fun hc => ?_) ?_))
    (refine ⟨(by first | exact .inl rfl | exact .inr rfl), res1 rfl ?_⟩)
    exact rv_int rfl rfl
end
end Go.Proofs.Ytbpmafpmlapekaa
