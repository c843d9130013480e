/- Sets as bytes: the law, walked. -/
import Derived.Test.YtbpmafpmlapekaaKcR
import Derived.Test.YtbpmafpmlapekaaByt
namespace Go.Proofs.Ytbpmafpmlapekaa
open Go.RowKit
theorem runsB_len : ∀ (l : List Rn) (was : Int), 0 ≤ was → (∀ r ∈ l, rnR r = true) → (runsB was l).length ≤ 20 * l.length := by
  intro l
  induction l with
  | nil => intro was _ _; simp [runsB]
  | cons x l ih =>
    intro was h0 h
    have hx := (rnR_iff x).1 (h x List.mem_cons_self)
    have h1 := numI_len (x.fr - was) (by omega)
    have h2 := numI_len (x.to - x.fr) (by omega)
    have h3 := ih x.to (by omega) (fun r hr => h r (List.mem_cons_of_mem _ hr))
    rw [runsB, List.length_append, List.length_append, List.length_cons]
    omega
theorem knB_len {k : Kn} (h1 : 1 ≤ k.rep) (h2 : k.rep ≤ 16) (h3 : rnsOk k.runs) (hf : k.runs.length ≤ 4096) : (knB k).length ≤ 90000 := by
  have q1 := numI_len k.rep (by omega)
  have q2 := numI_len (k.runs.length : Int) (by omega)
  have q3 := runsB_len k.runs 0 (by omega) (fun r hr => by
    obtain ⟨i, hi, rfl⟩ := List.getElem_of_mem hr
    exact (h3 i hi hi).1)
  unfold knB
  rw [List.length_append, List.length_append]; omega
theorem flat_lenC {α : Type} {B : α → List UInt8} (c : Nat) : ∀ l : List α, (∀ x ∈ l, (B x).length ≤ c) → (l.flatMap B).length ≤ c * l.length := by
  intro l
  induction l with
  | nil => intro _; simp
  | cons x l ih =>
    intro h
    have h1 := h x List.mem_cons_self
    have h2 := ih (fun y hy => h y (List.mem_cons_of_mem _ hy))
    rw [List.flatMap_cons, List.length_append, List.length_cons, Nat.mul_add]; omega
theorem setB_len {s : List Kn} (h : knsOk s) (hf : fewS s) : (setB s).length ≤ 1500000 := by
  have h1 := flat_lenC (B := knB) 90000 s (fun k hk => by
    have hfk := hf k hk
    obtain ⟨i, hi, rfl⟩ := List.getElem_of_mem hk
    obtain ⟨a, b, _, d⟩ := knsOk_get h hi
    exact knB_len a b d hfk)
  have h2 := knsOk_len h
  have h3 := numI_len (s.length : Int) (by omega)
  unfold setB
  rw [List.length_append]; omega
def s16 : List Kn := [⟨1, [⟨1, 3⟩, ⟨6, 6⟩]⟩]
theorem numI_s' {n : Int} (h0 : 0 ≤ n) (h : n < 128) : numI n = [UInt8.ofNat n.toNat] := by unfold numI; rw [numB_lt (by omega)]
theorem s16B : setB s16 = [1, 1, 2, 1, 2, 3, 0] := by
  unfold setB s16
  simp only [List.flatMap_cons, List.flatMap_nil, List.append_nil, knB, runsB, List.length_cons, List.length_nil]
  rw [numI_s' (by simp) (by simp), numI_s' (by simp) (by simp), numI_s' (by simp) (by simp), numI_s' (by simp) (by simp), numI_s' (by simp) (by simp), numI_s' (by simp) (by simp), numI_s' (by simp) (by simp)]
  rfl
section
set_option maxRecDepth 10000
set_option maxHeartbeats 8000000
theorem know_Right0 : Fn Try.prog 96 [.bor 4 []] (boR true) := by
  refine fn_intro Try.func96 rfl (by kernel_rfl) Try.ntmps96 (Nat.le_of_ble_eq_true rfl) ?_
  (repeat' (first | refine AW_seq ?_ | refine AW_block ?_ | refine AW_skip ?_ | refine AW_exit ?_ | refine AW_ret ?_ | refine AW_region ?_ | refine AW_draw mixed0 ?_ | refine AL_nil ?_ | refine AD_nil (by kernel_rfl) ?_ | (refine AW_cl rfl rfl ⟨fun hc => ?_, fun hc => ?_⟩ <;> (repeat rw [List.length_map] at hc) <;> (try exact absd hc)) | ((first | apply AL_t rfl | apply AL_0 rfl | apply AD_t rfl | apply AD_0 rfl); focus (first | exact z_auto | fail)) | refine thenA_n ?_ | refine thenA_r ?_ | refine thenA_e ?_ | refine inB_n ?_ | refine inB_r ?_ | refine inB_hit ?_ | refine inB_miss rfl ?_ | ((first | refine AL_cl rfl rfl rfl ⟨fun hc => ?_, fun hc => ?_⟩ | refine AD_cl rfl rfl rfl ⟨fun hc => ?_, fun hc => ?_⟩) <;> (fail_if_success (have q : (true = true) := hc)) <;> (fail_if_success (have q : (false = false) := hc)) <;> (repeat rw [List.length_map] at hc) <;> (try exact absd hc)) | refine AW_cond_nil rfl rfl (fun hc => ?_) ?_))
  refine AW_loopP (X := Unit) (fun _ => True) (fun _ => mkSt [(7, iC .i64 0), (8, iC .i64 0)] []) (fun _ => 0) () trivial ?_ ?_
  · exact le_auto
  · intro _ _
    (repeat' (first | refine AW_seq ?_ | refine AW_block ?_ | refine AW_skip ?_ | refine AW_exit ?_ | refine AW_ret ?_ | refine AW_region ?_ | refine AW_draw mixed0 ?_ | refine AL_nil ?_ | refine AD_nil (by kernel_rfl) ?_ | (refine AW_cl rfl rfl ⟨fun hc => ?_, fun hc => ?_⟩ <;> (repeat rw [List.length_map] at hc) <;> (try exact absd hc)) | ((first | apply AL_t rfl | apply AL_0 rfl | apply AD_t rfl | apply AD_0 rfl); focus (first | exact z_auto | fail)) | refine thenA_n ?_ | refine thenA_r ?_ | refine thenA_e ?_ | refine inB_n ?_ | refine inB_r ?_ | refine inB_hit ?_ | refine inB_miss rfl ?_ | ((first | refine AL_cl rfl rfl rfl ⟨fun hc => ?_, fun hc => ?_⟩ | refine AD_cl rfl rfl rfl ⟨fun hc => ?_, fun hc => ?_⟩) <;> (fail_if_success (have q : (true = true) := hc)) <;> (fail_if_success (have q : (false = false) := hc)) <;> (repeat rw [List.length_map] at hc) <;> (try exact absd hc)) | refine AW_cond_nil rfl rfl (fun hc => ?_) ?_))
    (refine ⟨(by first | exact .inl rfl | exact .inr rfl), res1 rfl ?_⟩)
    exact rv_bool rfl rfl
theorem kc_Know0 : Fn Try.prog 45 [.bor 4 []] (.tup2 (ownB [0]) (inR 0)) := by
  have h0 := know_Right0
  have c0 := kc_put [] [0] (by simp) (ok_small (by omega) (by omega))
  have e0 : [(0 : Int)].flatMap numI = [0] := by
    rw [List.flatMap_cons, List.flatMap_nil, List.append_nil, numI_s' (by omega) (by omega)]; rfl
  rw [List.nil_append, e0] at c0
  refine fn_intro Try.func45 rfl (by kernel_rfl) Try.ntmps45 (Nat.le_of_ble_eq_true rfl) ?_
  (repeat' (first | refine AW_seq ?_ | refine AW_block ?_ | refine AW_skip ?_ | refine AW_exit ?_ | refine AW_ret ?_ | refine AW_region ?_ | refine AW_draw mixed0 ?_ | refine AL_nil ?_ | refine AD_nil (by kernel_rfl) ?_ | (refine AW_cl rfl rfl ⟨fun hc => ?_, fun hc => ?_⟩ <;> (repeat rw [List.length_map] at hc) <;> (try exact absd hc)) | ((first | apply AL_t rfl | apply AL_0 rfl | apply AD_t rfl | apply AD_0 rfl); focus (first | exact z_auto | exact c_A (h0) | exact c_A (c0) | fail)) | refine thenA_n ?_ | refine thenA_r ?_ | refine thenA_e ?_ | refine inB_n ?_ | refine inB_r ?_ | refine inB_hit ?_ | refine inB_miss rfl ?_ | ((first | refine AL_cl rfl rfl rfl ⟨fun hc => ?_, fun hc => ?_⟩ | refine AD_cl rfl rfl rfl ⟨fun hc => ?_, fun hc => ?_⟩) <;> (fail_if_success (have q : (true = true) := hc)) <;> (fail_if_success (have q : (false = false) := hc)) <;> (repeat rw [List.length_map] at hc) <;> (try exact absd hc)) | refine AW_cond_nil rfl rfl (fun hc => ?_) ?_))
  refine AW_loopP (X := Unit) (fun _ => True) (fun _ => mkSt [(4, .row 18 0), (20, iC .i64 0), (21, iC .i64 0)] [(18, .row 5 1 ([(0 : UInt8)].map byteP))]) (fun _ => 0) () trivial ?_ ?_
  · exact le_auto
  · intro _ _
    (repeat' (first | refine AW_seq ?_ | refine AW_block ?_ | refine AW_skip ?_ | refine AW_exit ?_ | refine AW_ret ?_ | refine AW_region ?_ | refine AW_draw mixed0 ?_ | refine AL_nil ?_ | refine AD_nil (by kernel_rfl) ?_ | (refine AW_cl rfl rfl ⟨fun hc => ?_, fun hc => ?_⟩ <;> (repeat rw [List.length_map] at hc) <;> (try exact absd hc)) | ((first | apply AL_t rfl | apply AL_0 rfl | apply AD_t rfl | apply AD_0 rfl); focus (first | exact z_auto | fail)) | refine thenA_n ?_ | refine thenA_r ?_ | refine thenA_e ?_ | refine inB_n ?_ | refine inB_r ?_ | refine inB_hit ?_ | refine inB_miss rfl ?_ | ((first | refine AL_cl rfl rfl rfl ⟨fun hc => ?_, fun hc => ?_⟩ | refine AD_cl rfl rfl rfl ⟨fun hc => ?_, fun hc => ?_⟩) <;> (fail_if_success (have q : (true = true) := hc)) <;> (fail_if_success (have q : (false = false) := hc)) <;> (repeat rw [List.length_map] at hc) <;> (try exact absd hc)) | refine AW_cond_nil rfl rfl (fun hc => ?_) ?_))
    (refine ⟨(by first | exact .inl rfl | exact .inr rfl), res2 rfl ?_ ?_⟩)
    · exact rv_own rfl rfl rfl
    · exact rv_int rfl rfl
theorem awake16 : Fn Try.prog 37 [] (boR true) := by
  have h1 := kc_Set s16 (by unfold s16 knsSz; simp) (by unfold s16 fewS; simp) true (by simp [show knsOk s16 by decide])
  have h2 := kc_Know0
  have h3 := ref_BytesEq [1, 1, 2, 1, 2, 3, 0] [1, 1, 2, 1, 2, 3, 0] (by decide)
  have h4 := ref_BytesEq [0] [0] (by decide)
  rw [decide_eq_true rfl] at h3 h4
  simp only [if_true] at h1
  rw [s16B] at h1
  unfold s16 at h1
  refine fn_intro Try.func37 rfl (by kernel_rfl) Try.ntmps37 (Nat.le_of_ble_eq_true rfl) ?_
  (repeat' (first | refine AW_seq ?_ | refine AW_block ?_ | refine AW_skip ?_ | refine AW_exit ?_ | refine AW_ret ?_ | refine AW_region ?_ | refine AW_draw mixed0 ?_ | refine AL_nil ?_ | refine AD_nil (by kernel_rfl) ?_ | (refine AW_cl rfl rfl ⟨fun hc => ?_, fun hc => ?_⟩ <;> (repeat rw [List.length_map] at hc) <;> (try exact absd hc)) | ((first | apply AL_t rfl | apply AL_0 rfl | apply AD_t rfl | apply AD_0 rfl); focus (first | exact z_auto | exact c_A (h1) | exact c_A (h2) | exact c_A (h3) | exact c_A (h4) | fail)) | refine thenA_n ?_ | refine thenA_r ?_ | refine thenA_e ?_ | refine inB_n ?_ | refine inB_r ?_ | refine inB_hit ?_ | refine inB_miss rfl ?_ | ((first | refine AL_cl rfl rfl rfl ⟨fun hc => ?_, fun hc => ?_⟩ | refine AD_cl rfl rfl rfl ⟨fun hc => ?_, fun hc => ?_⟩) <;> (fail_if_success (have q : (true = true) := hc)) <;> (fail_if_success (have q : (false = false) := hc)) <;> (repeat rw [List.length_map] at hc) <;> (try exact absd hc)) | refine AW_cond_nil rfl rfl (fun hc => ?_) ?_))
  (refine ⟨(by first | exact .inl rfl | exact .inr rfl), res1 rfl ?_⟩)
  exact rv_bool rfl rfl
theorem lawKcSets (s : List Kn) : Fn Try.prog 7 [.per (knsP s)] (boR true) := by
  have hL := rvs_Long s 30 (by decide)
  cases hlg : longKns s 30 with
  | true =>
    rw [hlg] at hL
    refine fn_intro Try.func7 rfl (by kernel_rfl) Try.ntmps7 (Nat.le_of_ble_eq_true rfl) ?_
    (repeat' (first | refine AW_seq ?_ | refine AW_block ?_ | refine AW_skip ?_ | refine AW_exit ?_ | refine AW_ret ?_ | refine AW_region ?_ | refine AW_draw mixed0 ?_ | refine AL_nil ?_ | refine AD_nil (by kernel_rfl) ?_ | (refine AW_cl rfl rfl ⟨fun hc => ?_, fun hc => ?_⟩ <;> (repeat rw [List.length_map] at hc) <;> (try exact absd hc)) | ((first | apply AL_t rfl | apply AL_0 rfl | apply AD_t rfl | apply AD_0 rfl); focus (first | exact z_auto | exact c_A (awake16) | exact c_A (hL) | fail)) | refine thenA_n ?_ | refine thenA_r ?_ | refine thenA_e ?_ | refine inB_n ?_ | refine inB_r ?_ | refine inB_hit ?_ | refine inB_miss rfl ?_ | ((first | refine AL_cl rfl rfl rfl ⟨fun hc => ?_, fun hc => ?_⟩ | refine AD_cl rfl rfl rfl ⟨fun hc => ?_, fun hc => ?_⟩) <;> (fail_if_success (have q : (true = true) := hc)) <;> (fail_if_success (have q : (false = false) := hc)) <;> (repeat rw [List.length_map] at hc) <;> (try exact absd hc)) | refine AW_cond_nil rfl rfl (fun hc => ?_) ?_))
    (refine ⟨(by first | exact .inl rfl | exact .inr rfl), res1 rfl ?_⟩)
    exact rv_bool rfl rfl
  | false =>
    rw [hlg] at hL
    obtain ⟨hl, hr⟩ := longKns_sz hlg
    have hsz : knsSz s := ⟨by omega, fun k hk => by have := hr k hk; omega⟩
    have hf : fewS s := fun k hk => by have := hr k hk; omega
    by_cases hok : knsOk s
    · have h1 := kc_Set s hsz hf true (by simp [hok])
      simp only [if_true] at h1
      have h2 := rvs_Right s hsz true (by simp [hok])
      have hbl := setB_len hok hf
      have h3 := kc_ReadSet (setB s) (by omega)
      rw [rdSet_put hok hf] at h3
      have h4 := rkc_Set s hok hf
      have h5 := ref_BytesEq (setB s) (setB s) (by omega)
      have h6 := rvs_Same s s hsz
      rw [decide_eq_true rfl] at h5 h6
      clear hok
      refine fn_intro Try.func7 rfl (by kernel_rfl) Try.ntmps7 (Nat.le_of_ble_eq_true rfl) ?_
      (repeat' (first | refine AW_seq ?_ | refine AW_block ?_ | refine AW_skip ?_ | refine AW_exit ?_ | refine AW_ret ?_ | refine AW_region ?_ | refine AW_draw mixed0 ?_ | refine AL_nil ?_ | refine AD_nil (by kernel_rfl) ?_ | (refine AW_cl rfl rfl ⟨fun hc => ?_, fun hc => ?_⟩ <;> (repeat rw [List.length_map] at hc) <;> (try exact absd hc)) | ((first | apply AL_t rfl | apply AL_0 rfl | apply AD_t rfl | apply AD_0 rfl); focus (first | exact z_auto | exact c_A (awake16) | exact c_A (hL) | exact c_A (h1) | exact c_A (h2) | exact c_A (h3) | exact c_A (h4) | exact c_A (h5) | exact c_A (h6) | fail)) | refine thenA_n ?_ | refine thenA_r ?_ | refine thenA_e ?_ | refine inB_n ?_ | refine inB_r ?_ | refine inB_hit ?_ | refine inB_miss rfl ?_ | ((first | refine AL_cl rfl rfl rfl ⟨fun hc => ?_, fun hc => ?_⟩ | refine AD_cl rfl rfl rfl ⟨fun hc => ?_, fun hc => ?_⟩) <;> (fail_if_success (have q : (true = true) := hc)) <;> (fail_if_success (have q : (false = false) := hc)) <;> (repeat rw [List.length_map] at hc) <;> (try exact absd hc)) | refine AW_cond_nil rfl rfl (fun hc => ?_) ?_))
      (refine ⟨(by first | exact .inl rfl | exact .inr rfl), res1 rfl ?_⟩)
      exact rv_bool rfl rfl
    · have h1 := kc_Set s hsz hf false (by simp [hok])
      simp only [Bool.false_eq_true, if_false] at h1
      have h2 := rvs_Right s hsz false (by simp [hok])
      refine fn_intro Try.func7 rfl (by kernel_rfl) Try.ntmps7 (Nat.le_of_ble_eq_true rfl) ?_
      (repeat' (first | refine AW_seq ?_ | refine AW_block ?_ | refine AW_skip ?_ | refine AW_exit ?_ | refine AW_ret ?_ | refine AW_region ?_ | refine AW_draw mixed0 ?_ | refine AL_nil ?_ | refine AD_nil (by kernel_rfl) ?_ | (refine AW_cl rfl rfl ⟨fun hc => ?_, fun hc => ?_⟩ <;> (repeat rw [List.length_map] at hc) <;> (try exact absd hc)) | ((first | apply AL_t rfl | apply AL_0 rfl | apply AD_t rfl | apply AD_0 rfl); focus (first | exact z_auto | exact c_A (awake16) | exact c_A (hL) | exact c_A (h1) | exact c_A (h2) | fail)) | refine thenA_n ?_ | refine thenA_r ?_ | refine thenA_e ?_ | refine inB_n ?_ | refine inB_r ?_ | refine inB_hit ?_ | refine inB_miss rfl ?_ | ((first | refine AL_cl rfl rfl rfl ⟨fun hc => ?_, fun hc => ?_⟩ | refine AD_cl rfl rfl rfl ⟨fun hc => ?_, fun hc => ?_⟩) <;> (fail_if_success (have q : (true = true) := hc)) <;> (fail_if_success (have q : (false = false) := hc)) <;> (repeat rw [List.length_map] at hc) <;> (try exact absd hc)) | refine AW_cond_nil rfl rfl (fun hc => ?_) ?_))
      (refine ⟨(by first | exact .inl rfl | exact .inr rfl), res1 rfl ?_⟩)
      exact rv_bool rfl rfl
end
end Go.Proofs.Ytbpmafpmlapekaa
