/- Which of two stands ahead: texts, versions, items (the program's and the references'). -/
import Derived.Test.YtpndnlnjgnckdaaKey
import Derived.Test.YtpndnlnjgnckdaaRefIt
namespace Go.Proofs.Ytpndnlnjgnckdaa
open Go.RowKit
def cmpL : List UInt8 → List UInt8 → Int
  | [], [] => 0
  | [], _ :: _ => -1
  | _ :: _, [] => 1
  | x :: a, y :: b => if x.toNat < y.toNat then -1 else if y.toNat < x.toNat then 1 else cmpL a b
def cmpB (s t : ByteArray) : Int := cmpL s.data.toList t.data.toList
theorem cmpL_step (a b : List UInt8) (k : Nat) (h1 : k < a.length) (h2 : k < b.length) : cmpL (a.drop k) (b.drop k) = if a[k].toNat < b[k].toNat then -1 else if b[k].toNat < a[k].toNat then 1 else cmpL (a.drop (k + 1)) (b.drop (k + 1)) := by
  rw [List.drop_eq_getElem_cons h1, List.drop_eq_getElem_cons h2, cmpL]
theorem cmpL_end (a b : List UInt8) (k : Nat) (h : a.length ≤ k ∨ b.length ≤ k) (h1 : k ≤ a.length) (h2 : k ≤ b.length) : cmpL (a.drop k) (b.drop k) = if a.length < b.length then -1 else if a.length > b.length then 1 else 0 := by
  by_cases e1 : a.length ≤ k
  · rw [List.drop_eq_nil_of_le e1]
    by_cases e2 : b.length ≤ k
    · rw [List.drop_eq_nil_of_le e2, cmpL, if_neg (by omega), if_neg (by omega)]
    · rw [List.drop_eq_getElem_cons (by omega : k < b.length), cmpL, if_pos (by omega)]
  · have e2 : b.length ≤ k := by omega
    rw [List.drop_eq_nil_of_le e2, List.drop_eq_getElem_cons (by omega : k < a.length), cmpL, if_neg (by omega), if_pos (by omega)]
def cmpV (r c r' c' : Int) : Int := if r = r' ∧ c = c' then 0 else if r < r' ∨ r = r' ∧ c < c' then -1 else 1
def cmpI (x y : It) : Int := if x.rank > y.rank then 1 else if x.rank < y.rank then -1 else cmpV x.rep x.cnt y.rep y.cnt
def beats (x y : It) : Bool := decide (cmpI x y > 0)
section
set_option maxRecDepth 10000
set_option maxHeartbeats 4000000
theorem key_Cmp (s t : ByteArray) (hs : s.size ≤ 1000000000000) : Fn Try.prog 47 [sC s, sC t] (inR (cmpB s t)) := by
  generalize hR : cmpB s t = R
  refine fn_intro Try.func47 rfl (by kernel_rfl) Try.ntmps47 (Nat.le_of_ble_eq_true rfl) ?_
  (repeat' (first | refine AW_seq ?_ | refine AW_block ?_ | refine AW_skip ?_ | refine AW_exit ?_ | refine AW_ret ?_ | refine AW_region ?_ | refine AW_draw mixed0 ?_ | refine AL_nil ?_ | refine AD_nil (by kernel_rfl) ?_ | (refine AW_cl rfl rfl ⟨fun hc => ?_, fun hc => ?_⟩ <;> (repeat rw [List.length_map] at hc) <;> (try exact absd hc)) | ((first | apply AL_t rfl | apply AL_0 rfl | apply AD_t rfl | apply AD_0 rfl); focus (first | exact z_auto | fail)) | refine thenA_n ?_ | refine thenA_r ?_ | refine thenA_e ?_ | refine inB_n ?_ | refine inB_r ?_ | refine inB_hit ?_ | refine inB_miss rfl ?_ | ((first | refine AL_cl rfl rfl rfl ⟨fun hc => ?_, fun hc => ?_⟩ | refine AD_cl rfl rfl rfl ⟨fun hc => ?_, fun hc => ?_⟩) <;> (fail_if_success (have q : (true = true) := hc)) <;> (fail_if_success (have q : (false = false) := hc)) <;> (repeat rw [List.length_map] at hc) <;> (try exact absd hc)) | refine AW_cond_nil rfl rfl (fun hc => ?_) ?_))
  refine AW_loopP (fun k => k ≤ s.size ∧ k ≤ t.size ∧ cmpL (s.data.toList.drop k) (t.data.toList.drop k) = R) (fun k => mkSt [(0, sC s), (1, sC t), (10, iC .i64 (min (s.size : Int) (t.size : Int))), (11, iC .i64 (k : Nat))] []) (fun k => s.size - k) 0 ⟨Nat.zero_le _, Nat.zero_le _, hR⟩ ?_ ?_
  · exact le_auto
  · rintro k ⟨h1, h2, h3⟩
    have hst := cmpL_step s.data.toList t.data.toList k
    have hen := cmpL_end s.data.toList t.data.toList k
    simp only [str_len] at hst hen
    rw [h3] at hst hen
    by_cases hk : k < s.size ∧ k < t.size
    · have hst := hst hk.1 hk.2
      have hm : (k : Int) < min (s.size : Int) (t.size : Int) := by omega
      (repeat' (first | refine AW_seq ?_ | refine AW_block ?_ | refine AW_skip ?_ | refine AW_exit ?_ | refine AW_ret ?_ | refine AW_region ?_ | refine AW_draw mixed0 ?_ | refine AL_nil ?_ | refine AD_nil (by kernel_rfl) ?_ | (refine AW_cl rfl rfl ⟨fun hc => ?_, fun hc => ?_⟩ <;> (repeat rw [List.length_map] at hc) <;> (try exact absd hc)) | ((first | apply AL_t rfl | apply AL_0 rfl | apply AD_t rfl | apply AD_0 rfl); focus (first | exact z_auto | fail)) | refine thenA_n ?_ | refine thenA_r ?_ | refine thenA_e ?_ | refine inB_n ?_ | refine inB_r ?_ | refine inB_hit ?_ | refine inB_miss rfl ?_ | ((first | refine AL_cl rfl rfl rfl ⟨fun hc => ?_, fun hc => ?_⟩ | refine AD_cl rfl rfl rfl ⟨fun hc => ?_, fun hc => ?_⟩) <;> (fail_if_success (have q : (true = true) := hc)) <;> (fail_if_success (have q : (false = false) := hc)) <;> (repeat rw [List.length_map] at hc) <;> (try exact absd hc)) | refine AW_cond_nil rfl rfl (fun hc => ?_) ?_))
      · rw [if_pos (by omega)] at hst
        (refine ⟨(by first | exact .inl rfl | exact .inr rfl), res1 rfl ?_⟩)
        exact rv_int rfl hst.symm
      · rw [if_neg (by omega), if_pos (by omega)] at hst
        (refine ⟨(by first | exact .inl rfl | exact .inr rfl), res1 rfl ?_⟩)
        exact rv_int rfl hst.symm
      · rw [if_neg (by omega), if_neg (by omega)] at hst
        refine ⟨k + 1, ⟨by omega, by omega, hst.symm⟩, by omega, ?_⟩
        exact le_auto
    · have hen := hen (by omega) h1 h2
      have hm : ¬ (k : Int) < min (s.size : Int) (t.size : Int) := by omega
      (repeat' (first | refine AW_seq ?_ | refine AW_block ?_ | refine AW_skip ?_ | refine AW_exit ?_ | refine AW_ret ?_ | refine AW_region ?_ | refine AW_draw mixed0 ?_ | refine AL_nil ?_ | refine AD_nil (by kernel_rfl) ?_ | (refine AW_cl rfl rfl ⟨fun hc => ?_, fun hc => ?_⟩ <;> (repeat rw [List.length_map] at hc) <;> (try exact absd hc)) | ((first | apply AL_t rfl | apply AL_0 rfl | apply AD_t rfl | apply AD_0 rfl); focus (first | exact z_auto | fail)) | refine thenA_n ?_ | refine thenA_r ?_ | refine thenA_e ?_ | refine inB_n ?_ | refine inB_r ?_ | refine inB_hit ?_ | refine inB_miss rfl ?_ | ((first | refine AL_cl rfl rfl rfl ⟨fun hc => ?_, fun hc => ?_⟩ | refine AD_cl rfl rfl rfl ⟨fun hc => ?_, fun hc => ?_⟩) <;> (fail_if_success (have q : (true = true) := hc)) <;> (fail_if_success (have q : (false = false) := hc)) <;> (repeat rw [List.length_map] at hc) <;> (try exact absd hc)) | refine AW_cond_nil rfl rfl (fun hc => ?_) ?_))
      all_goals (refine ⟨(by first | exact .inl rfl | exact .inr rfl), res1 rfl ?_⟩)
      · rw [if_pos (by omega)] at hen
        exact rv_int rfl hen.symm
      · rw [if_neg (by omega), if_pos (by omega)] at hen
        exact rv_int rfl hen.symm
      · rw [if_neg (by omega), if_neg (by omega)] at hen
        exact rv_int rfl hen.symm
theorem ref_Less (s t : ByteArray) (hs : s.size ≤ 1000000000000) : Fn Try.prog 30 [sC s, sC t] (boR (decide (cmpB s t < 0))) := by
  generalize hR : cmpB s t = R
  refine fn_intro Try.func30 rfl (by kernel_rfl) Try.ntmps30 (Nat.le_of_ble_eq_true rfl) ?_
  (repeat' (first | refine AW_seq ?_ | refine AW_block ?_ | refine AW_skip ?_ | refine AW_exit ?_ | refine AW_ret ?_ | refine AW_region ?_ | refine AW_draw mixed0 ?_ | refine AL_nil ?_ | refine AD_nil (by kernel_rfl) ?_ | (refine AW_cl rfl rfl ⟨fun hc => ?_, fun hc => ?_⟩ <;> (repeat rw [List.length_map] at hc) <;> (try exact absd hc)) | ((first | apply AL_t rfl | apply AL_0 rfl | apply AD_t rfl | apply AD_0 rfl); focus (first | exact z_auto | fail)) | refine thenA_n ?_ | refine thenA_r ?_ | refine thenA_e ?_ | refine inB_n ?_ | refine inB_r ?_ | refine inB_hit ?_ | refine inB_miss rfl ?_ | ((first | refine AL_cl rfl rfl rfl ⟨fun hc => ?_, fun hc => ?_⟩ | refine AD_cl rfl rfl rfl ⟨fun hc => ?_, fun hc => ?_⟩) <;> (fail_if_success (have q : (true = true) := hc)) <;> (fail_if_success (have q : (false = false) := hc)) <;> (repeat rw [List.length_map] at hc) <;> (try exact absd hc)) | refine AW_cond_nil rfl rfl (fun hc => ?_) ?_))
  refine AW_loopP (fun k => k ≤ s.size ∧ k ≤ t.size ∧ cmpL (s.data.toList.drop k) (t.data.toList.drop k) = R) (fun k => mkSt [(0, sC s), (1, sC t), (5, iC .i64 (k : Nat))] []) (fun k => s.size - k) 0 ⟨Nat.zero_le _, Nat.zero_le _, hR⟩ ?_ ?_
  · exact le_auto
  · rintro k ⟨h1, h2, h3⟩
    have hst := cmpL_step s.data.toList t.data.toList k
    have hen := cmpL_end s.data.toList t.data.toList k
    simp only [str_len] at hst hen
    rw [h3] at hst hen
    by_cases hk : k < s.size ∧ k < t.size
    · have hst := hst hk.1 hk.2
      (repeat' (first | refine AW_seq ?_ | refine AW_block ?_ | refine AW_skip ?_ | refine AW_exit ?_ | refine AW_ret ?_ | refine AW_region ?_ | refine AW_draw mixed0 ?_ | refine AL_nil ?_ | refine AD_nil (by kernel_rfl) ?_ | (refine AW_cl rfl rfl ⟨fun hc => ?_, fun hc => ?_⟩ <;> (repeat rw [List.length_map] at hc) <;> (try exact absd hc)) | ((first | apply AL_t rfl | apply AL_0 rfl | apply AD_t rfl | apply AD_0 rfl); focus (first | exact z_auto | fail)) | refine thenA_n ?_ | refine thenA_r ?_ | refine thenA_e ?_ | refine inB_n ?_ | refine inB_r ?_ | refine inB_hit ?_ | refine inB_miss rfl ?_ | ((first | refine AL_cl rfl rfl rfl ⟨fun hc => ?_, fun hc => ?_⟩ | refine AD_cl rfl rfl rfl ⟨fun hc => ?_, fun hc => ?_⟩) <;> (fail_if_success (have q : (true = true) := hc)) <;> (fail_if_success (have q : (false = false) := hc)) <;> (repeat rw [List.length_map] at hc) <;> (try exact absd hc)) | refine AW_cond_nil rfl rfl (fun hc => ?_) ?_))
      · (refine ⟨(by first | exact .inl rfl | exact .inr rfl), res1 rfl ?_⟩)
        refine rv_bool rfl ?_
        rw [hst]
        clear hst hen h3
        generalize (s.data.toList[k]'(by simpa using hk.1)).toNat = x at *
        generalize (t.data.toList[k]'(by simpa using hk.2)).toNat = y at *
        split
        · rw [decide_eq_true (by omega), decide_eq_true (by omega)]
        · rw [if_pos (by omega), decide_eq_false (by omega), decide_eq_false (by omega)]
      · rw [if_neg (by omega), if_neg (by omega)] at hst
        refine ⟨k + 1, ⟨by omega, by omega, hst.symm⟩, by omega, ?_⟩
        exact le_auto
    · have hen := hen (by omega) h1 h2
      (repeat' (first | refine AW_seq ?_ | refine AW_block ?_ | refine AW_skip ?_ | refine AW_exit ?_ | refine AW_ret ?_ | refine AW_region ?_ | refine AW_draw mixed0 ?_ | refine AL_nil ?_ | refine AD_nil (by kernel_rfl) ?_ | (refine AW_cl rfl rfl ⟨fun hc => ?_, fun hc => ?_⟩ <;> (repeat rw [List.length_map] at hc) <;> (try exact absd hc)) | ((first | apply AL_t rfl | apply AL_0 rfl | apply AD_t rfl | apply AD_0 rfl); focus (first | exact z_auto | fail)) | refine thenA_n ?_ | refine thenA_r ?_ | refine thenA_e ?_ | refine inB_n ?_ | refine inB_r ?_ | refine inB_hit ?_ | refine inB_miss rfl ?_ | ((first | refine AL_cl rfl rfl rfl ⟨fun hc => ?_, fun hc => ?_⟩ | refine AD_cl rfl rfl rfl ⟨fun hc => ?_, fun hc => ?_⟩) <;> (fail_if_success (have q : (true = true) := hc)) <;> (fail_if_success (have q : (false = false) := hc)) <;> (repeat rw [List.length_map] at hc) <;> (try exact absd hc)) | refine AW_cond_nil rfl rfl (fun hc => ?_) ?_))
      all_goals (refine ⟨(by first | exact .inl rfl | exact .inr rfl), res1 rfl ?_⟩)
      all_goals refine rv_bool rfl ?_
      · rw [hen, if_neg (by omega)]
        split <;> simp
      · rw [hen]
        split
        · simp; omega
        · split <;> (simp; omega)
theorem eqO_ver (r c r' c' : Int) : eqO Try.prog 10000 33 [.int .i64 r, .int .i64 c] [.int .i64 r', .int .i64 c'] = some (decide (r = r') && (decide (c = c') && true)) := by kernel_rfl
theorem verG : Try.prog.eqGuardType Try.prog.depth 33 = false := by kernel_rfl
end
end Go.Proofs.Ytpndnlnjgnckdaa
