/- The references' trees: lists; walked. -/
import Derived.Test.YtpndnlnjgnckdaaAbsX
import Derived.Test.YtpndnlnjgnckdaaCmp
import Derived.Test.YtpndnlnjgnckdaaRefIt
import Derived.Test.YtpndnlnjgnckdaaSpan
import Derived.Test.YtpndnlnjgnckdaaTrH
namespace Go.Proofs.Ytpndnlnjgnckdaa
open Go.RowKit
theorem bl_iff (a b : ByteArray) : a.toList = b.toList ↔ a = b := ⟨fun h => by rw [str_toList, str_toList] at h; exact ByteArray.ext (Array.toList_inj.1 h), fun h => by rw [h]⟩
abbrev itsRow (l : List It) : Blk := .row 35 7 (l.map itP)
def rPut : List It → It → Bool → List It
  | [], x, d => if d then [] else [x]
  | y :: l, x, d => (if d || decide (cmpB y.key x.key < 0) then [] else [x]) ++ ((if y.key = x.key then [] else [y]) ++ rPut l x (d || !decide (cmpB y.key x.key < 0)))
def plcF : List It → ByteArray → Nat → Int
  | [], _, _ => -1
  | y :: l, k, i => if y.key = k then i else plcF l k (i + 1)
section
set_option maxRecDepth 10000
set_option maxHeartbeats 4000000
theorem rt_Place (l : List It) (k : ByteArray) (hl : l.length ≤ 1000000) : Fn Try.prog 25 [.per (itsP l), sC k] (inR (plcF l k 0)) := by
  generalize hT : plcF l k 0 = T
  refine fn_intro Try.func25 rfl (by kernel_rfl) Try.ntmps25 (Nat.le_of_ble_eq_true rfl) ?_
  (repeat' (first | refine AW_seq ?_ | refine AW_block ?_ | refine AW_skip ?_ | refine AW_exit ?_ | refine AW_ret ?_ | refine AW_region ?_ | refine AW_draw mixed0 ?_ | refine AL_nil ?_ | refine AD_nil (by kernel_rfl) ?_ | (refine AW_cl rfl rfl ⟨fun hc => ?_, fun hc => ?_⟩ <;> (repeat rw [List.length_map] at hc) <;> (try exact absd hc)) | ((first | apply AL_t rfl | apply AL_0 rfl | apply AD_t rfl | apply AD_0 rfl); focus (first | exact z_auto | fail)) | refine thenA_n ?_ | refine thenA_r ?_ | refine thenA_e ?_ | refine inB_n ?_ | refine inB_r ?_ | refine inB_hit ?_ | refine inB_miss rfl ?_ | ((first | refine AL_cl rfl rfl rfl ⟨fun hc => ?_, fun hc => ?_⟩ | refine AD_cl rfl rfl rfl ⟨fun hc => ?_, fun hc => ?_⟩) <;> (fail_if_success (have q : (true = true) := hc)) <;> (fail_if_success (have q : (false = false) := hc)) <;> (repeat rw [List.length_map] at hc) <;> (try exact absd hc)) | refine AW_cond_nil rfl rfl (fun hc => ?_) ?_))
  refine AW_loopP (X := Nat) (fun x => x ≤ l.length ∧ plcF (l.drop x) k x = T)
    (fun x => mkSt [(0, .per (itsP l)), (1, sC k), (5, iC .i64 (x : Nat))] []) (fun x => l.length - x) 0 ⟨Nat.zero_le _, by simpa using hT⟩ ?_ ?_
  · exact le_auto
  · rintro i ⟨h1, h2⟩
    clear hT
    by_cases hlt : i < l.length
    · rw [List.drop_eq_getElem_cons hlt, plcF] at h2
      (repeat' (first | refine AW_seq ?_ | refine AW_block ?_ | refine AW_skip ?_ | refine AW_exit ?_ | refine AW_ret ?_ | refine AW_region ?_ | refine AW_draw mixed0 ?_ | refine AL_nil ?_ | refine AD_nil (by kernel_rfl) ?_ | (refine AW_cl rfl rfl ⟨fun hc => ?_, fun hc => ?_⟩ <;> (repeat rw [List.length_map] at hc) <;> (try exact absd hc)) | ((first | apply AL_t rfl | apply AL_0 rfl | apply AD_t rfl | apply AD_0 rfl); focus (first | exact z_auto | fail)) | refine thenA_n ?_ | refine thenA_r ?_ | refine thenA_e ?_ | refine inB_n ?_ | refine inB_r ?_ | refine inB_hit ?_ | refine inB_miss rfl ?_ | ((first | refine AL_cl rfl rfl rfl ⟨fun hc => ?_, fun hc => ?_⟩ | refine AD_cl rfl rfl rfl ⟨fun hc => ?_, fun hc => ?_⟩) <;> (fail_if_success (have q : (true = true) := hc)) <;> (fail_if_success (have q : (false = false) := hc)) <;> (repeat rw [List.length_map] at hc) <;> (try exact absd hc)) | refine AW_cond_nil rfl rfl (fun hc => ?_) ?_))
      · rw [if_pos (by grind [bl_iff])] at h2
        subst h2
        (refine ⟨(by first | exact .inl rfl | exact .inr rfl), res1 rfl ?_⟩)
        exact rv_int rfl rfl
      · rw [if_neg (by grind [bl_iff])] at h2
        refine ⟨i + 1, ⟨hlt, h2⟩, by omega, ?_⟩
        exact le_auto
    · obtain rfl : i = l.length := by omega
      rw [List.drop_length, plcF] at h2
      subst h2
      (repeat' (first | refine AW_seq ?_ | refine AW_block ?_ | refine AW_skip ?_ | refine AW_exit ?_ | refine AW_ret ?_ | refine AW_region ?_ | refine AW_draw mixed0 ?_ | refine AL_nil ?_ | refine AD_nil (by kernel_rfl) ?_ | (refine AW_cl rfl rfl ⟨fun hc => ?_, fun hc => ?_⟩ <;> (repeat rw [List.length_map] at hc) <;> (try exact absd hc)) | ((first | apply AL_t rfl | apply AL_0 rfl | apply AD_t rfl | apply AD_0 rfl); focus (first | exact z_auto | fail)) | refine thenA_n ?_ | refine thenA_r ?_ | refine thenA_e ?_ | refine inB_n ?_ | refine inB_r ?_ | refine inB_hit ?_ | refine inB_miss rfl ?_ | ((first | refine AL_cl rfl rfl rfl ⟨fun hc => ?_, fun hc => ?_⟩ | refine AD_cl rfl rfl rfl ⟨fun hc => ?_, fun hc => ?_⟩) <;> (fail_if_success (have q : (true = true) := hc)) <;> (fail_if_success (have q : (false = false) := hc)) <;> (repeat rw [List.length_map] at hc) <;> (try exact absd hc)) | refine AW_cond_nil rfl rfl (fun hc => ?_) ?_))
      (refine ⟨(by first | exact .inl rfl | exact .inr rfl), res1 rfl ?_⟩)
      exact rv_int rfl rfl
theorem rt_Ahead (l : List It) (k : ByteArray) (hl : l.length ≤ 1000000) (hk : ∀ x ∈ l, x.key.size ≤ 1000000000) : Fn Try.prog 24 [.per (itsP l), sC k] (inR (((l.filter (fun x => decide (cmpB x.key k < 0))).length : Nat) : Int)) := by
  generalize hT : (l.filter (fun x => decide (cmpB x.key k < 0))).length = T
  have hT1 : T ≤ 1000000 := by rw [← hT]; exact Nat.le_trans (List.length_filter_le _ _) hl
  refine fn_intro Try.func24 rfl (by kernel_rfl) Try.ntmps24 (Nat.le_of_ble_eq_true rfl) ?_
  (repeat' (first | refine AW_seq ?_ | refine AW_block ?_ | refine AW_skip ?_ | refine AW_exit ?_ | refine AW_ret ?_ | refine AW_region ?_ | refine AW_draw mixed0 ?_ | refine AL_nil ?_ | refine AD_nil (by kernel_rfl) ?_ | (refine AW_cl rfl rfl ⟨fun hc => ?_, fun hc => ?_⟩ <;> (repeat rw [List.length_map] at hc) <;> (try exact absd hc)) | ((first | apply AL_t rfl | apply AL_0 rfl | apply AD_t rfl | apply AD_0 rfl); focus (first | exact z_auto | fail)) | refine thenA_n ?_ | refine thenA_r ?_ | refine thenA_e ?_ | refine inB_n ?_ | refine inB_r ?_ | refine inB_hit ?_ | refine inB_miss rfl ?_ | ((first | refine AL_cl rfl rfl rfl ⟨fun hc => ?_, fun hc => ?_⟩ | refine AD_cl rfl rfl rfl ⟨fun hc => ?_, fun hc => ?_⟩) <;> (fail_if_success (have q : (true = true) := hc)) <;> (fail_if_success (have q : (false = false) := hc)) <;> (repeat rw [List.length_map] at hc) <;> (try exact absd hc)) | refine AW_cond_nil rfl rfl (fun hc => ?_) ?_))
  refine AW_loopP (X := Nat × Nat) (fun x => x.1 ≤ l.length ∧ x.2 + ((l.drop x.1).filter (fun x => decide (cmpB x.key k < 0))).length = T)
    (fun x => mkSt [(0, .per (itsP l)), (1, sC k), (5, iC .i64 (x.2 : Nat)), (6, iC .i64 (x.1 : Nat))] []) (fun x => l.length - x.1) (0, 0) ⟨Nat.zero_le _, by simpa using hT⟩ ?_ ?_
  · exact le_auto
  · rintro ⟨i, c⟩ ⟨h1, h2⟩
    simp only at h1 h2 ⊢
    clear hT
    by_cases hlt : i < l.length
    · rw [List.drop_eq_getElem_cons hlt, List.filter_cons] at h2
      have h3 := ref_Less l[i].key k (by have := hk _ (List.getElem_mem hlt); omega)
      by_cases c1 : cmpB l[i].key k < 0
      · rw [decide_eq_true c1] at h3
        rw [if_pos (by simpa using c1), List.length_cons] at h2
        (repeat' (first | refine AW_seq ?_ | refine AW_block ?_ | refine AW_skip ?_ | refine AW_exit ?_ | refine AW_ret ?_ | refine AW_region ?_ | refine AW_draw mixed0 ?_ | refine AL_nil ?_ | refine AD_nil (by kernel_rfl) ?_ | (refine AW_cl rfl rfl ⟨fun hc => ?_, fun hc => ?_⟩ <;> (repeat rw [List.length_map] at hc) <;> (try exact absd hc)) | ((first | apply AL_t rfl | apply AL_0 rfl | apply AD_t rfl | apply AD_0 rfl); focus (first | exact z_auto | exact c_A (h3) | fail)) | refine thenA_n ?_ | refine thenA_r ?_ | refine thenA_e ?_ | refine inB_n ?_ | refine inB_r ?_ | refine inB_hit ?_ | refine inB_miss rfl ?_ | ((first | refine AL_cl rfl rfl rfl ⟨fun hc => ?_, fun hc => ?_⟩ | refine AD_cl rfl rfl rfl ⟨fun hc => ?_, fun hc => ?_⟩) <;> (fail_if_success (have q : (true = true) := hc)) <;> (fail_if_success (have q : (false = false) := hc)) <;> (repeat rw [List.length_map] at hc) <;> (try exact absd hc)) | refine AW_cond_nil rfl rfl (fun hc => ?_) ?_))
        refine ⟨(i + 1, c + 1), ⟨hlt, by simp only; omega⟩, by simp only; omega, ?_⟩
        exact le_auto
      · rw [decide_eq_false c1] at h3
        rw [if_neg (by simpa using c1)] at h2
        (repeat' (first | refine AW_seq ?_ | refine AW_block ?_ | refine AW_skip ?_ | refine AW_exit ?_ | refine AW_ret ?_ | refine AW_region ?_ | refine AW_draw mixed0 ?_ | refine AL_nil ?_ | refine AD_nil (by kernel_rfl) ?_ | (refine AW_cl rfl rfl ⟨fun hc => ?_, fun hc => ?_⟩ <;> (repeat rw [List.length_map] at hc) <;> (try exact absd hc)) | ((first | apply AL_t rfl | apply AL_0 rfl | apply AD_t rfl | apply AD_0 rfl); focus (first | exact z_auto | exact c_A (h3) | fail)) | refine thenA_n ?_ | refine thenA_r ?_ | refine thenA_e ?_ | refine inB_n ?_ | refine inB_r ?_ | refine inB_hit ?_ | refine inB_miss rfl ?_ | ((first | refine AL_cl rfl rfl rfl ⟨fun hc => ?_, fun hc => ?_⟩ | refine AD_cl rfl rfl rfl ⟨fun hc => ?_, fun hc => ?_⟩) <;> (fail_if_success (have q : (true = true) := hc)) <;> (fail_if_success (have q : (false = false) := hc)) <;> (repeat rw [List.length_map] at hc) <;> (try exact absd hc)) | refine AW_cond_nil rfl rfl (fun hc => ?_) ?_))
        refine ⟨(i + 1, c), ⟨hlt, h2⟩, by simp only; omega, ?_⟩
        exact le_auto
    · obtain rfl : i = l.length := by omega
      rw [List.drop_length] at h2
      simp at h2
      subst h2
      (repeat' (first | refine AW_seq ?_ | refine AW_block ?_ | refine AW_skip ?_ | refine AW_exit ?_ | refine AW_ret ?_ | refine AW_region ?_ | refine AW_draw mixed0 ?_ | refine AL_nil ?_ | refine AD_nil (by kernel_rfl) ?_ | (refine AW_cl rfl rfl ⟨fun hc => ?_, fun hc => ?_⟩ <;> (repeat rw [List.length_map] at hc) <;> (try exact absd hc)) | ((first | apply AL_t rfl | apply AL_0 rfl | apply AD_t rfl | apply AD_0 rfl); focus (first | exact z_auto | fail)) | refine thenA_n ?_ | refine thenA_r ?_ | refine thenA_e ?_ | refine inB_n ?_ | refine inB_r ?_ | refine inB_hit ?_ | refine inB_miss rfl ?_ | ((first | refine AL_cl rfl rfl rfl ⟨fun hc => ?_, fun hc => ?_⟩ | refine AD_cl rfl rfl rfl ⟨fun hc => ?_, fun hc => ?_⟩) <;> (fail_if_success (have q : (true = true) := hc)) <;> (fail_if_success (have q : (false = false) := hc)) <;> (repeat rw [List.length_map] at hc) <;> (try exact absd hc)) | refine AW_cond_nil rfl rfl (fun hc => ?_) ?_))
      (refine ⟨(by first | exact .inl rfl | exact .inr rfl), res1 rfl ?_⟩)
      exact rv_int rfl rfl
theorem rt_Drop (l : List It) (k : ByteArray) (hl : l.length ≤ 1000000) : Fn Try.prog 39 [.per (itsP l), sC k] (.per (itsP (l.filter (fun x => decide (x.key ≠ k))))) := by
  generalize hT : l.filter (fun x => decide (x.key ≠ k)) = T
  refine fn_intro Try.func39 rfl (by kernel_rfl) Try.ntmps39 (Nat.le_of_ble_eq_true rfl) ?_
  (repeat' (first | refine AW_seq ?_ | refine AW_block ?_ | refine AW_skip ?_ | refine AW_exit ?_ | refine AW_ret ?_ | refine AW_region ?_ | refine AW_draw mixed0 ?_ | refine AL_nil ?_ | refine AD_nil (by kernel_rfl) ?_ | (refine AW_cl rfl rfl ⟨fun hc => ?_, fun hc => ?_⟩ <;> (repeat rw [List.length_map] at hc) <;> (try exact absd hc)) | ((first | apply AL_t rfl | apply AL_0 rfl | apply AD_t rfl | apply AD_0 rfl); focus (first | exact z_auto | fail)) | refine thenA_n ?_ | refine thenA_r ?_ | refine thenA_e ?_ | refine inB_n ?_ | refine inB_r ?_ | refine inB_hit ?_ | refine inB_miss rfl ?_ | ((first | refine AL_cl rfl rfl rfl ⟨fun hc => ?_, fun hc => ?_⟩ | refine AD_cl rfl rfl rfl ⟨fun hc => ?_, fun hc => ?_⟩) <;> (fail_if_success (have q : (true = true) := hc)) <;> (fail_if_success (have q : (false = false) := hc)) <;> (repeat rw [List.length_map] at hc) <;> (try exact absd hc)) | refine AW_cond_nil rfl rfl (fun hc => ?_) ?_))
  refine AW_le (Le_nil 5 600 35 7 rfl rfl) ?_
  refine AW_loopP (X := Nat × List It) (fun x => x.1 ≤ l.length ∧ x.2.length ≤ x.1 ∧ x.2 ++ (l.drop x.1).filter (fun x => decide (x.key ≠ k)) = T)
    (fun x => mkSt [(0, .per (itsP l)), (1, sC k), (5, .row 600 0), (6, iC .i64 (x.1 : Nat))] [(600, itsRow x.2)]) (fun x => l.length - x.1) (0, []) ⟨Nat.zero_le _, Nat.le_refl _, by simpa using hT⟩ ?_ ?_
  · exact le_auto
  · rintro ⟨i, ac⟩ ⟨g1, g0, g2⟩
    simp only at g1 g0 g2 ⊢
    clear hT
    by_cases hlt : i < l.length
    · rw [List.drop_eq_getElem_cons hlt, List.filter_cons] at g2
      (repeat' (first | refine AW_seq ?_ | refine AW_block ?_ | refine AW_skip ?_ | refine AW_exit ?_ | refine AW_ret ?_ | refine AW_region ?_ | refine AW_draw mixed0 ?_ | refine AL_nil ?_ | refine AD_nil (by kernel_rfl) ?_ | (refine AW_cl rfl rfl ⟨fun hc => ?_, fun hc => ?_⟩ <;> (repeat rw [List.length_map] at hc) <;> (try exact absd hc)) | ((first | apply AL_t rfl | apply AL_0 rfl | apply AD_t rfl | apply AD_0 rfl); focus (first | exact z_auto | fail)) | refine thenA_n ?_ | refine thenA_r ?_ | refine thenA_e ?_ | refine inB_n ?_ | refine inB_r ?_ | refine inB_hit ?_ | refine inB_miss rfl ?_ | ((first | refine AL_cl rfl rfl rfl ⟨fun hc => ?_, fun hc => ?_⟩ | refine AD_cl rfl rfl rfl ⟨fun hc => ?_, fun hc => ?_⟩) <;> (fail_if_success (have q : (true = true) := hc)) <;> (fail_if_success (have q : (false = false) := hc)) <;> (repeat rw [List.length_map] at hc) <;> (try exact absd hc)) | refine AW_cond_nil rfl rfl (fun hc => ?_) ?_))
      · rw [if_pos (by grind [bl_iff])] at g2
        refine ⟨(i + 1, ac ++ [l[i]]), ⟨hlt, by simp; omega, by simpa using g2⟩, by simp only; omega, Le_trans (Le_mv 600 601) (Le_trans (Le_mv 601 600) ?_)⟩
        exact le_auto
      · rw [if_neg (by grind [bl_iff])] at g2
        refine ⟨(i + 1, ac), ⟨hlt, by simp only; omega, g2⟩, by simp only; omega, ?_⟩
        exact le_auto
    · obtain rfl : i = l.length := by omega
      rw [List.drop_length] at g2
      simp at g2
      subst g2
      (repeat' (first | refine AW_seq ?_ | refine AW_block ?_ | refine AW_skip ?_ | refine AW_exit ?_ | refine AW_ret ?_ | refine AW_region ?_ | refine AW_draw mixed0 ?_ | refine AL_nil ?_ | refine AD_nil (by kernel_rfl) ?_ | (refine AW_cl rfl rfl ⟨fun hc => ?_, fun hc => ?_⟩ <;> (repeat rw [List.length_map] at hc) <;> (try exact absd hc)) | ((first | apply AL_t rfl | apply AL_0 rfl | apply AD_t rfl | apply AD_0 rfl); focus (first | exact z_auto | fail)) | refine thenA_n ?_ | refine thenA_r ?_ | refine thenA_e ?_ | refine inB_n ?_ | refine inB_r ?_ | refine inB_hit ?_ | refine inB_miss rfl ?_ | ((first | refine AL_cl rfl rfl rfl ⟨fun hc => ?_, fun hc => ?_⟩ | refine AD_cl rfl rfl rfl ⟨fun hc => ?_, fun hc => ?_⟩) <;> (fail_if_success (have q : (true = true) := hc)) <;> (fail_if_success (have q : (false = false) := hc)) <;> (repeat rw [List.length_map] at hc) <;> (try exact absd hc)) | refine AW_cond_nil rfl rfl (fun hc => ?_) ?_))
      refine ⟨.inl rfl, ResO_le (Le_fz 600 _ 35 7 rfl rfl) (res1 rfl (rv_per rfl))⟩
theorem rt_Put0 (l : List It) (x : It) (hx : itR x = false) : Fn Try.prog 40 [.per (itsP l), itC x] (.per (itsP l)) := by
  have h1 := ritem_Right x
  rw [hx] at h1
  refine fn_intro Try.func40 rfl (by kernel_rfl) Try.ntmps40 (Nat.le_of_ble_eq_true rfl) ?_
  (repeat' (first | refine AW_seq ?_ | refine AW_block ?_ | refine AW_skip ?_ | refine AW_exit ?_ | refine AW_ret ?_ | refine AW_region ?_ | refine AW_draw mixed0 ?_ | refine AL_nil ?_ | refine AD_nil (by kernel_rfl) ?_ | (refine AW_cl rfl rfl ⟨fun hc => ?_, fun hc => ?_⟩ <;> (repeat rw [List.length_map] at hc) <;> (try exact absd hc)) | ((first | apply AL_t rfl | apply AL_0 rfl | apply AD_t rfl | apply AD_0 rfl); focus (first | exact z_auto | exact c_A (h1) | fail)) | refine thenA_n ?_ | refine thenA_r ?_ | refine thenA_e ?_ | refine inB_n ?_ | refine inB_r ?_ | refine inB_hit ?_ | refine inB_miss rfl ?_ | ((first | refine AL_cl rfl rfl rfl ⟨fun hc => ?_, fun hc => ?_⟩ | refine AD_cl rfl rfl rfl ⟨fun hc => ?_, fun hc => ?_⟩) <;> (fail_if_success (have q : (true = true) := hc)) <;> (fail_if_success (have q : (false = false) := hc)) <;> (repeat rw [List.length_map] at hc) <;> (try exact absd hc)) | refine AW_cond_nil rfl rfl (fun hc => ?_) ?_))
  (refine ⟨(by first | exact .inl rfl | exact .inr rfl), res1 rfl ?_⟩)
  exact rv_per rfl
theorem rt_Put (l : List It) (x : It) (hx : itR x = true) (hl : l.length ≤ 1000000) (hk : ∀ x ∈ l, x.key.size ≤ 1000000000) : Fn Try.prog 40 [.per (itsP l), itC x] (.per (itsP (rPut l x false))) := by
  have h1 := ritem_Right x
  rw [hx] at h1
  generalize hT : rPut l x false = T
  refine fn_intro Try.func40 rfl (by kernel_rfl) Try.ntmps40 (Nat.le_of_ble_eq_true rfl) ?_
  (repeat' (first | refine AW_seq ?_ | refine AW_block ?_ | refine AW_skip ?_ | refine AW_exit ?_ | refine AW_ret ?_ | refine AW_region ?_ | refine AW_draw mixed0 ?_ | refine AL_nil ?_ | refine AD_nil (by kernel_rfl) ?_ | (refine AW_cl rfl rfl ⟨fun hc => ?_, fun hc => ?_⟩ <;> (repeat rw [List.length_map] at hc) <;> (try exact absd hc)) | ((first | apply AL_t rfl | apply AL_0 rfl | apply AD_t rfl | apply AD_0 rfl); focus (first | exact z_auto | exact c_A (h1) | fail)) | refine thenA_n ?_ | refine thenA_r ?_ | refine thenA_e ?_ | refine inB_n ?_ | refine inB_r ?_ | refine inB_hit ?_ | refine inB_miss rfl ?_ | ((first | refine AL_cl rfl rfl rfl ⟨fun hc => ?_, fun hc => ?_⟩ | refine AD_cl rfl rfl rfl ⟨fun hc => ?_, fun hc => ?_⟩) <;> (fail_if_success (have q : (true = true) := hc)) <;> (fail_if_success (have q : (false = false) := hc)) <;> (repeat rw [List.length_map] at hc) <;> (try exact absd hc)) | refine AW_cond_nil rfl rfl (fun hc => ?_) ?_))
  refine AW_le (Le_nil 5 600 35 7 rfl rfl) ?_
  refine AW_loopP (X := Nat × List It × Bool) (fun z => z.1 ≤ l.length ∧ z.2.1.length ≤ 2 * z.1 ∧ z.2.1 ++ rPut (l.drop z.1) x z.2.2 = T)
    (fun z => mkSt [(0, .per (itsP l)), (3, .ptr 3 0 0), (5, .row 600 0), (6, bC z.2.2), (7, iC .i64 (z.1 : Nat))] [(3, .box 35 [sC x.key, iC .i64 x.rep, iC .i64 x.cnt, iC .i64 x.rank, iC .i64 x.prio, bC x.dead, sC x.body]), (600, itsRow z.2.1)]) (fun z => l.length - z.1) (0, [], false) ⟨Nat.zero_le _, Nat.le_refl _, by simpa using hT⟩ ?_ ?_
  · exact le_auto
  · rintro ⟨i, ac, d⟩ ⟨g1, g0, g2⟩
    simp only at g1 g0 g2 ⊢
    clear hT h1
    by_cases hlt : i < l.length
    · have h3 := ref_Less l[i].key x.key (by have := hk _ (List.getElem_mem hlt); omega)
      rw [List.drop_eq_getElem_cons hlt, rPut] at g2
      by_cases c1 : cmpB l[i].key x.key < 0
      · rw [decide_eq_true c1] at h3 g2
        simp only [Bool.or_true, if_true, List.nil_append, Bool.not_true, Bool.or_false] at g2
        (repeat' (first | refine AW_seq ?_ | refine AW_block ?_ | refine AW_skip ?_ | refine AW_exit ?_ | refine AW_ret ?_ | refine AW_region ?_ | refine AW_draw mixed0 ?_ | refine AL_nil ?_ | refine AD_nil (by kernel_rfl) ?_ | (refine AW_cl rfl rfl ⟨fun hc => ?_, fun hc => ?_⟩ <;> (repeat rw [List.length_map] at hc) <;> (try exact absd hc)) | ((first | apply AL_t rfl | apply AL_0 rfl | apply AD_t rfl | apply AD_0 rfl); focus (first | exact z_auto | exact c_A (h3) | fail)) | refine thenA_n ?_ | refine thenA_r ?_ | refine thenA_e ?_ | refine inB_n ?_ | refine inB_r ?_ | refine inB_hit ?_ | refine inB_miss rfl ?_ | ((first | refine AL_cl rfl rfl rfl ⟨fun hc => ?_, fun hc => ?_⟩ | refine AD_cl rfl rfl rfl ⟨fun hc => ?_, fun hc => ?_⟩) <;> (fail_if_success (have q : (true = true) := hc)) <;> (fail_if_success (have q : (false = false) := hc)) <;> (repeat rw [List.length_map] at hc) <;> (try exact absd hc)) | refine AW_cond_nil rfl rfl (fun hc => ?_) ?_))
        all_goals first
          | (rw [if_neg (by grind [bl_iff])] at g2
             refine ⟨(i + 1, ac ++ [l[i]], d), ⟨hlt, by simp; omega, by simpa using g2⟩, by simp only; omega, Le_trans (Le_mv 600 601) (Le_trans (Le_mv 601 600) ?_)⟩
             exact le_auto)
          | (rw [if_pos (by grind [bl_iff])] at g2
             refine ⟨(i + 1, ac, d), ⟨hlt, by simp only; omega, by simpa using g2⟩, by simp only; omega, ?_⟩
             exact le_auto)
      · rw [decide_eq_false c1] at h3 g2
        simp only [Bool.or_false, Bool.not_false, Bool.or_true] at g2
        cases d with
        | true =>
          simp only [if_true, List.nil_append] at g2
          (repeat' (first | refine AW_seq ?_ | refine AW_block ?_ | refine AW_skip ?_ | refine AW_exit ?_ | refine AW_ret ?_ | refine AW_region ?_ | refine AW_draw mixed0 ?_ | refine AL_nil ?_ | refine AD_nil (by kernel_rfl) ?_ | (refine AW_cl rfl rfl ⟨fun hc => ?_, fun hc => ?_⟩ <;> (repeat rw [List.length_map] at hc) <;> (try exact absd hc)) | ((first | apply AL_t rfl | apply AL_0 rfl | apply AD_t rfl | apply AD_0 rfl); focus (first | exact z_auto | exact c_A (h3) | fail)) | refine thenA_n ?_ | refine thenA_r ?_ | refine thenA_e ?_ | refine inB_n ?_ | refine inB_r ?_ | refine inB_hit ?_ | refine inB_miss rfl ?_ | ((first | refine AL_cl rfl rfl rfl ⟨fun hc => ?_, fun hc => ?_⟩ | refine AD_cl rfl rfl rfl ⟨fun hc => ?_, fun hc => ?_⟩) <;> (fail_if_success (have q : (true = true) := hc)) <;> (fail_if_success (have q : (false = false) := hc)) <;> (repeat rw [List.length_map] at hc) <;> (try exact absd hc)) | refine AW_cond_nil rfl rfl (fun hc => ?_) ?_))
          all_goals first
            | (rw [if_neg (by grind [bl_iff])] at g2
               refine ⟨(i + 1, ac ++ [l[i]], true), ⟨hlt, by simp; omega, by simpa using g2⟩, by simp only; omega, Le_trans (Le_mv 600 601) (Le_trans (Le_mv 601 600) ?_)⟩
               exact le_auto)
            | (rw [if_pos (by grind [bl_iff])] at g2
               refine ⟨(i + 1, ac, true), ⟨hlt, by simp only; omega, by simpa using g2⟩, by simp only; omega, ?_⟩
               exact le_auto)
        | false =>
          simp only [Bool.false_eq_true, if_false] at g2
          (repeat' (first | refine AW_seq ?_ | refine AW_block ?_ | refine AW_skip ?_ | refine AW_exit ?_ | refine AW_ret ?_ | refine AW_region ?_ | refine AW_draw mixed0 ?_ | refine AL_nil ?_ | refine AD_nil (by kernel_rfl) ?_ | (refine AW_cl rfl rfl ⟨fun hc => ?_, fun hc => ?_⟩ <;> (repeat rw [List.length_map] at hc) <;> (try exact absd hc)) | ((first | apply AL_t rfl | apply AL_0 rfl | apply AD_t rfl | apply AD_0 rfl); focus (first | exact z_auto | exact c_A (h3) | fail)) | refine thenA_n ?_ | refine thenA_r ?_ | refine thenA_e ?_ | refine inB_n ?_ | refine inB_r ?_ | refine inB_hit ?_ | refine inB_miss rfl ?_ | ((first | refine AL_cl rfl rfl rfl ⟨fun hc => ?_, fun hc => ?_⟩ | refine AD_cl rfl rfl rfl ⟨fun hc => ?_, fun hc => ?_⟩) <;> (fail_if_success (have q : (true = true) := hc)) <;> (fail_if_success (have q : (false = false) := hc)) <;> (repeat rw [List.length_map] at hc) <;> (try exact absd hc)) | refine AW_cond_nil rfl rfl (fun hc => ?_) ?_))
          all_goals first
            | (rw [if_neg (by grind [bl_iff])] at g2
               refine ⟨(i + 1, ac ++ [x] ++ [l[i]], true), ⟨hlt, by simp; omega, by simpa using g2⟩, by simp only; omega, Le_trans (Le_mv 600 601) (Le_trans (Le_mv 601 600) ?_)⟩
               (refine Le_mk ?_ ?_; (focus ((repeat (first | exact AllG.nil | (refine AllG.cons ?_ ?_; rotate_left))); (all_goals try (first | rfl | (refine eqI ?_; first | omega | (simp; done) | (simp; omega)) | (refine eqBo ?_; first | (simp; done) | (simp [*]; done)))))); (focus ((repeat (first | exact AllB.nil | (refine AllB.cons ?_ ?_; rotate_left))); (all_goals try (first | rfl | (refine eqRw ?_; (rw [List.map_append] <;> rfl); done) | (refine eqMix ?_; (rw [List.map_append] <;> rfl); done))))))
               all_goals (show Blk.row _ _ _ = Blk.row _ _ _)
               all_goals (rw [List.map_append, List.map_append]; rfl))
            | (rw [if_pos (by grind [bl_iff])] at g2
               refine ⟨(i + 1, ac ++ [x], true), ⟨hlt, by simp; omega, by simpa using g2⟩, by simp only; omega, Le_trans (Le_mv 600 601) (Le_trans (Le_mv 601 600) ?_)⟩
               exact le_auto)
    · obtain rfl : i = l.length := by omega
      rw [List.drop_length, rPut] at g2
      cases d with
      | true =>
        rw [if_pos rfl, List.append_nil] at g2
        subst g2
        (repeat' (first | refine AW_seq ?_ | refine AW_block ?_ | refine AW_skip ?_ | refine AW_exit ?_ | refine AW_ret ?_ | refine AW_region ?_ | refine AW_draw mixed0 ?_ | refine AL_nil ?_ | refine AD_nil (by kernel_rfl) ?_ | (refine AW_cl rfl rfl ⟨fun hc => ?_, fun hc => ?_⟩ <;> (repeat rw [List.length_map] at hc) <;> (try exact absd hc)) | ((first | apply AL_t rfl | apply AL_0 rfl | apply AD_t rfl | apply AD_0 rfl); focus (first | exact z_auto | fail)) | refine thenA_n ?_ | refine thenA_r ?_ | refine thenA_e ?_ | refine inB_n ?_ | refine inB_r ?_ | refine inB_hit ?_ | refine inB_miss rfl ?_ | ((first | refine AL_cl rfl rfl rfl ⟨fun hc => ?_, fun hc => ?_⟩ | refine AD_cl rfl rfl rfl ⟨fun hc => ?_, fun hc => ?_⟩) <;> (fail_if_success (have q : (true = true) := hc)) <;> (fail_if_success (have q : (false = false) := hc)) <;> (repeat rw [List.length_map] at hc) <;> (try exact absd hc)) | refine AW_cond_nil rfl rfl (fun hc => ?_) ?_))
        refine ⟨.inl rfl, ResO_le (Le_fz 600 _ 35 7 rfl rfl) (res1 rfl (rv_per rfl))⟩
      | false =>
        rw [if_neg (by simp)] at g2
        subst g2
        have e : itsP (ac ++ [x]) = lstP 7 (ac.map itP ++ [itP x]) := by unfold itsP; rw [List.map_append]; rfl
        rw [e]
        (repeat' (first | refine AW_seq ?_ | refine AW_block ?_ | refine AW_skip ?_ | refine AW_exit ?_ | refine AW_ret ?_ | refine AW_region ?_ | refine AW_draw mixed0 ?_ | refine AL_nil ?_ | refine AD_nil (by kernel_rfl) ?_ | (refine AW_cl rfl rfl ⟨fun hc => ?_, fun hc => ?_⟩ <;> (repeat rw [List.length_map] at hc) <;> (try exact absd hc)) | ((first | apply AL_t rfl | apply AL_0 rfl | apply AD_t rfl | apply AD_0 rfl); focus (first | exact z_auto | fail)) | refine thenA_n ?_ | refine thenA_r ?_ | refine thenA_e ?_ | refine inB_n ?_ | refine inB_r ?_ | refine inB_hit ?_ | refine inB_miss rfl ?_ | ((first | refine AL_cl rfl rfl rfl ⟨fun hc => ?_, fun hc => ?_⟩ | refine AD_cl rfl rfl rfl ⟨fun hc => ?_, fun hc => ?_⟩) <;> (fail_if_success (have q : (true = true) := hc)) <;> (fail_if_success (have q : (false = false) := hc)) <;> (repeat rw [List.length_map] at hc) <;> (try exact absd hc)) | refine AW_cond_nil rfl rfl (fun hc => ?_) ?_))
        refine ⟨.inl rfl, ResO_le (Le_fz 600 _ 35 7 rfl rfl) (res1 rfl (rv_per rfl))⟩
end
end Go.Proofs.Ytpndnlnjgnckdaa
namespace Go.Proofs.Ytpndnlnjgnckdaa
open Go.RowKit
section
set_option maxRecDepth 10000
set_option maxHeartbeats 4000000
theorem rt_In (l : List It) (r : Rg) (hl : l.length ≤ 1000000) (hk : ∀ x ∈ l, x.key.size ≤ 1000000000) : Fn Try.prog 19 [.per (itsP l), rgC r] (.per (itsP (l.filter (fun x => rgHas r x.key)))) := by
  have h2 : ∀ s : ByteArray, s.size ≤ 1000000000 → Fn Try.prog 41 [rgC r, sC s] (boR (rgHas r s)) := fun s hs => rspan_Has r s hs
  generalize hT : l.filter (fun x => rgHas r x.key) = T
  generalize hH : (fun s => rgHas r s) = H at *
  have hH' : ∀ s, rgHas r s = H s := fun s => by rw [← hH]
  simp only [hH'] at h2 hT
  clear hH hH'
  obtain ⟨lo, hi, op⟩ := r
  refine fn_intro Try.func19 rfl (by kernel_rfl) Try.ntmps19 (Nat.le_of_ble_eq_true rfl) ?_
  (repeat' (first | refine AW_seq ?_ | refine AW_block ?_ | refine AW_skip ?_ | refine AW_exit ?_ | refine AW_ret ?_ | refine AW_region ?_ | refine AW_draw mixed0 ?_ | refine AL_nil ?_ | refine AD_nil (by kernel_rfl) ?_ | (refine AW_cl rfl rfl ⟨fun hc => ?_, fun hc => ?_⟩ <;> (repeat rw [List.length_map] at hc) <;> (try exact absd hc)) | ((first | apply AL_t rfl | apply AL_0 rfl | apply AD_t rfl | apply AD_0 rfl); focus (first | exact z_auto | fail)) | refine thenA_n ?_ | refine thenA_r ?_ | refine thenA_e ?_ | refine inB_n ?_ | refine inB_r ?_ | refine inB_hit ?_ | refine inB_miss rfl ?_ | ((first | refine AL_cl rfl rfl rfl ⟨fun hc => ?_, fun hc => ?_⟩ | refine AD_cl rfl rfl rfl ⟨fun hc => ?_, fun hc => ?_⟩) <;> (fail_if_success (have q : (true = true) := hc)) <;> (fail_if_success (have q : (false = false) := hc)) <;> (repeat rw [List.length_map] at hc) <;> (try exact absd hc)) | refine AW_cond_nil rfl rfl (fun hc => ?_) ?_))
  refine AW_le (Le_nil 5 600 35 7 rfl rfl) ?_
  refine AW_loopP (X := Nat × List It) (fun x => x.1 ≤ l.length ∧ x.2.length ≤ x.1 ∧ x.2 ++ (l.drop x.1).filter (fun x => H x.key) = T)
    (fun x => mkSt [(0, .per (itsP l)), (3, .ptr 3 0 0), (5, .row 600 0), (6, iC .i64 (x.1 : Nat))] [(3, .box 24 [sC lo, sC hi, bC op]), (600, itsRow x.2)]) (fun x => l.length - x.1) (0, []) ⟨Nat.zero_le _, Nat.le_refl _, by simpa using hT⟩ ?_ ?_
  · exact le_auto
  · rintro ⟨i, ac⟩ ⟨g1, g0, g2⟩
    simp only at g1 g0 g2 ⊢
    clear hT
    by_cases hlt : i < l.length
    · have h3 := h2 l[i].key (hk _ (List.getElem_mem hlt))
      rw [List.drop_eq_getElem_cons hlt, List.filter_cons] at g2
      clear h2
      cases hr : H l[i].key with
      | true =>
        rw [hr] at h3 g2
        (repeat' (first | refine AW_seq ?_ | refine AW_block ?_ | refine AW_skip ?_ | refine AW_exit ?_ | refine AW_ret ?_ | refine AW_region ?_ | refine AW_draw mixed0 ?_ | refine AL_nil ?_ | refine AD_nil (by kernel_rfl) ?_ | (refine AW_cl rfl rfl ⟨fun hc => ?_, fun hc => ?_⟩ <;> (repeat rw [List.length_map] at hc) <;> (try exact absd hc)) | ((first | apply AL_t rfl | apply AL_0 rfl | apply AD_t rfl | apply AD_0 rfl); focus (first | exact z_auto | exact c_A (h3) | fail)) | refine thenA_n ?_ | refine thenA_r ?_ | refine thenA_e ?_ | refine inB_n ?_ | refine inB_r ?_ | refine inB_hit ?_ | refine inB_miss rfl ?_ | ((first | refine AL_cl rfl rfl rfl ⟨fun hc => ?_, fun hc => ?_⟩ | refine AD_cl rfl rfl rfl ⟨fun hc => ?_, fun hc => ?_⟩) <;> (fail_if_success (have q : (true = true) := hc)) <;> (fail_if_success (have q : (false = false) := hc)) <;> (repeat rw [List.length_map] at hc) <;> (try exact absd hc)) | refine AW_cond_nil rfl rfl (fun hc => ?_) ?_))
        refine ⟨(i + 1, ac ++ [l[i]]), ⟨hlt, by simp; omega, by simpa using g2⟩, by simp only; omega, Le_trans (Le_mv 600 601) (Le_trans (Le_mv 601 600) ?_)⟩
        exact le_auto
      | false =>
        rw [hr] at h3 g2
        (repeat' (first | refine AW_seq ?_ | refine AW_block ?_ | refine AW_skip ?_ | refine AW_exit ?_ | refine AW_ret ?_ | refine AW_region ?_ | refine AW_draw mixed0 ?_ | refine AL_nil ?_ | refine AD_nil (by kernel_rfl) ?_ | (refine AW_cl rfl rfl ⟨fun hc => ?_, fun hc => ?_⟩ <;> (repeat rw [List.length_map] at hc) <;> (try exact absd hc)) | ((first | apply AL_t rfl | apply AL_0 rfl | apply AD_t rfl | apply AD_0 rfl); focus (first | exact z_auto | exact c_A (h3) | fail)) | refine thenA_n ?_ | refine thenA_r ?_ | refine thenA_e ?_ | refine inB_n ?_ | refine inB_r ?_ | refine inB_hit ?_ | refine inB_miss rfl ?_ | ((first | refine AL_cl rfl rfl rfl ⟨fun hc => ?_, fun hc => ?_⟩ | refine AD_cl rfl rfl rfl ⟨fun hc => ?_, fun hc => ?_⟩) <;> (fail_if_success (have q : (true = true) := hc)) <;> (fail_if_success (have q : (false = false) := hc)) <;> (repeat rw [List.length_map] at hc) <;> (try exact absd hc)) | refine AW_cond_nil rfl rfl (fun hc => ?_) ?_))
        refine ⟨(i + 1, ac), ⟨hlt, by simp only; omega, by simpa using g2⟩, by simp only; omega, ?_⟩
        exact le_auto
    · obtain rfl : i = l.length := by omega
      rw [List.drop_length] at g2
      simp at g2
      subst g2
      clear h2
      (repeat' (first | refine AW_seq ?_ | refine AW_block ?_ | refine AW_skip ?_ | refine AW_exit ?_ | refine AW_ret ?_ | refine AW_region ?_ | refine AW_draw mixed0 ?_ | refine AL_nil ?_ | refine AD_nil (by kernel_rfl) ?_ | (refine AW_cl rfl rfl ⟨fun hc => ?_, fun hc => ?_⟩ <;> (repeat rw [List.length_map] at hc) <;> (try exact absd hc)) | ((first | apply AL_t rfl | apply AL_0 rfl | apply AD_t rfl | apply AD_0 rfl); focus (first | exact z_auto | fail)) | refine thenA_n ?_ | refine thenA_r ?_ | refine thenA_e ?_ | refine inB_n ?_ | refine inB_r ?_ | refine inB_hit ?_ | refine inB_miss rfl ?_ | ((first | refine AL_cl rfl rfl rfl ⟨fun hc => ?_, fun hc => ?_⟩ | refine AD_cl rfl rfl rfl ⟨fun hc => ?_, fun hc => ?_⟩) <;> (fail_if_success (have q : (true = true) := hc)) <;> (fail_if_success (have q : (false = false) := hc)) <;> (repeat rw [List.length_map] at hc) <;> (try exact absd hc)) | refine AW_cond_nil rfl rfl (fun hc => ?_) ?_))
      refine ⟨.inl rfl, ResO_le (Le_fz 600 _ 35 7 rfl rfl) (res1 rfl (rv_per rfl))⟩
theorem hSum_u64 (s : Int) (l : List It) : 0 ≤ hSum s l ∧ hSum s l < 18446744073709551616 := by
  rcases List.eq_nil_or_concat l with rfl | ⟨l', x, rfl⟩
  · exact ⟨Int.le_refl 0, (by decide : (0 : Int) < 18446744073709551616)⟩
  · rw [List.concat_eq_append, hSum_snoc]
    exact ⟨wrapu_nn _, wrapu_lt _⟩
theorem rt_Sum (l : List It) (r : Rg) (s b : Int) (hl : l.length ≤ 1000000) (hk : ∀ x ∈ l, x.key.size ≤ 1000000000) : Fn Try.prog 20 [.per (itsP l), rgC r, iC .u64 s, iC .i64 b] (.per (rawP (.int .u64 (cut (hSum s (l.filter (fun x => rgHas r x.key))) b)))) := by
  have h1 := rt_In l r hl hk
  generalize l.filter (fun x => rgHas r x.key) = T at *
  have h2 := ref_HSum s T
  have h3 := ref_Cut (hSum s T) b (hSum_u64 s T).1 (hSum_u64 s T).2
  obtain ⟨lo, hi, op⟩ := r
  refine fn_intro Try.func20 rfl (by kernel_rfl) Try.ntmps20 (Nat.le_of_ble_eq_true rfl) ?_
  (repeat' (first | refine AW_seq ?_ | refine AW_block ?_ | refine AW_skip ?_ | refine AW_exit ?_ | refine AW_ret ?_ | refine AW_region ?_ | refine AW_draw mixed0 ?_ | refine AL_nil ?_ | refine AD_nil (by kernel_rfl) ?_ | (refine AW_cl rfl rfl ⟨fun hc => ?_, fun hc => ?_⟩ <;> (repeat rw [List.length_map] at hc) <;> (try exact absd hc)) | ((first | apply AL_t rfl | apply AL_0 rfl | apply AD_t rfl | apply AD_0 rfl); focus (first | exact z_auto | exact c_A (h1) | exact c_A (h2) | exact c_A (h3) | fail)) | refine thenA_n ?_ | refine thenA_r ?_ | refine thenA_e ?_ | refine inB_n ?_ | refine inB_r ?_ | refine inB_hit ?_ | refine inB_miss rfl ?_ | ((first | refine AL_cl rfl rfl rfl ⟨fun hc => ?_, fun hc => ?_⟩ | refine AD_cl rfl rfl rfl ⟨fun hc => ?_, fun hc => ?_⟩) <;> (fail_if_success (have q : (true = true) := hc)) <;> (fail_if_success (have q : (false = false) := hc)) <;> (repeat rw [List.length_map] at hc) <;> (try exact absd hc)) | refine AW_cond_nil rfl rfl (fun hc => ?_) ?_))
  (refine ⟨(by first | exact .inl rfl | exact .inr rfl), res1 rfl ?_⟩)
  exact rv_per rfl
end
end Go.Proofs.Ytpndnlnjgnckdaa
