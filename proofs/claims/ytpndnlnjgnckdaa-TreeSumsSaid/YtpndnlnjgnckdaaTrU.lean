/- Trees and ranges: how many a range has, and their sum, by what stands ahead of two texts. No program in sight. -/
import Derived.Test.YtpndnlnjgnckdaaTrK
import Derived.Test.YtpndnlnjgnckdaaRefU
import Derived.Test.YtpndnlnjgnckdaaTrV
import Derived.Test.YtpndnlnjgnckdaaTrN
namespace Go.Proofs.Ytpndnlnjgnckdaa
theorem hSum_mod (s : Int) (l : List It) : hSum s l = (l.map (hItem s)).sum % 18446744073709551616 := by
  rw [← List.reverse_reverse l]
  induction l.reverse with
  | nil => rfl
  | cons x l ih =>
    rw [List.reverse_cons, hSum_snoc, ih, wu_mod, List.map_append, List.sum_append]
    simp only [List.map_cons, List.map_nil, List.sum_cons, List.sum_nil]
    omega
theorem parts_hi (s : Int) (lo hi : ByteArray) (h : lo < hi) : ∀ l : List It,
    (l.filter (fun x => decide (x.key < hi))).length = (l.filter (fun x => decide (x.key < lo))).length + (l.filter (fun x => decide (lo ≤ x.key) && decide (x.key < hi))).length ∧
    ((l.filter (fun x => decide (x.key < hi))).map (hItem s)).sum = ((l.filter (fun x => decide (x.key < lo))).map (hItem s)).sum + ((l.filter (fun x => decide (lo ≤ x.key) && decide (x.key < hi))).map (hItem s)).sum
  | [] => ⟨rfl, rfl⟩
  | x :: l => by
    obtain ⟨h1, h2⟩ := parts_hi s lo hi h l
    by_cases c1 : x.key < lo
    · have c2 : x.key < hi := by grind
      have c3 : ¬ lo ≤ x.key := by grind
      simp only [List.filter_cons, decide_eq_true c1, decide_eq_true c2, decide_eq_false c3, Bool.false_and, Bool.false_eq_true, if_true, if_false, List.length_cons, List.map_cons, List.sum_cons]
      constructor <;> omega
    · have c3 : lo ≤ x.key := by grind
      by_cases c2 : x.key < hi
      · simp only [List.filter_cons, decide_eq_false c1, decide_eq_true c2, decide_eq_true c3, Bool.true_and, Bool.false_eq_true, if_true, if_false, List.length_cons, List.map_cons, List.sum_cons]
        constructor <;> omega
      · simp only [List.filter_cons, decide_eq_false c1, decide_eq_false c2, decide_eq_true c3, Bool.true_and, Bool.false_eq_true, if_false]
        exact ⟨h1, h2⟩
theorem parts_op (s : Int) (lo : ByteArray) : ∀ l : List It,
    l.length = (l.filter (fun x => decide (x.key < lo))).length + (l.filter (fun x => decide (lo ≤ x.key))).length ∧
    (l.map (hItem s)).sum = ((l.filter (fun x => decide (x.key < lo))).map (hItem s)).sum + ((l.filter (fun x => decide (lo ≤ x.key))).map (hItem s)).sum
  | [] => ⟨rfl, rfl⟩
  | x :: l => by
    obtain ⟨h1, h2⟩ := parts_op s lo l
    by_cases c1 : x.key < lo
    · have c3 : ¬ lo ≤ x.key := by grind
      simp only [List.filter_cons, decide_eq_true c1, decide_eq_false c3, Bool.false_eq_true, if_true, if_false, List.length_cons, List.map_cons, List.sum_cons]
      constructor <;> omega
    · have c3 : lo ≤ x.key := by grind
      simp only [List.filter_cons, decide_eq_false c1, decide_eq_true c3, Bool.false_eq_true, if_true, if_false, List.length_cons, List.map_cons, List.sum_cons]
      constructor <;> omega
theorem ahead_lst {s : Int} {t : Tr} (h : okT s t) (k : ByteArray) : (aheadT t k).1 = (t.lst.filter (fun x => decide (x.key < k))).length ∧ (aheadT t k).2 % 18446744073709551616 = ((t.lst.filter (fun x => decide (x.key < k))).map (hItem s)).sum % 18446744073709551616 := by
  obtain ⟨h1, h2⟩ := ahead_pl t k h.1
  have e : t.pl.filter (fun p => decide (p.1.key < k)) = (t.lst.filter (fun x => decide (x.key < k))).map (fun x => (x, hItem s x)) := by
    rw [okT_pl h, List.filter_map]
    rfl
  rw [e] at h1 h2
  unfold sumI at h2
  rw [List.map_map] at h2
  rw [List.length_map] at h1
  exact ⟨h1, h2⟩
theorem tot_lst {s : Int} {t : Tr} (h : okT s t) : t.tot % 18446744073709551616 = (t.lst.map (hItem s)).sum % 18446744073709551616 := by
  have h1 := (tot_pl t).1
  rw [okT_pl h] at h1
  unfold sumI at h1
  rw [List.map_map] at h1
  exact h1
theorem ofT_rg {s : Int} {t : Tr} (h : okT s t) (r : Rg) : (ofT t r).1 = (((t.lst.filter (fun x => rgHas r x.key)).length : Nat) : Int) ∧ (ofT t r).2 = hSum s (t.lst.filter (fun x => rgHas r x.key)) := by
  obtain ⟨lo, hi, op⟩ := r
  have hR := rgR_iff ⟨lo, hi, op⟩
  unfold ofT rgHas
  simp only at hR ⊢
  cases hq : rgR ⟨lo, hi, op⟩ with
  | false =>
    simp only [Bool.false_and, Bool.false_eq_true, if_false]
    rw [List.filter_eq_nil_iff.2 (fun x _ => by simp)]
    exact ⟨rfl, rfl⟩
  | true =>
    have hR1 := hR.1 hq
    have a := ahead_lst h lo
    simp only [if_true, Bool.true_and]
    rw [hSum_mod]
    cases op with
    | true =>
      have b := parts_op s lo t.lst
      have c := tot_lst h
      have d : t.lst.length = t.siz := by rw [lst_pl, List.length_map, siz_pl]
      simp only [if_true, Bool.true_or, Bool.and_true, wu_mod]
      constructor <;> omega
    | false =>
      have e : lo < hi := (o_lt _ _).1 (by simpa using hR1.2.2)
      have b := parts_hi s lo hi e t.lst
      have c := ahead_lst h hi
      simp only [Bool.false_eq_true, if_false, Bool.false_or, wu_mod]
      constructor <;> omega
end Go.Proofs.Ytpndnlnjgnckdaa
namespace Go.Proofs.Ytpndnlnjgnckdaa
open Go.RowKit
section
set_option maxRecDepth 10000
set_option maxHeartbeats 4000000
theorem law_treeSums (l : List Dt) (r : Rg) (a b : Int) (hb : 0 ≤ b ∧ b < 18446744073709551616) : Fn Try.prog 4 [.per (dtsP l), rgC r, .per (aggP [rawP (.int .u64 a), rawP (.int .u64 b)])] (boR true) := by
  have h1 := law_long l
  obtain ⟨lo, hi, op⟩ := r
  show Fn Try.prog _ [.per (dtsP l), .per (aggP [rawP (.string lo), rawP (.string hi), rawP (.bool op)]), .per (aggP [rawP (.int .u64 a), rawP (.int .u64 b)])] (boR true)
  cases hlg : (decide (60 < l.length) || l.any longD) with
  | true =>
    rw [hlg] at h1
    refine fn_intro Try.func4 rfl (by kernel_rfl) Try.ntmps4 (Nat.le_of_ble_eq_true rfl) ?_
    (repeat' (first | refine AW_seq ?_ | refine AW_block ?_ | refine AW_skip ?_ | refine AW_exit ?_ | refine AW_ret ?_ | refine AW_region ?_ | refine AW_draw mixed0 ?_ | refine AL_nil ?_ | refine AD_nil (by kernel_rfl) ?_ | (refine AW_cl rfl rfl ⟨fun hc => ?_, fun hc => ?_⟩ <;> (repeat rw [List.length_map] at hc) <;> (try exact absd hc)) | ((first | apply AL_t rfl | apply AL_0 rfl | apply AD_t rfl | apply AD_0 rfl); focus (first | exact z_auto | exact c_A (awake21) | exact c_A (h1) | fail)) | refine thenA_n ?_ | refine thenA_r ?_ | refine thenA_e ?_ | refine inB_n ?_ | refine inB_r ?_ | refine inB_hit ?_ | refine inB_miss rfl ?_ | ((first | refine AL_cl rfl rfl rfl ⟨fun hc => ?_, fun hc => ?_⟩ | refine AD_cl rfl rfl rfl ⟨fun hc => ?_, fun hc => ?_⟩) <;> (fail_if_success (have q : (true = true) := hc)) <;> (fail_if_success (have q : (false = false) := hc)) <;> (repeat rw [List.length_map] at hc) <;> (try exact absd hc)) | refine AW_cond_nil rfl rfl (fun hc => ?_) ?_))
    (refine ⟨(by first | exact .inl rfl | exact .inr rfl), res1 rfl ?_⟩)
    exact rv_bool rfl rfl
  | false =>
    rw [hlg] at h1
    by_cases c1 : ((lo.size : Nat) : Int) > 60
    · refine fn_intro Try.func4 rfl (by kernel_rfl) Try.ntmps4 (Nat.le_of_ble_eq_true rfl) ?_
      (repeat' (first | refine AW_seq ?_ | refine AW_block ?_ | refine AW_skip ?_ | refine AW_exit ?_ | refine AW_ret ?_ | refine AW_region ?_ | refine AW_draw mixed0 ?_ | refine AL_nil ?_ | refine AD_nil (by kernel_rfl) ?_ | (refine AW_cl rfl rfl ⟨fun hc => ?_, fun hc => ?_⟩ <;> (repeat rw [List.length_map] at hc) <;> (try exact absd hc)) | ((first | apply AL_t rfl | apply AL_0 rfl | apply AD_t rfl | apply AD_0 rfl); focus (first | exact z_auto | exact c_A (awake21) | exact c_A (h1) | fail)) | refine thenA_n ?_ | refine thenA_r ?_ | refine thenA_e ?_ | refine inB_n ?_ | refine inB_r ?_ | refine inB_hit ?_ | refine inB_miss rfl ?_ | ((first | refine AL_cl rfl rfl rfl ⟨fun hc => ?_, fun hc => ?_⟩ | refine AD_cl rfl rfl rfl ⟨fun hc => ?_, fun hc => ?_⟩) <;> (fail_if_success (have q : (true = true) := hc)) <;> (fail_if_success (have q : (false = false) := hc)) <;> (repeat rw [List.length_map] at hc) <;> (try exact absd hc)) | refine AW_cond_nil rfl rfl (fun hc => ?_) ?_))
      (refine ⟨(by first | exact .inl rfl | exact .inr rfl), res1 rfl ?_⟩)
      exact rv_bool rfl rfl
    by_cases c2 : ((hi.size : Nat) : Int) > 60
    · refine fn_intro Try.func4 rfl (by kernel_rfl) Try.ntmps4 (Nat.le_of_ble_eq_true rfl) ?_
      (repeat' (first | refine AW_seq ?_ | refine AW_block ?_ | refine AW_skip ?_ | refine AW_exit ?_ | refine AW_ret ?_ | refine AW_region ?_ | refine AW_draw mixed0 ?_ | refine AL_nil ?_ | refine AD_nil (by kernel_rfl) ?_ | (refine AW_cl rfl rfl ⟨fun hc => ?_, fun hc => ?_⟩ <;> (repeat rw [List.length_map] at hc) <;> (try exact absd hc)) | ((first | apply AL_t rfl | apply AL_0 rfl | apply AD_t rfl | apply AD_0 rfl); focus (first | exact z_auto | exact c_A (awake21) | exact c_A (h1) | fail)) | refine thenA_n ?_ | refine thenA_r ?_ | refine thenA_e ?_ | refine inB_n ?_ | refine inB_r ?_ | refine inB_hit ?_ | refine inB_miss rfl ?_ | ((first | refine AL_cl rfl rfl rfl ⟨fun hc => ?_, fun hc => ?_⟩ | refine AD_cl rfl rfl rfl ⟨fun hc => ?_, fun hc => ?_⟩) <;> (fail_if_success (have q : (true = true) := hc)) <;> (fail_if_success (have q : (false = false) := hc)) <;> (repeat rw [List.length_map] at hc) <;> (try exact absd hc)) | refine AW_cond_nil rfl rfl (fun hc => ?_) ?_))
      (refine ⟨(by first | exact .inl rfl | exact .inr rfl), res1 rfl ?_⟩)
      exact rv_bool rfl rfl
    obtain ⟨hl60, hkd⟩ := longD_key hlg
    have b1 := law_build a (b % 70) l hl60 hkd
    have ho := okT_run a l .nil (okT_nil a)
    have hz := siz_run a l .nil
    simp only [Tr.siz, Nat.zero_add] at hz
    generalize l.foldl (stepT a) .nil = T at *
    have hK := okT_key ho
    have hN := lst_len T
    have hO := ofT_rg ho ⟨lo, hi, op⟩
    have q1 := tree_Count T a (b % 70) ⟨lo, hi, op⟩ (by omega) hK
    have q2 := rt_In T.lst ⟨lo, hi, op⟩ (by omega) hK
    have q3 := tree_Sum T a (b % 70) ⟨lo, hi, op⟩ (by omega) hK
    have q4 := rt_Sum T.lst ⟨lo, hi, op⟩ a (b % 70) (by omega) hK
    have hQ : (T.lst.filter (fun x => rgHas ⟨lo, hi, op⟩ x.key)).length ≤ 60 := Nat.le_trans (List.length_filter_le _ _) (by omega)
    rw [hO.1] at q1
    rw [hO.2] at q3
    generalize T.lst.filter (fun x => rgHas ⟨lo, hi, op⟩ x.key) = Q at *
    generalize cut (hSum a Q) (b % 70) = Z at *
    generalize T.lst = L at *
    have n1 := nil_Ahead ⟨#[97]⟩
    have n2 := nil_Count ⟨lo, hi, op⟩
    have n3 := nil_Sum ⟨lo, hi, op⟩
    have n4 := nil_Put it00
    have n5 := nil_Drop ⟨#[97]⟩
    have p1 := tree_Len .nil 0 0
    have p2 := tree_DropF .nil 0 0 ⟨#[97]⟩ (by decide) rfl
    have p3 := tree_Sum .nil 0 0 ⟨lo, hi, op⟩ (by decide) (fun x hx => by simp [Tr.lst] at hx)
    have e3 : cut (ofT .nil ⟨lo, hi, op⟩).2 0 = 0 := by
      have := ofT_rg (okT_nil 0) ⟨lo, hi, op⟩
      rw [this.2]
      rfl
    rw [e3] at p3
    clear hO hK hN ho hz e3 hkd hlg
    unfold treeP trP at p1 p2 p3
    unfold treeP at q1 q3
    refine fn_intro Try.func4 rfl (by kernel_rfl) Try.ntmps4 (Nat.le_of_ble_eq_true rfl) ?_
    (repeat' (first | refine AW_seq ?_ | refine AW_block ?_ | refine AW_skip ?_ | refine AW_exit ?_ | refine AW_ret ?_ | refine AW_region ?_ | refine AW_draw mixed0 ?_ | refine AL_nil ?_ | refine AD_nil (by kernel_rfl) ?_ | (refine AW_cl rfl rfl ⟨fun hc => ?_, fun hc => ?_⟩ <;> (repeat rw [List.length_map] at hc) <;> (try exact absd hc)) | ((first | apply AL_t rfl | apply AL_0 rfl | apply AD_t rfl | apply AD_0 rfl); focus (first | exact z_auto | exact c_A (awake21) | exact c_A (h1) | exact c_MA [(3000, 500), (3001, 501)] (b1) | ((refine c_P (ids := [500, 501]) (q1) (hg := ?_); ((repeat (first | exact GPl.nil | (refine GPl.cons ?_ ?_; focus (first | exact gpq_per rfl | exact gpq_lst rfl | exact gpq_obj rfl rfl rfl (lends_tr _) rfl | (refine gpq_box rfl rfl rfl rfl ?_; (focus (repeat (first | exact SeesL.nil | (refine SeesL.cons ?_ ?_; (focus (first | exact Sees.per | exact Sees.obj rfl rfl (lends_tr _) rfl | exact Sees.row rfl rfl rfl))))))))))); done))) | (apply u_g; (focus rfl); apply op_gyes rfl rfl rfl rfl rfl; ((refine c_P (ids := [500, 501]) (q1) (hg := ?_); ((repeat (first | exact GPl.nil | (refine GPl.cons ?_ ?_; focus (first | exact gpq_per rfl | exact gpq_lst rfl | exact gpq_obj rfl rfl rfl (lends_tr _) rfl | (refine gpq_box rfl rfl rfl rfl ?_; (focus (repeat (first | exact SeesL.nil | (refine SeesL.cons ?_ ?_; (focus (first | exact Sees.per | exact Sees.obj rfl rfl (lends_tr _) rfl | exact Sees.row rfl rfl rfl))))))))))); done)))) | ((refine c_P (ids := [500, 501]) (q3) (hg := ?_); ((repeat (first | exact GPl.nil | (refine GPl.cons ?_ ?_; focus (first | exact gpq_per rfl | exact gpq_lst rfl | exact gpq_obj rfl rfl rfl (lends_tr _) rfl | (refine gpq_box rfl rfl rfl rfl ?_; (focus (repeat (first | exact SeesL.nil | (refine SeesL.cons ?_ ?_; (focus (first | exact Sees.per | exact Sees.obj rfl rfl (lends_tr _) rfl | exact Sees.row rfl rfl rfl))))))))))); done))) | (apply u_g; (focus rfl); apply op_gyes rfl rfl rfl rfl rfl; ((refine c_P (ids := [500, 501]) (q3) (hg := ?_); ((repeat (first | exact GPl.nil | (refine GPl.cons ?_ ?_; focus (first | exact gpq_per rfl | exact gpq_lst rfl | exact gpq_obj rfl rfl rfl (lends_tr _) rfl | (refine gpq_box rfl rfl rfl rfl ?_; (focus (repeat (first | exact SeesL.nil | (refine SeesL.cons ?_ ?_; (focus (first | exact Sees.per | exact Sees.obj rfl rfl (lends_tr _) rfl | exact Sees.row rfl rfl rfl))))))))))); done)))) | exact c_A (q2) | exact c_A (q4) | exact c_A (nil_Len) | exact c_A (n1) | exact c_A (n2) | exact c_A (nil_Depth) | exact c_A (n3) | exact c_A (n4) | exact c_A (n5) | exact c_A (nil_All) | ((refine c_P (ids := [12]) (p1) (hg := ?_); ((repeat (first | exact GPl.nil | (refine GPl.cons ?_ ?_; focus (first | exact gpq_per rfl | exact gpq_lst rfl | exact gpq_obj rfl rfl rfl (lends_tr _) rfl | (refine gpq_box rfl rfl rfl rfl ?_; (focus (repeat (first | exact SeesL.nil | (refine SeesL.cons ?_ ?_; (focus (first | exact Sees.per | exact Sees.obj rfl rfl (lends_tr _) rfl | exact Sees.row rfl rfl rfl))))))))))); done))) | (apply u_g; (focus rfl); apply op_gyes rfl rfl rfl rfl rfl; ((refine c_P (ids := [12]) (p1) (hg := ?_); ((repeat (first | exact GPl.nil | (refine GPl.cons ?_ ?_; focus (first | exact gpq_per rfl | exact gpq_lst rfl | exact gpq_obj rfl rfl rfl (lends_tr _) rfl | (refine gpq_box rfl rfl rfl rfl ?_; (focus (repeat (first | exact SeesL.nil | (refine SeesL.cons ?_ ?_; (focus (first | exact Sees.per | exact Sees.obj rfl rfl (lends_tr _) rfl | exact Sees.row rfl rfl rfl))))))))))); done)))) | ((refine c_P (ids := [12]) (p2) (hg := ?_); ((repeat (first | exact GPl.nil | (refine GPl.cons ?_ ?_; focus (first | exact gpq_per rfl | exact gpq_lst rfl | exact gpq_obj rfl rfl rfl (lends_tr _) rfl | (refine gpq_box rfl rfl rfl rfl ?_; (focus (repeat (first | exact SeesL.nil | (refine SeesL.cons ?_ ?_; (focus (first | exact Sees.per | exact Sees.obj rfl rfl (lends_tr _) rfl | exact Sees.row rfl rfl rfl))))))))))); done))) | (apply u_g; (focus rfl); apply op_gyes rfl rfl rfl rfl rfl; ((refine c_P (ids := [12]) (p2) (hg := ?_); ((repeat (first | exact GPl.nil | (refine GPl.cons ?_ ?_; focus (first | exact gpq_per rfl | exact gpq_lst rfl | exact gpq_obj rfl rfl rfl (lends_tr _) rfl | (refine gpq_box rfl rfl rfl rfl ?_; (focus (repeat (first | exact SeesL.nil | (refine SeesL.cons ?_ ?_; (focus (first | exact Sees.per | exact Sees.obj rfl rfl (lends_tr _) rfl | exact Sees.row rfl rfl rfl))))))))))); done)))) | ((refine c_P (ids := [12]) (p3) (hg := ?_); ((repeat (first | exact GPl.nil | (refine GPl.cons ?_ ?_; focus (first | exact gpq_per rfl | exact gpq_lst rfl | exact gpq_obj rfl rfl rfl (lends_tr _) rfl | (refine gpq_box rfl rfl rfl rfl ?_; (focus (repeat (first | exact SeesL.nil | (refine SeesL.cons ?_ ?_; (focus (first | exact Sees.per | exact Sees.obj rfl rfl (lends_tr _) rfl | exact Sees.row rfl rfl rfl))))))))))); done))) | (apply u_g; (focus rfl); apply op_gyes rfl rfl rfl rfl rfl; ((refine c_P (ids := [12]) (p3) (hg := ?_); ((repeat (first | exact GPl.nil | (refine GPl.cons ?_ ?_; focus (first | exact gpq_per rfl | exact gpq_lst rfl | exact gpq_obj rfl rfl rfl (lends_tr _) rfl | (refine gpq_box rfl rfl rfl rfl ?_; (focus (repeat (first | exact SeesL.nil | (refine SeesL.cons ?_ ?_; (focus (first | exact Sees.per | exact Sees.obj rfl rfl (lends_tr _) rfl | exact Sees.row rfl rfl rfl))))))))))); done)))) | fail)) | refine thenA_n ?_ | refine thenA_r ?_ | refine thenA_e ?_ | refine inB_n ?_ | refine inB_r ?_ | refine inB_hit ?_ | refine inB_miss rfl ?_ | ((first | refine AL_cl rfl rfl rfl ⟨fun hc => ?_, fun hc => ?_⟩ | refine AD_cl rfl rfl rfl ⟨fun hc => ?_, fun hc => ?_⟩) <;> (fail_if_success (have q : (true = true) := hc)) <;> (fail_if_success (have q : (false = false) := hc)) <;> (repeat rw [List.length_map] at hc) <;> (try exact absd hc)) | refine AW_cond_nil rfl rfl (fun hc => ?_) ?_))
    (refine ⟨(by first | exact .inl rfl | exact .inr rfl), res1 rfl ?_⟩)
    exact rv_bool rfl rfl
end
end Go.Proofs.Ytpndnlnjgnckdaa
