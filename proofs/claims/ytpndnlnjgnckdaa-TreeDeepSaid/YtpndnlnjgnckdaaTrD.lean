/- What is done to a tree, walked: long, build. -/
import Derived.Test.YtpndnlnjgnckdaaTrA
import Derived.Test.YtpndnlnjgnckdaaTrK
import Derived.Test.YtpndnlnjgnckdaaTrW
namespace Go.Proofs.Ytpndnlnjgnckdaa
open Go.RowKit
abbrev dtP (d : Dt) : List PV := rawP (.bool d.drop) :: itP d.x
abbrev dtsP (l : List Dt) : PV := lstP 8 (l.map dtP)
def longD (d : Dt) : Bool := decide (60 < d.x.key.size) || decide (200 < d.x.body.size)
section
set_option maxRecDepth 10000
set_option maxHeartbeats 4000000
theorem law_long (l : List Dt) : Fn Try.prog 17 [.per (dtsP l)] (boR (decide (60 < l.length) || l.any longD)) := by
  by_cases c : 60 < l.length
  · rw [decide_eq_true c]
    refine fn_intro Try.func17 rfl (by kernel_rfl) Try.ntmps17 (Nat.le_of_ble_eq_true rfl) ?_
    (repeat' (first | refine AW_seq ?_ | refine AW_block ?_ | refine AW_skip ?_ | refine AW_exit ?_ | refine AW_ret ?_ | refine AW_region ?_ | refine AW_draw mixed0 ?_ | refine AL_nil ?_ | refine AD_nil (by kernel_rfl) ?_ | (refine AW_cl rfl rfl ⟨fun hc => ?_, fun hc => ?_⟩ <;> (repeat rw [List.length_map] at hc) <;> (try exact absd hc)) | ((first | apply AL_t rfl | apply AL_0 rfl | apply AD_t rfl | apply AD_0 rfl); focus (first | exact z_auto | fail)) | refine thenA_n ?_ | refine thenA_r ?_ | refine thenA_e ?_ | refine inB_n ?_ | refine inB_r ?_ | refine inB_hit ?_ | refine inB_miss rfl ?_ | ((first | refine AL_cl rfl rfl rfl ⟨fun hc => ?_, fun hc => ?_⟩ | refine AD_cl rfl rfl rfl ⟨fun hc => ?_, fun hc => ?_⟩) <;> (fail_if_success (have q : (true = true) := hc)) <;> (fail_if_success (have q : (false = false) := hc)) <;> (repeat rw [List.length_map] at hc) <;> (try exact absd hc)) | refine AW_cond_nil rfl rfl (fun hc => ?_) ?_))
    (refine ⟨(by first | exact .inl rfl | exact .inr rfl), res1 rfl ?_⟩)
    exact rv_bool rfl rfl
  · rw [decide_eq_false c, Bool.false_or]
    generalize hT : l.any longD = T
    refine fn_intro Try.func17 rfl (by kernel_rfl) Try.ntmps17 (Nat.le_of_ble_eq_true rfl) ?_
    (repeat' (first | refine AW_seq ?_ | refine AW_block ?_ | refine AW_skip ?_ | refine AW_exit ?_ | refine AW_ret ?_ | refine AW_region ?_ | refine AW_draw mixed0 ?_ | refine AL_nil ?_ | refine AD_nil (by kernel_rfl) ?_ | (refine AW_cl rfl rfl ⟨fun hc => ?_, fun hc => ?_⟩ <;> (repeat rw [List.length_map] at hc) <;> (try exact absd hc)) | ((first | apply AL_t rfl | apply AL_0 rfl | apply AD_t rfl | apply AD_0 rfl); focus (first | exact z_auto | fail)) | refine thenA_n ?_ | refine thenA_r ?_ | refine thenA_e ?_ | refine inB_n ?_ | refine inB_r ?_ | refine inB_hit ?_ | refine inB_miss rfl ?_ | ((first | refine AL_cl rfl rfl rfl ⟨fun hc => ?_, fun hc => ?_⟩ | refine AD_cl rfl rfl rfl ⟨fun hc => ?_, fun hc => ?_⟩) <;> (fail_if_success (have q : (true = true) := hc)) <;> (fail_if_success (have q : (false = false) := hc)) <;> (repeat rw [List.length_map] at hc) <;> (try exact absd hc)) | refine AW_cond_nil rfl rfl (fun hc => ?_) ?_))
    refine AW_loopP (X := Nat) (fun i => i ≤ l.length ∧ (l.drop i).any longD = T)
      (fun i => mkSt [(8, .per (dtsP l)), (9, iC .i64 (l.length : Nat)), (10, iC .i64 (i : Nat))] []) (fun i => l.length - i) 0 ⟨Nat.zero_le _, by simpa using hT⟩ ?_ ?_
    · exact le_auto
    · rintro i ⟨h1, h2⟩
      clear hT
      by_cases hlt : i < l.length
      · rw [List.drop_eq_getElem_cons hlt, List.any_cons] at h2
        have e : longD l[i] = (decide (60 < l[i].x.key.size) || decide (200 < l[i].x.body.size)) := rfl
        rw [e] at h2
        clear e
        (repeat' (first | refine AW_seq ?_ | refine AW_block ?_ | refine AW_skip ?_ | refine AW_exit ?_ | refine AW_ret ?_ | refine AW_region ?_ | refine AW_draw mixed0 ?_ | refine AL_nil ?_ | refine AD_nil (by kernel_rfl) ?_ | (refine AW_cl rfl rfl ⟨fun hc => ?_, fun hc => ?_⟩ <;> (repeat rw [List.length_map] at hc) <;> (try exact absd hc)) | ((first | apply AL_t rfl | apply AL_0 rfl | apply AD_t rfl | apply AD_0 rfl); focus (first | exact z_auto | fail)) | refine thenA_n ?_ | refine thenA_r ?_ | refine thenA_e ?_ | refine inB_n ?_ | refine inB_r ?_ | refine inB_hit ?_ | refine inB_miss rfl ?_ | ((first | refine AL_cl rfl rfl rfl ⟨fun hc => ?_, fun hc => ?_⟩ | refine AD_cl rfl rfl rfl ⟨fun hc => ?_, fun hc => ?_⟩) <;> (fail_if_success (have q : (true = true) := hc)) <;> (fail_if_success (have q : (false = false) := hc)) <;> (repeat rw [List.length_map] at hc) <;> (try exact absd hc)) | refine AW_cond_nil rfl rfl (fun hc => ?_) ?_))
        · rw [decide_eq_true (show 60 < l[i].x.key.size by omega), Bool.true_or, Bool.true_or] at h2
          subst h2
          (refine ⟨(by first | exact .inl rfl | exact .inr rfl), res1 rfl ?_⟩)
          exact rv_bool rfl rfl
        · rw [decide_eq_true (show 200 < l[i].x.body.size by omega), Bool.or_true, Bool.true_or] at h2
          subst h2
          (refine ⟨(by first | exact .inl rfl | exact .inr rfl), res1 rfl ?_⟩)
          exact rv_bool rfl rfl
        · rw [decide_eq_false (show ¬ 60 < l[i].x.key.size by omega), decide_eq_false (show ¬ 200 < l[i].x.body.size by omega), Bool.false_or, Bool.false_or] at h2
          refine ⟨i + 1, ⟨hlt, h2⟩, by omega, ?_⟩
          exact le_auto
      · obtain rfl : i = l.length := by omega
        rw [List.drop_length] at h2
        simp at h2
        subst h2
        (repeat' (first | refine AW_seq ?_ | refine AW_block ?_ | refine AW_skip ?_ | refine AW_exit ?_ | refine AW_ret ?_ | refine AW_region ?_ | refine AW_draw mixed0 ?_ | refine AL_nil ?_ | refine AD_nil (by kernel_rfl) ?_ | (refine AW_cl rfl rfl ⟨fun hc => ?_, fun hc => ?_⟩ <;> (repeat rw [List.length_map] at hc) <;> (try exact absd hc)) | ((first | apply AL_t rfl | apply AL_0 rfl | apply AD_t rfl | apply AD_0 rfl); focus (first | exact z_auto | fail)) | refine thenA_n ?_ | refine thenA_r ?_ | refine thenA_e ?_ | refine inB_n ?_ | refine inB_r ?_ | refine inB_hit ?_ | refine inB_miss rfl ?_ | ((first | refine AL_cl rfl rfl rfl ⟨fun hc => ?_, fun hc => ?_⟩ | refine AD_cl rfl rfl rfl ⟨fun hc => ?_, fun hc => ?_⟩) <;> (fail_if_success (have q : (true = true) := hc)) <;> (fail_if_success (have q : (false = false) := hc)) <;> (repeat rw [List.length_map] at hc) <;> (try exact absd hc)) | refine AW_cond_nil rfl rfl (fun hc => ?_) ?_))
        (refine ⟨(by first | exact .inl rfl | exact .inr rfl), res1 rfl ?_⟩)
        exact rv_bool rfl rfl
theorem law_build (seed bits : Int) (l : List Dt) (hl : l.length ≤ 60) (hk : ∀ d ∈ l, d.x.key.size ≤ 1000000000) :
    FnM Try.prog 18 [iC .u64 seed, iC .i64 bits, .per (dtsP l)] [] (.tup3 (.ptr 3000 0 0) (.per (itsP (l.foldl (stepT seed) .nil).lst)) (bC true))
      [(3000, .box 51 [.row 3001 0, iC .u64 seed, iC .i64 bits]), (3001, .obj (trO (l.foldl (stepT seed) .nil)))] := by
  have n1 := tree_New seed bits
  refine fnm_intro Try.func18 rfl (by kernel_rfl) Try.ntmps18 (Nat.le_of_ble_eq_true rfl) ?_
  (repeat' (first | refine AW_seq ?_ | refine AW_block ?_ | refine AW_skip ?_ | refine AW_exit ?_ | refine AW_ret ?_ | refine AW_region ?_ | refine AW_draw mixed0 ?_ | refine AL_nil ?_ | refine AD_nil (by kernel_rfl) ?_ | (refine AW_cl rfl rfl ⟨fun hc => ?_, fun hc => ?_⟩ <;> (repeat rw [List.length_map] at hc) <;> (try exact absd hc)) | ((first | apply AL_t rfl | apply AL_0 rfl | apply AD_t rfl | apply AD_0 rfl); focus (first | exact z_auto | exact c_MA [(3000, 500), (3001, 501)] (n1) | fail)) | refine thenA_n ?_ | refine thenA_r ?_ | refine thenA_e ?_ | refine inB_n ?_ | refine inB_r ?_ | refine inB_hit ?_ | refine inB_miss rfl ?_ | ((first | refine AL_cl rfl rfl rfl ⟨fun hc => ?_, fun hc => ?_⟩ | refine AD_cl rfl rfl rfl ⟨fun hc => ?_, fun hc => ?_⟩) <;> (fail_if_success (have q : (true = true) := hc)) <;> (fail_if_success (have q : (false = false) := hc)) <;> (repeat rw [List.length_map] at hc) <;> (try exact absd hc)) | refine AW_cond_nil rfl rfl (fun hc => ?_) ?_))
  refine AW_le (Le_nil 10 600 35 7 rfl rfl) (AW_le (Le_fz 600 _ 35 7 rfl rfl) ?_)
  refine AW_loopP (X := Nat × Tr) (fun z => z.1 ≤ l.length ∧ z.2.siz ≤ z.1 ∧ okT seed z.2 ∧ (l.drop z.1).foldl (stepT seed) z.2 = l.foldl (stepT seed) .nil)
    (fun z => mkSt [(9, .ptr 500 0 0), (10, .per (itsP z.2.lst)), (16, .per (dtsP l)), (17, iC .i64 (l.length : Nat)), (18, iC .i64 (z.1 : Nat))] [(500, .box 51 [.row 501 0, iC .u64 seed, iC .i64 bits]), (501, .obj (trO z.2))])
    (fun z => l.length - z.1) (0, .nil) ⟨Nat.zero_le _, Nat.le_refl _, okT_nil seed, by simp⟩ ?_ ?_
  · exact le_auto
  · rintro ⟨i, T⟩ ⟨h1, hs, ho, hR⟩
    simp only at h1 hs ho hR ⊢
    clear n1
    have kT : ∀ x ∈ T.lst, x.key.size ≤ 1000000000 := fun x hx => by
      rw [lst_pl] at hx
      obtain ⟨p, hp, rfl⟩ := List.mem_map.1 hx
      have := (ho.2 p hp).1
      unfold itR keyR at this
      simp at this
      omega
    have lT := lst_len T
    by_cases hlt : i < l.length
    · rw [List.drop_eq_getElem_cons hlt, List.foldl_cons] at hR
      have ks := hk _ (List.getElem_mem hlt)
      have ho' := okT_step ho l[i]
      have hL := has_lst T l[i].x.key ho.1
      have q1 := rt_Place T.lst l[i].x.key (by omega)
      have q2 := rt_Drop T.lst l[i].x.key (by omega)
      by_cases c1 : l[i].drop = true
      · cases c2 : hasT T l[i].x.key with
        | true =>
          have eS : stepT seed T l[i] = dropT T l[i].x.key := by unfold stepT; rw [if_pos c1, if_pos c2]
          have p1 := tree_Drop1 T seed bits l[i].x.key ks (by omega) c2
          have sz := siz_dropT T l[i].x.key
          rw [eS] at hR ho'
          rw [c2] at hL
          rw [← lst_drop T _ ho.1] at q2
          have hz := of_decide_eq_true hL.symm
          clear hL eS
          generalize plcF T.lst l[i].x.key 0 = z at *
          generalize dropT T l[i].x.key = T' at *
          (repeat' (first | refine AW_seq ?_ | refine AW_block ?_ | refine AW_skip ?_ | refine AW_exit ?_ | refine AW_ret ?_ | refine AW_region ?_ | refine AW_draw mixed0 ?_ | refine AL_nil ?_ | refine AD_nil (by kernel_rfl) ?_ | (refine AW_cl rfl rfl ⟨fun hc => ?_, fun hc => ?_⟩ <;> (repeat rw [List.length_map] at hc) <;> (try exact absd hc)) | ((first | apply AL_t rfl | apply AL_0 rfl | apply AD_t rfl | apply AD_0 rfl); focus (first | exact z_auto | exact c_A (q1) | exact c_A (q2) | exact c_MA [(1000, 500), (2000, 501)] (p1) | ((apply u_k 8; (focus rfl); exact op_eqC ⟨rfl, rfl, rfl⟩ rfl inferInstance rfl rfl (by first | exact .inl ⟨rfl, rfl⟩ | exact .inr ⟨rfl, rfl⟩))) | (apply u_g; (focus rfl); apply op_gyes rfl rfl rfl rfl rfl; ((apply u_k 8; (focus rfl); exact op_eqC ⟨rfl, rfl, rfl⟩ rfl inferInstance rfl rfl (by first | exact .inl ⟨rfl, rfl⟩ | exact .inr ⟨rfl, rfl⟩)))) | fail)) | refine thenA_n ?_ | refine thenA_r ?_ | refine thenA_e ?_ | refine inB_n ?_ | refine inB_r ?_ | refine inB_hit ?_ | refine inB_miss rfl ?_ | ((first | refine AL_cl rfl rfl rfl ⟨fun hc => ?_, fun hc => ?_⟩ | refine AD_cl rfl rfl rfl ⟨fun hc => ?_, fun hc => ?_⟩) <;> (fail_if_success (have q : (true = true) := hc)) <;> (fail_if_success (have q : (false = false) := hc)) <;> (repeat rw [List.length_map] at hc) <;> (try exact absd hc)) | refine AW_cond_nil rfl rfl (fun hc => ?_) ?_))
          all_goals first
            | (refine ⟨(i + 1, T'), ⟨hlt, by simp only; omega, ho', hR⟩, by simp only; omega, ?_⟩
               exact le_auto)
            | (exfalso; simp [hz, c1] at hc; done)
        | false =>
          have eS : stepT seed T l[i] = T := by unfold stepT; rw [if_pos c1, if_neg (by simp [c2])]
          have p1 := tree_Drop0 T seed bits l[i].x.key ks c2
          rw [eS] at hR ho'
          rw [c2] at hL
          have hz := of_decide_eq_false hL.symm
          have hf : T.lst.filter (fun x => decide (x.key ≠ l[i].x.key)) = T.lst := by
            rcases plcF_spec T.lst l[i].x.key 0 with ⟨_, h3⟩ | ⟨j, _, h3, _⟩
            · exact List.filter_eq_self.2 fun x hx => decide_eq_true (h3 x hx)
            · exact absurd (by rw [h3]; omega) hz
          rw [hf] at q2
          clear hL eS hf
          generalize plcF T.lst l[i].x.key 0 = z at *
          (repeat' (first | refine AW_seq ?_ | refine AW_block ?_ | refine AW_skip ?_ | refine AW_exit ?_ | refine AW_ret ?_ | refine AW_region ?_ | refine AW_draw mixed0 ?_ | refine AL_nil ?_ | refine AD_nil (by kernel_rfl) ?_ | (refine AW_cl rfl rfl ⟨fun hc => ?_, fun hc => ?_⟩ <;> (repeat rw [List.length_map] at hc) <;> (try exact absd hc)) | ((first | apply AL_t rfl | apply AL_0 rfl | apply AD_t rfl | apply AD_0 rfl); focus (first | exact z_auto | exact c_A (q1) | exact c_A (q2) | exact c_MA [(1000, 500), (2000, 501)] (p1) | ((apply u_k 8; (focus rfl); exact op_eqC ⟨rfl, rfl, rfl⟩ rfl inferInstance rfl rfl (by first | exact .inl ⟨rfl, rfl⟩ | exact .inr ⟨rfl, rfl⟩))) | (apply u_g; (focus rfl); apply op_gyes rfl rfl rfl rfl rfl; ((apply u_k 8; (focus rfl); exact op_eqC ⟨rfl, rfl, rfl⟩ rfl inferInstance rfl rfl (by first | exact .inl ⟨rfl, rfl⟩ | exact .inr ⟨rfl, rfl⟩)))) | fail)) | refine thenA_n ?_ | refine thenA_r ?_ | refine thenA_e ?_ | refine inB_n ?_ | refine inB_r ?_ | refine inB_hit ?_ | refine inB_miss rfl ?_ | ((first | refine AL_cl rfl rfl rfl ⟨fun hc => ?_, fun hc => ?_⟩ | refine AD_cl rfl rfl rfl ⟨fun hc => ?_, fun hc => ?_⟩) <;> (fail_if_success (have q : (true = true) := hc)) <;> (fail_if_success (have q : (false = false) := hc)) <;> (repeat rw [List.length_map] at hc) <;> (try exact absd hc)) | refine AW_cond_nil rfl rfl (fun hc => ?_) ?_))
          all_goals first
            | (refine ⟨(i + 1, T), ⟨hlt, by simp only; omega, ho', hR⟩, by simp only; omega, ?_⟩
               exact le_auto)
            | (exfalso; simp [hz, c1] at hc; done)
      · have c1' : l[i].drop = false := by simpa using c1
        cases c2 : itR l[i].x with
        | true =>
          have eS : stepT seed T l[i] = putT T l[i].x (hItem seed l[i].x) := by unfold stepT; rw [if_neg c1, if_pos c2]
          have p1 := tree_Put1 T seed bits l[i].x c2 (by omega) ks
          have sz := siz_putT T l[i].x (hItem seed l[i].x)
          have q3 := ritem_Right l[i].x
          have q4 := rt_Put T.lst l[i].x c2 (by omega) kT
          rw [c2] at q3
          rw [← lst_put T l[i].x (hItem seed l[i].x) ho.1] at q4
          rw [eS] at hR ho'
          clear hL eS q1 q2
          generalize putT T l[i].x (hItem seed l[i].x) = T' at *
          (repeat' (first | refine AW_seq ?_ | refine AW_block ?_ | refine AW_skip ?_ | refine AW_exit ?_ | refine AW_ret ?_ | refine AW_region ?_ | refine AW_draw mixed0 ?_ | refine AL_nil ?_ | refine AD_nil (by kernel_rfl) ?_ | (refine AW_cl rfl rfl ⟨fun hc => ?_, fun hc => ?_⟩ <;> (repeat rw [List.length_map] at hc) <;> (try exact absd hc)) | ((first | apply AL_t rfl | apply AL_0 rfl | apply AD_t rfl | apply AD_0 rfl); focus (first | exact z_auto | exact c_A (q3) | exact c_A (q4) | exact c_MA [(1000, 500), (2000, 501)] (p1) | ((apply u_k 8; (focus rfl); exact op_eqC ⟨rfl, rfl, rfl⟩ rfl inferInstance rfl rfl (by first | exact .inl ⟨rfl, rfl⟩ | exact .inr ⟨rfl, rfl⟩))) | (apply u_g; (focus rfl); apply op_gyes rfl rfl rfl rfl rfl; ((apply u_k 8; (focus rfl); exact op_eqC ⟨rfl, rfl, rfl⟩ rfl inferInstance rfl rfl (by first | exact .inl ⟨rfl, rfl⟩ | exact .inr ⟨rfl, rfl⟩)))) | fail)) | refine thenA_n ?_ | refine thenA_r ?_ | refine thenA_e ?_ | refine inB_n ?_ | refine inB_r ?_ | refine inB_hit ?_ | refine inB_miss rfl ?_ | ((first | refine AL_cl rfl rfl rfl ⟨fun hc => ?_, fun hc => ?_⟩ | refine AD_cl rfl rfl rfl ⟨fun hc => ?_, fun hc => ?_⟩) <;> (fail_if_success (have q : (true = true) := hc)) <;> (fail_if_success (have q : (false = false) := hc)) <;> (repeat rw [List.length_map] at hc) <;> (try exact absd hc)) | refine AW_cond_nil rfl rfl (fun hc => ?_) ?_))
          all_goals first
            | (refine ⟨(i + 1, T'), ⟨hlt, by simp only; omega, ho', hR⟩, by simp only; omega, ?_⟩
               exact le_auto)
            | (exfalso; simp [c1'] at hc; done)
        | false =>
          have eS : stepT seed T l[i] = T := by unfold stepT; rw [if_neg c1, if_neg (by simp [c2])]
          have p1 := tree_Put0 T seed bits l[i].x c2
          have q3 := ritem_Right l[i].x
          have q4 := rt_Put0 T.lst l[i].x c2
          rw [c2] at q3
          rw [eS] at hR ho'
          clear hL eS q1 q2
          (repeat' (first | refine AW_seq ?_ | refine AW_block ?_ | refine AW_skip ?_ | refine AW_exit ?_ | refine AW_ret ?_ | refine AW_region ?_ | refine AW_draw mixed0 ?_ | refine AL_nil ?_ | refine AD_nil (by kernel_rfl) ?_ | (refine AW_cl rfl rfl ⟨fun hc => ?_, fun hc => ?_⟩ <;> (repeat rw [List.length_map] at hc) <;> (try exact absd hc)) | ((first | apply AL_t rfl | apply AL_0 rfl | apply AD_t rfl | apply AD_0 rfl); focus (first | exact z_auto | exact c_A (q3) | exact c_A (q4) | exact c_MA [(1000, 500), (2000, 501)] (p1) | ((apply u_k 8; (focus rfl); exact op_eqC ⟨rfl, rfl, rfl⟩ rfl inferInstance rfl rfl (by first | exact .inl ⟨rfl, rfl⟩ | exact .inr ⟨rfl, rfl⟩))) | (apply u_g; (focus rfl); apply op_gyes rfl rfl rfl rfl rfl; ((apply u_k 8; (focus rfl); exact op_eqC ⟨rfl, rfl, rfl⟩ rfl inferInstance rfl rfl (by first | exact .inl ⟨rfl, rfl⟩ | exact .inr ⟨rfl, rfl⟩)))) | fail)) | refine thenA_n ?_ | refine thenA_r ?_ | refine thenA_e ?_ | refine inB_n ?_ | refine inB_r ?_ | refine inB_hit ?_ | refine inB_miss rfl ?_ | ((first | refine AL_cl rfl rfl rfl ⟨fun hc => ?_, fun hc => ?_⟩ | refine AD_cl rfl rfl rfl ⟨fun hc => ?_, fun hc => ?_⟩) <;> (fail_if_success (have q : (true = true) := hc)) <;> (fail_if_success (have q : (false = false) := hc)) <;> (repeat rw [List.length_map] at hc) <;> (try exact absd hc)) | refine AW_cond_nil rfl rfl (fun hc => ?_) ?_))
          all_goals first
            | (refine ⟨(i + 1, T), ⟨hlt, by simp only; omega, ho', hR⟩, by simp only; omega, ?_⟩
               exact le_auto)
            | (exfalso; simp [c1'] at hc; done)
    · obtain rfl : i = l.length := by omega
      rw [List.drop_length, List.foldl_nil] at hR
      subst hR
      (repeat' (first | refine AW_seq ?_ | refine AW_block ?_ | refine AW_skip ?_ | refine AW_exit ?_ | refine AW_ret ?_ | refine AW_region ?_ | refine AW_draw mixed0 ?_ | refine AL_nil ?_ | refine AD_nil (by kernel_rfl) ?_ | (refine AW_cl rfl rfl ⟨fun hc => ?_, fun hc => ?_⟩ <;> (repeat rw [List.length_map] at hc) <;> (try exact absd hc)) | ((first | apply AL_t rfl | apply AL_0 rfl | apply AD_t rfl | apply AD_0 rfl); focus (first | exact z_auto | fail)) | refine thenA_n ?_ | refine thenA_r ?_ | refine thenA_e ?_ | refine inB_n ?_ | refine inB_r ?_ | refine inB_hit ?_ | refine inB_miss rfl ?_ | ((first | refine AL_cl rfl rfl rfl ⟨fun hc => ?_, fun hc => ?_⟩ | refine AD_cl rfl rfl rfl ⟨fun hc => ?_, fun hc => ?_⟩) <;> (fail_if_success (have q : (true = true) := hc)) <;> (fail_if_success (have q : (false = false) := hc)) <;> (repeat rw [List.length_map] at hc) <;> (try exact absd hc)) | refine AW_cond_nil rfl rfl (fun hc => ?_) ?_))
      refine ⟨.inl rfl, resM3 [(500, 3000), (501, 3001)] rfl rfl ?_ (rvm rfl rfl) (rvm rfl rfl) (rvm_bool rfl rfl)⟩
      (repeat (first | exact AllX.nil | (refine AllX.cons rfl ?_ ?_; (focus first | rfl | skip))))
end
end Go.Proofs.Ytpndnlnjgnckdaa
