/- Lists merged by symmetric splits: one behind many; the general step. -/
import Derived.Test.YtnpognmpgddncaaSymG
namespace Go.Proofs.Ytnpognmpgddncaa
open Go.RowKit
section
set_option maxRecDepth 10000
set_option maxHeartbeats 8000000
/-- one behind many -/
theorem sym_last (A L : List It) (y : It) (Z : List It) (a m b : Int) (ha : a = (A.length : Nat)) (hm : m = ((A.length + L.length : Nat) : Int)) (hb : b = ((A.length + L.length + 1 : Nat) : Int)) (h1L : L.length ≠ 1) (hL : Srt ltK L) (hky : y.key.size ≤ 1000000000) (hl : A.length + L.length + 1 + Z.length ≤ 1000000000) :
    symF a m b (A ++ L ++ [y] ++ Z) (A ++ srtK (L ++ [y]) ++ Z) := by
  obtain ⟨ka, hka⟩ : ∃ k : Nat, A.length = k := ⟨_, rfl⟩
  obtain ⟨km, hkm⟩ : ∃ k : Nat, ka + L.length = k := ⟨_, rfl⟩
  rw [hka] at ha hm hb
  rw [hkm] at hm hb
  subst ha hm hb
  obtain ⟨Q, hQ⟩ : ∃ Q, Q = A ++ srtK (L ++ [y]) ++ Z := ⟨_, rfl⟩
  have hfin : ∀ L1 L2, L = L1 ++ L2 → (∀ x, L1.getLast? = some x → ltK y x = false) → (∀ x, L2.head? = some x → ltK y x = true) → Q = A ++ L1 ++ y :: (L2 ++ Z) := by
    rintro L1 L2 rfl h1 h2
    have hs := List.pairwise_append.1 hL
    have hc := srtS_cut_at ltK_wo (L1 := L1) (L2 := L2) (R1 := [y]) (R2 := []) hL (List.pairwise_singleton _ _) (fun _ _ _ h => by cases h) (fun u v hu hv => by simp at hu; subst hu; exact h2 v hv)
    have e2 : srtS ltK (L1 ++ [y]) = L1 ++ [y] := srtS_id ltK_wo (List.pairwise_append.2 ⟨hs.1, List.pairwise_singleton _ _, fun a ha b hb => by
      simp at hb; subst hb
      obtain ⟨z, hz⟩ : ∃ z, L1.getLast? = some z := by
        cases hg : L1.getLast? with
        | some z => exact ⟨z, rfl⟩
        | none => rw [List.getLast?_eq_none_iff] at hg; subst hg; simp at ha
      have h0 := h1 z hz
      obtain ⟨l', rfl⟩ := last_at hz
      rcases List.mem_append.1 ha with e | e
      · exact ltK_wo.ntr b z a h0 ((List.pairwise_append.1 hs.1).2.2 a e z (by simp))
      · simp at e; subst e; exact h0⟩)
    rw [hQ, srtK_S, show (L1 ++ L2) ++ [y] = (L1 ++ L2) ++ ([y] ++ []) by simp, hc, e2, show srtS ltK (L2 ++ []) = L2 by rw [List.append_nil]; exact srtS_id ltK_wo hs.2.1]
    simp
  rw [← hQ]
  unfold symF
  generalize hD : A ++ L ++ [y] ++ Z = D
  have hDl : D.length = km + 1 + Z.length := by rw [← hD]; simp; omega
  have HY : D[km]? = some y := by rw [← hD, show A ++ L ++ [y] ++ Z = (A ++ L) ++ y :: Z by simp, get_app _ _ _ _ (by simp; omega)]
  have HYm : (D.map itP)[km]? = some (itP y) := by rw [List.getElem?_map, HY]; rfl
  refine fnm_intro Try.func155 rfl (by kernel_rfl) Try.ntmps155 (Nat.le_of_ble_eq_true rfl) ?_
  (repeat' (first | refine AW_seq ?_ | refine AW_block ?_ | (refine AW_skip ?_; (repeat (first | refine thenA_n ?_ | refine thenA_r ?_ | refine thenA_e ?_ | refine inB_n ?_ | refine inB_r ?_ | refine inB_hit ?_ | refine inB_miss rfl ?_))) | (refine AW_exit ?_; (repeat (first | refine thenA_n ?_ | refine thenA_r ?_ | refine thenA_e ?_ | refine inB_n ?_ | refine inB_r ?_ | refine inB_hit ?_ | refine inB_miss rfl ?_))) | (refine AW_ret ?_; (repeat (first | refine thenA_n ?_ | refine thenA_r ?_ | refine thenA_e ?_ | refine inB_n ?_ | refine inB_r ?_ | refine inB_hit ?_ | refine inB_miss rfl ?_))) | refine AW_region ?_ | refine AW_draw mixed0 ?_ | (refine AL_nil ?_; (repeat (first | refine thenA_n ?_ | refine thenA_r ?_ | refine thenA_e ?_ | refine inB_n ?_ | refine inB_r ?_ | refine inB_hit ?_ | refine inB_miss rfl ?_))) | (refine AD_nil (by kernel_rfl) ?_; (repeat (first | refine thenA_n ?_ | refine thenA_r ?_ | refine thenA_e ?_ | refine inB_n ?_ | refine inB_r ?_ | refine inB_hit ?_ | refine inB_miss rfl ?_))) | (refine AW_cond_per rfl rfl (fun hc => ?_) (fun hc => ?_) <;> ((try rw [Bool.not_eq_true'] at hc) <;> (try rw [Bool.not_eq_false'] at hc) <;> (try first | rw [decide_eq_true_eq] at hc | rw [decide_eq_false_iff_not] at hc | rw [beq_iff_eq] at hc | rw [beq_eq_false_iff_ne] at hc | rw [bne_iff_ne] at hc | rw [bne_eq_false_iff_eq] at hc) <;> (repeat rw [List.length_map] at hc) <;> (try first | contradiction | (exfalso; omega) | (exfalso; simp [*] at hc; done)))) | ((first | apply AL_t rfl | apply AL_0 rfl | apply AD_t rfl | apply AD_0 rfl); focus (first | exact z_auto | fail)) | ((first | apply AL_gsplit rfl rfl rfl | apply AD_gsplit rfl rfl rfl) <;> (intro hc) <;> (fail_if_success (have q : (true = true) := hc)) <;> (fail_if_success (have q : (false = false) := hc)) <;> ((try rw [Bool.not_eq_true'] at hc) <;> (try rw [Bool.not_eq_false'] at hc) <;> (try first | rw [decide_eq_true_eq] at hc | rw [decide_eq_false_iff_not] at hc | rw [beq_iff_eq] at hc | rw [beq_eq_false_iff_ne] at hc | rw [bne_iff_ne] at hc | rw [bne_eq_false_iff_eq] at hc) <;> (repeat rw [List.length_map] at hc) <;> (try first | contradiction | (exfalso; omega) | (exfalso; simp [*] at hc; done))))))
  refine AW_loopP (X := Nat × Nat) (fun z => ka ≤ z.1 ∧ z.1 ≤ z.2 ∧ z.2 ≤ km ∧ (∀ x, ka < z.1 → D[z.1 - 1]? = some x → ltK y x = false) ∧ (∀ x, z.2 < km → D[z.2]? = some x → ltK y x = true))
    (fun z => mkSt [(0, .row 1000 0), (2, iC .i64 (km : Nat)), (4, cmpC), (14, iC .i64 (z.1 : Nat)), (15, iC .i64 (z.2 : Nat))] [(1000, itsW D)]) (fun y => y.2 - y.1) (ka, km) ⟨Nat.le_refl _, by simp only; omega, Nat.le_refl _, fun z h => by simp at h, fun z h => by simp at h⟩ ?_ ?_
  · (refine Le_mk ?_ ?_; (focus ((repeat (first | exact AllG.nil | (refine AllG.cons ?_ ?_; rotate_left))); (all_goals try (first | rfl | (refine eqI ?_; first | omega | (simp; done) | (simp; omega)) | (refine eqBo ?_; first | (simp; done) | (simp [*]; done)))))); (focus ((repeat (first | exact AllB.nil | (refine AllB.cons ?_ ?_; rotate_left))); (all_goals try (first | rfl | (refine eqRw ?_; (rw [List.map_append] <;> rfl); done) | (refine eqMix ?_; (rw [List.map_append] <;> rfl); done))))))
  · rintro ⟨i, j⟩ ⟨h1, h2, h3, h4, h5⟩
    simp only at h1 h2 h3 h4 h5 ⊢
    by_cases hij : i < j
    · obtain ⟨h, hh⟩ : ∃ h : Nat, ((i : Int) + (j : Int)) / 2 = (h : Nat) := ⟨(i + j) / 2, by omega⟩
      have hih : i ≤ h := by omega
      have hhj : h < j := by omega
      have hlt : h < D.length := by omega
      have hmm := merge_1 y D[h] hky
      have HJ : (D.map itP)[h]? = some (itP D[h]) := by rw [List.getElem?_map, List.getElem?_eq_getElem hlt]; rfl
      (repeat' (first | refine AW_seq ?_ | refine AW_block ?_ | (refine AW_skip ?_; (repeat (first | refine thenA_n ?_ | refine thenA_r ?_ | refine thenA_e ?_ | refine inB_n ?_ | refine inB_r ?_ | refine inB_hit ?_ | refine inB_miss rfl ?_))) | (refine AW_exit ?_; (repeat (first | refine thenA_n ?_ | refine thenA_r ?_ | refine thenA_e ?_ | refine inB_n ?_ | refine inB_r ?_ | refine inB_hit ?_ | refine inB_miss rfl ?_))) | (refine AW_ret ?_; (repeat (first | refine thenA_n ?_ | refine thenA_r ?_ | refine thenA_e ?_ | refine inB_n ?_ | refine inB_r ?_ | refine inB_hit ?_ | refine inB_miss rfl ?_))) | refine AW_region ?_ | refine AW_draw mixed0 ?_ | (refine AL_nil ?_; (repeat (first | refine thenA_n ?_ | refine thenA_r ?_ | refine thenA_e ?_ | refine inB_n ?_ | refine inB_r ?_ | refine inB_hit ?_ | refine inB_miss rfl ?_))) | (refine AD_nil (by kernel_rfl) ?_; (repeat (first | refine thenA_n ?_ | refine thenA_r ?_ | refine thenA_e ?_ | refine inB_n ?_ | refine inB_r ?_ | refine inB_hit ?_ | refine inB_miss rfl ?_))) | (refine AW_cond_per rfl rfl (fun hc => ?_) (fun hc => ?_) <;> ((try rw [Bool.not_eq_true'] at hc) <;> (try rw [Bool.not_eq_false'] at hc) <;> (try first | rw [decide_eq_true_eq] at hc | rw [decide_eq_false_iff_not] at hc | rw [beq_iff_eq] at hc | rw [beq_eq_false_iff_ne] at hc | rw [bne_iff_ne] at hc | rw [bne_eq_false_iff_eq] at hc) <;> (repeat rw [List.length_map] at hc) <;> (try first | contradiction | (exfalso; omega) | (exfalso; simp [*] at hc; done)))) | ((first | apply AL_t rfl | apply AL_0 rfl | apply AD_t rfl | apply AD_0 rfl); focus (first | ((apply u_k 10; (focus rfl); exact u_conv ⟨rfl, rfl, rfl⟩ rfl inferInstance inferInstance rfl (by with_reducible exact wrap_u64 (by omega) (by omega)))) | (apply u_g; (focus rfl); apply op_gyes rfl rfl rfl rfl rfl; ((apply u_k 10; (focus rfl); exact u_conv ⟨rfl, rfl, rfl⟩ rfl inferInstance inferInstance rfl (by with_reducible exact wrap_u64 (by omega) (by omega))))) | ((apply u_k 8; (focus rfl); exact op_shr ⟨rfl, rfl, rfl⟩ rfl rfl rfl (by decide) (half_u hh))) | (apply u_g; (focus rfl); apply op_gyes rfl rfl rfl rfl rfl; ((apply u_k 8; (focus rfl); exact op_shr ⟨rfl, rfl, rfl⟩ rfl rfl rfl (by decide) (half_u hh)))) | exact z_auto | (apply u_g; (focus rfl); apply op_gyes rfl rfl rfl rfl rfl; (first | ((apply u_k 5; (focus rfl); exact u_load_rA ⟨rfl, rfl, rfl⟩ rfl inferInstance inferInstance rfl rfl rfl HJ rfl rfl rfl)) | ((apply u_k 5; (focus rfl); exact u_load_rA ⟨rfl, rfl, rfl⟩ rfl inferInstance inferInstance rfl rfl rfl HYm rfl rfl rfl)) | (exact c_V [] hmm) | fail)) | ((apply u_k 5; (focus rfl); exact u_load_rA ⟨rfl, rfl, rfl⟩ rfl inferInstance inferInstance rfl rfl rfl HJ rfl rfl rfl)) | ((apply u_k 5; (focus rfl); exact u_load_rA ⟨rfl, rfl, rfl⟩ rfl inferInstance inferInstance rfl rfl rfl HYm rfl rfl rfl)) | (exact c_V [] hmm) | fail)) | ((first | apply AL_gsplit rfl rfl rfl | apply AD_gsplit rfl rfl rfl) <;> (intro hc) <;> (fail_if_success (have q : (true = true) := hc)) <;> (fail_if_success (have q : (false = false) := hc)) <;> ((try rw [Bool.not_eq_true'] at hc) <;> (try rw [Bool.not_eq_false'] at hc) <;> (try first | rw [decide_eq_true_eq] at hc | rw [decide_eq_false_iff_not] at hc | rw [beq_iff_eq] at hc | rw [beq_eq_false_iff_ne] at hc | rw [bne_iff_ne] at hc | rw [bne_eq_false_iff_eq] at hc) <;> (repeat rw [List.length_map] at hc) <;> (try first | contradiction | (exfalso; omega) | (exfalso; simp [*] at hc; done))))))
      · refine ⟨(h + 1, j), ⟨by simp only; omega, by simp only; omega, h3, fun z _ hz => ?_, h5⟩, by simp only; omega, ?_⟩
        · simp only [Nat.add_sub_cancel] at hz
          rw [List.getElem?_eq_getElem hlt] at hz; cases hz
          rw [ltK_f]; assumption
        · (refine Le_mk ?_ ?_; (focus ((repeat (first | exact AllG.nil | (refine AllG.cons ?_ ?_; rotate_left))); (all_goals try (first | rfl | (refine eqI ?_; first | omega | (simp; done) | (simp; omega)) | (refine eqBo ?_; first | (simp; done) | (simp [*]; done)))))); (focus ((repeat (first | exact AllB.nil | (refine AllB.cons ?_ ?_; rotate_left))); (all_goals try (first | rfl | (refine eqRw ?_; (rw [List.map_append] <;> rfl); done) | (refine eqMix ?_; (rw [List.map_append] <;> rfl); done))))))
      · refine ⟨(i, h), ⟨h1, hih, by simp only; omega, h4, fun z _ hz => ?_⟩, by simp only; omega, ?_⟩
        · simp only at hz
          rw [List.getElem?_eq_getElem hlt] at hz; cases hz
          rw [ltK_t]; assumption
        · (refine Le_mk ?_ ?_; (focus ((repeat (first | exact AllG.nil | (refine AllG.cons ?_ ?_; rotate_left))); (all_goals try (first | rfl | (refine eqI ?_; first | omega | (simp; done) | (simp; omega)) | (refine eqBo ?_; first | (simp; done) | (simp [*]; done)))))); (focus ((repeat (first | exact AllB.nil | (refine AllB.cons ?_ ?_; rotate_left))); (all_goals try (first | rfl | (refine eqRw ?_; (rw [List.map_append] <;> rfl); done) | (refine eqMix ?_; (rw [List.map_append] <;> rfl); done))))))
    · have hij' : j = i := by omega
      subst hij'
      obtain ⟨L1, L2, rfl, hL1⟩ := split_at L (j - ka) (by omega)
      have hq := hfin L1 L2 rfl (fun x hx => ?_) (fun x hx => ?_)
      · have hD' : A ++ L1 ++ L2 ++ y :: Z = D := by rw [← hD]; simp
        have hlen : L1.length + L2.length = km - ka := by simp at hkm; omega
        clear h4 h5 hfin hL HY HYm h1L
        subst hq
        (repeat' (first | refine AW_seq ?_ | refine AW_block ?_ | (refine AW_skip ?_; (repeat (first | refine thenA_n ?_ | refine thenA_r ?_ | refine thenA_e ?_ | refine inB_n ?_ | refine inB_r ?_ | refine inB_hit ?_ | refine inB_miss rfl ?_))) | (refine AW_exit ?_; (repeat (first | refine thenA_n ?_ | refine thenA_r ?_ | refine thenA_e ?_ | refine inB_n ?_ | refine inB_r ?_ | refine inB_hit ?_ | refine inB_miss rfl ?_))) | (refine AW_ret ?_; (repeat (first | refine thenA_n ?_ | refine thenA_r ?_ | refine thenA_e ?_ | refine inB_n ?_ | refine inB_r ?_ | refine inB_hit ?_ | refine inB_miss rfl ?_))) | refine AW_region ?_ | refine AW_draw mixed0 ?_ | (refine AL_nil ?_; (repeat (first | refine thenA_n ?_ | refine thenA_r ?_ | refine thenA_e ?_ | refine inB_n ?_ | refine inB_r ?_ | refine inB_hit ?_ | refine inB_miss rfl ?_))) | (refine AD_nil (by kernel_rfl) ?_; (repeat (first | refine thenA_n ?_ | refine thenA_r ?_ | refine thenA_e ?_ | refine inB_n ?_ | refine inB_r ?_ | refine inB_hit ?_ | refine inB_miss rfl ?_))) | (refine AW_cond_per rfl rfl (fun hc => ?_) (fun hc => ?_) <;> ((try rw [Bool.not_eq_true'] at hc) <;> (try rw [Bool.not_eq_false'] at hc) <;> (try first | rw [decide_eq_true_eq] at hc | rw [decide_eq_false_iff_not] at hc | rw [beq_iff_eq] at hc | rw [beq_eq_false_iff_ne] at hc | rw [bne_iff_ne] at hc | rw [bne_eq_false_iff_eq] at hc) <;> (repeat rw [List.length_map] at hc) <;> (try first | contradiction | (exfalso; omega) | (exfalso; simp [*] at hc; done)))) | ((first | apply AL_t rfl | apply AL_0 rfl | apply AD_t rfl | apply AD_0 rfl); focus (first | exact z_auto | fail)) | ((first | apply AL_gsplit rfl rfl rfl | apply AD_gsplit rfl rfl rfl) <;> (intro hc) <;> (fail_if_success (have q : (true = true) := hc)) <;> (fail_if_success (have q : (false = false) := hc)) <;> ((try rw [Bool.not_eq_true'] at hc) <;> (try rw [Bool.not_eq_false'] at hc) <;> (try first | rw [decide_eq_true_eq] at hc | rw [decide_eq_false_iff_not] at hc | rw [beq_iff_eq] at hc | rw [beq_eq_false_iff_ne] at hc | rw [bne_iff_ne] at hc | rw [bne_eq_false_iff_eq] at hc) <;> (repeat rw [List.length_map] at hc) <;> (try first | contradiction | (exfalso; omega) | (exfalso; simp [*] at hc; done))))))
        refine AW_loopP (X := List It × List It) (fun z => z.1 ++ z.2 = L2)
          (fun z => mkSt [(0, .row 1000 0), (14, iC .i64 (j : Nat)), (17, iC .i64 ((j + z.1.length : Nat) : Int))] [(1000, itsW (A ++ L1 ++ z.1 ++ y :: (z.2 ++ Z)))]) (fun z => z.1.length) (L2, []) (by simp) ?_ ?_
        · rw [← hD']
          have e : ((j + L2.length : Nat) : Int) = (km : Int) := by omega
          simp only [e, List.nil_append]
          (refine Le_mk ?_ ?_; (focus ((repeat (first | exact AllG.nil | (refine AllG.cons ?_ ?_; rotate_left))); (all_goals try (first | rfl | (refine eqI ?_; first | omega | (simp; done) | (simp; omega)) | (refine eqBo ?_; first | (simp; done) | (simp [*]; done)))))); (focus ((repeat (first | exact AllB.nil | (refine AllB.cons ?_ ?_; rotate_left))); (all_goals try (first | rfl | (refine eqRw ?_; (rw [List.map_append] <;> rfl); done) | (refine eqMix ?_; (rw [List.map_append] <;> rfl); done))))))
        · rintro ⟨p, q⟩ hpq
          simp only at hpq ⊢
          have hln : p.length + q.length = L2.length := by rw [← hpq]; simp
          rcases snoc_cases p with rfl | ⟨p, x, rfl⟩
          · have hp : q = L2 := by simpa using hpq
            subst hp
            have e : ((j + ([] : List It).length : Nat) : Int) = (j : Int) := by simp
            have e2 : A ++ L1 ++ [] ++ y :: (q ++ Z) = A ++ L1 ++ y :: (q ++ Z) := by simp
            rw [e, e2]
            (repeat' (first | refine AW_seq ?_ | refine AW_block ?_ | (refine AW_skip ?_; (repeat (first | refine thenA_n ?_ | refine thenA_r ?_ | refine thenA_e ?_ | refine inB_n ?_ | refine inB_r ?_ | refine inB_hit ?_ | refine inB_miss rfl ?_))) | (refine AW_exit ?_; (repeat (first | refine thenA_n ?_ | refine thenA_r ?_ | refine thenA_e ?_ | refine inB_n ?_ | refine inB_r ?_ | refine inB_hit ?_ | refine inB_miss rfl ?_))) | (refine AW_ret ?_; (repeat (first | refine thenA_n ?_ | refine thenA_r ?_ | refine thenA_e ?_ | refine inB_n ?_ | refine inB_r ?_ | refine inB_hit ?_ | refine inB_miss rfl ?_))) | refine AW_region ?_ | refine AW_draw mixed0 ?_ | (refine AL_nil ?_; (repeat (first | refine thenA_n ?_ | refine thenA_r ?_ | refine thenA_e ?_ | refine inB_n ?_ | refine inB_r ?_ | refine inB_hit ?_ | refine inB_miss rfl ?_))) | (refine AD_nil (by kernel_rfl) ?_; (repeat (first | refine thenA_n ?_ | refine thenA_r ?_ | refine thenA_e ?_ | refine inB_n ?_ | refine inB_r ?_ | refine inB_hit ?_ | refine inB_miss rfl ?_))) | (refine AW_cond_per rfl rfl (fun hc => ?_) (fun hc => ?_) <;> ((try rw [Bool.not_eq_true'] at hc) <;> (try rw [Bool.not_eq_false'] at hc) <;> (try first | rw [decide_eq_true_eq] at hc | rw [decide_eq_false_iff_not] at hc | rw [beq_iff_eq] at hc | rw [beq_eq_false_iff_ne] at hc | rw [bne_iff_ne] at hc | rw [bne_eq_false_iff_eq] at hc) <;> (repeat rw [List.length_map] at hc) <;> (try first | contradiction | (exfalso; omega) | (exfalso; simp [*] at hc; done)))) | ((first | apply AL_t rfl | apply AL_0 rfl | apply AD_t rfl | apply AD_0 rfl); focus (first | exact z_auto | fail)) | ((first | apply AL_gsplit rfl rfl rfl | apply AD_gsplit rfl rfl rfl) <;> (intro hc) <;> (fail_if_success (have q : (true = true) := hc)) <;> (fail_if_success (have q : (false = false) := hc)) <;> ((try rw [Bool.not_eq_true'] at hc) <;> (try rw [Bool.not_eq_false'] at hc) <;> (try first | rw [decide_eq_true_eq] at hc | rw [decide_eq_false_iff_not] at hc | rw [beq_iff_eq] at hc | rw [beq_eq_false_iff_ne] at hc | rw [bne_iff_ne] at hc | rw [bne_eq_false_iff_eq] at hc) <;> (repeat rw [List.length_map] at hc) <;> (try first | contradiction | (exfalso; omega) | (exfalso; simp [*] at hc; done))))))
            (refine ⟨(by first | exact .inl rfl | exact .inr rfl), resM0 [(1000, 1000)] rfl rfl ?_⟩; (focus (repeat (first | exact AllX.nil | (refine AllX.cons rfl ?_ ?_; (focus first | rfl | skip))))))
          · simp at hln
            obtain ⟨k, hk⟩ : ∃ k, j + p.length = k := ⟨_, rfl⟩
            have e : ((j + (p ++ [x]).length : Nat) : Int) = ((k + 1 : Nat) : Int) := by simp; omega
            rw [e]
            generalize hE : A ++ L1 ++ (p ++ [x]) ++ y :: (q ++ Z) = E
            have hEl : k + 1 < E.length := by rw [← hE]; simp; omega
            have H0 : (E.map itP)[k]? = some (itP x) := by
              rw [List.getElem?_map, ← hE, show A ++ L1 ++ (p ++ [x]) ++ y :: (q ++ Z) = (A ++ L1 ++ p) ++ x :: (y :: (q ++ Z)) by simp, get_app _ _ _ _ (by simp; omega)]; rfl
            have H1 : (E.map itP)[k + 1]? = some (itP y) := by
              rw [List.getElem?_map, ← hE, get_app _ _ _ _ (by simp; omega)]; rfl
            have S1 : (E.map itP).set (k + 1) (setP (itP y) 0 (itP x)) = (A ++ L1 ++ (p ++ [x]) ++ x :: (q ++ Z)).map itP := by
              rw [show (E.map itP).set (k + 1) (setP (itP y) 0 (itP x)) = (E.set (k + 1) x).map itP from map_set' itP _ _ _, ← hE, set_at _ _ _ _ _ (by simp; omega)]
            generalize hE1 : A ++ L1 ++ (p ++ [x]) ++ x :: (q ++ Z) = E1 at S1
            have hEl1 : k + 1 < E1.length := by rw [← hE1]; simp; omega
            have H2 : (E1.map itP)[k]? = some (itP x) := by
              rw [List.getElem?_map, ← hE1, show A ++ L1 ++ (p ++ [x]) ++ x :: (q ++ Z) = (A ++ L1 ++ p) ++ x :: (x :: (q ++ Z)) by simp, get_app _ _ _ _ (by simp; omega)]; rfl
            have S2 : (E1.map itP).set k (setP (itP x) 0 (itP y)) = (A ++ L1 ++ p ++ y :: ((x :: q) ++ Z)).map itP := by
              rw [show (E1.map itP).set k (setP (itP x) 0 (itP y)) = (E1.set k y).map itP from map_set' itP _ _ _, ← hE1, show A ++ L1 ++ (p ++ [x]) ++ x :: (q ++ Z) = (A ++ L1 ++ p) ++ x :: (x :: (q ++ Z)) by simp, set_at _ _ _ _ _ (by simp; omega)]
              simp
            (repeat' (first | refine AW_seq ?_ | refine AW_block ?_ | (refine AW_skip ?_; (repeat (first | refine thenA_n ?_ | refine thenA_r ?_ | refine thenA_e ?_ | refine inB_n ?_ | refine inB_r ?_ | refine inB_hit ?_ | refine inB_miss rfl ?_))) | (refine AW_exit ?_; (repeat (first | refine thenA_n ?_ | refine thenA_r ?_ | refine thenA_e ?_ | refine inB_n ?_ | refine inB_r ?_ | refine inB_hit ?_ | refine inB_miss rfl ?_))) | (refine AW_ret ?_; (repeat (first | refine thenA_n ?_ | refine thenA_r ?_ | refine thenA_e ?_ | refine inB_n ?_ | refine inB_r ?_ | refine inB_hit ?_ | refine inB_miss rfl ?_))) | refine AW_region ?_ | refine AW_draw mixed0 ?_ | (refine AL_nil ?_; (repeat (first | refine thenA_n ?_ | refine thenA_r ?_ | refine thenA_e ?_ | refine inB_n ?_ | refine inB_r ?_ | refine inB_hit ?_ | refine inB_miss rfl ?_))) | (refine AD_nil (by kernel_rfl) ?_; (repeat (first | refine thenA_n ?_ | refine thenA_r ?_ | refine thenA_e ?_ | refine inB_n ?_ | refine inB_r ?_ | refine inB_hit ?_ | refine inB_miss rfl ?_))) | (refine AW_cond_per rfl rfl (fun hc => ?_) (fun hc => ?_) <;> ((try rw [Bool.not_eq_true'] at hc) <;> (try rw [Bool.not_eq_false'] at hc) <;> (try first | rw [decide_eq_true_eq] at hc | rw [decide_eq_false_iff_not] at hc | rw [beq_iff_eq] at hc | rw [beq_eq_false_iff_ne] at hc | rw [bne_iff_ne] at hc | rw [bne_eq_false_iff_eq] at hc) <;> (repeat rw [List.length_map] at hc) <;> (try first | contradiction | (exfalso; omega) | (exfalso; simp [*] at hc; done)))) | ((first | apply AL_t rfl | apply AL_0 rfl | apply AD_t rfl | apply AD_0 rfl); focus (first | exact z_auto | (apply u_g; (focus rfl); apply op_gyes rfl rfl rfl rfl rfl; (first | ((apply u_k 5; (focus rfl); exact u_load_rA ⟨rfl, rfl, rfl⟩ rfl inferInstance inferInstance rfl rfl rfl H0 rfl rfl rfl)) | ((apply u_k 5; (focus rfl); exact u_load_rA ⟨rfl, rfl, rfl⟩ rfl inferInstance inferInstance rfl rfl rfl H1 rfl rfl rfl)) | ((apply u_k 6; (focus rfl); exact u_store_r ⟨rfl, rfl⟩ rfl inferInstance rfl rfl rfl rfl H1 rfl (.inl rfl) rfl S1)) | ((apply u_k 6; (focus rfl); exact u_store_r ⟨rfl, rfl⟩ rfl inferInstance rfl rfl rfl rfl H2 rfl (.inl rfl) rfl S2)) | fail)) | ((apply u_k 5; (focus rfl); exact u_load_rA ⟨rfl, rfl, rfl⟩ rfl inferInstance inferInstance rfl rfl rfl H0 rfl rfl rfl)) | ((apply u_k 5; (focus rfl); exact u_load_rA ⟨rfl, rfl, rfl⟩ rfl inferInstance inferInstance rfl rfl rfl H1 rfl rfl rfl)) | ((apply u_k 6; (focus rfl); exact u_store_r ⟨rfl, rfl⟩ rfl inferInstance rfl rfl rfl rfl H1 rfl (.inl rfl) rfl S1)) | ((apply u_k 6; (focus rfl); exact u_store_r ⟨rfl, rfl⟩ rfl inferInstance rfl rfl rfl rfl H2 rfl (.inl rfl) rfl S2)) | fail)) | ((first | apply AL_gsplit rfl rfl rfl | apply AD_gsplit rfl rfl rfl) <;> (intro hc) <;> (fail_if_success (have q : (true = true) := hc)) <;> (fail_if_success (have q : (false = false) := hc)) <;> ((try rw [Bool.not_eq_true'] at hc) <;> (try rw [Bool.not_eq_false'] at hc) <;> (try first | rw [decide_eq_true_eq] at hc | rw [decide_eq_false_iff_not] at hc | rw [beq_iff_eq] at hc | rw [beq_eq_false_iff_ne] at hc | rw [bne_iff_ne] at hc | rw [bne_eq_false_iff_eq] at hc) <;> (repeat rw [List.length_map] at hc) <;> (try first | contradiction | (exfalso; omega) | (exfalso; simp [*] at hc; done))))))
            refine ⟨(p, x :: q), by simpa using hpq, by simp, ?_⟩
            simp only [hk]
            (refine Le_mk ?_ ?_; (focus ((repeat (first | exact AllG.nil | (refine AllG.cons ?_ ?_; rotate_left))); (all_goals try (first | rfl | (refine eqI ?_; first | omega | (simp; done) | (simp; omega)) | (refine eqBo ?_; first | (simp; done) | (simp [*]; done)))))); (focus ((repeat (first | exact AllB.nil | (refine AllB.cons ?_ ?_; rotate_left))); (all_goals try (first | rfl | (refine eqRw ?_; (rw [List.map_append] <;> rfl); done) | (refine eqMix ?_; (rw [List.map_append] <;> rfl); done))))))
      · obtain ⟨L1', rfl⟩ := last_at hx
        simp at hL1
        refine h4 x (by omega) ?_
        rw [← hD, show A ++ (L1' ++ [x] ++ L2) ++ [y] ++ Z = (A ++ L1') ++ x :: (L2 ++ [y] ++ Z) by simp, get_app _ _ _ _ (by simp; omega)]
      · obtain ⟨L2', rfl⟩ := head_at hx
        simp at hkm
        refine h5 x (by omega) ?_
        rw [← hD, show A ++ (L1 ++ x :: L2') ++ [y] ++ Z = (A ++ L1) ++ x :: (L2' ++ [y] ++ Z) by simp, get_app _ _ _ _ (by simp; omega)]
end
end Go.Proofs.Ytnpognmpgddncaa
