/- Lists merged by symmetric splits, whatever their lengths. -/
import Derived.Test.YtnpognmpgddncaaSymR
namespace Go.Proofs.Ytnpognmpgddncaa
open Go.RowKit
abbrev symF (a m b : Int) (D D' : List It) : Prop := FnM Try.prog 155 [.row 1000 0, iC .i64 a, iC .i64 m, iC .i64 b, cmpC] [(1000, itsW D)] .any [(1000, itsW D')]
theorem ltK_t {x y : It} : ltK x y = true ↔ cmpB x.key y.key < 0 := by unfold ltK; exact decide_eq_true_iff
theorem ltK_f {x y : It} : ltK x y = false ↔ ¬ cmpB x.key y.key < 0 := by unfold ltK; exact decide_eq_false_iff_not
theorem last_at {α : Type} {l : List α} {x : α} (h : l.getLast? = some x) : ∃ l', l = l' ++ [x] := by
  rcases List.eq_nil_or_concat l with e | ⟨l', y, e⟩
  · subst e; cases h
  · rw [List.concat_eq_append] at e
    subst e; simp at h; subst h; exact ⟨l', rfl⟩
theorem head_at {α : Type} {l : List α} {x : α} (h : l.head? = some x) : ∃ l', l = x :: l' := by
  cases l with
  | nil => cases h
  | cons y l => simp at h; subst h; exact ⟨l, rfl⟩
theorem get_pre {α : Type} (A B : List α) {j : Nat} {x : α} (h : A[j]? = some x) : (A ++ B)[j]? = some x := by
  have hj : j < A.length := by
    rcases Nat.lt_or_ge j A.length with q | q
    · exact q
    · rw [List.getElem?_eq_none q] at h; cases h
  rw [List.getElem?_append_left hj]; exact h
section
set_option maxRecDepth 10000
set_option maxHeartbeats 8000000
/-- one ahead of many -/
theorem sym_one (A : List It) (x : It) (R Z : List It) (a m b : Int) (ha : a = (A.length : Nat)) (hm : m = ((A.length + 1 : Nat) : Int)) (hb : b = ((A.length + 1 + R.length : Nat) : Int)) (hR : Srt ltK R) (hkx : x.key.size ≤ 1000000000) (hkR : kOk R) (hl : A.length + 1 + R.length + Z.length ≤ 1000000000) :
    symF a m b (A ++ [x] ++ R ++ Z) (A ++ srtK ([x] ++ R) ++ Z) := by
  obtain ⟨ka, hka⟩ : ∃ k : Nat, A.length = k := ⟨_, rfl⟩
  obtain ⟨kb, hkb⟩ : ∃ k : Nat, ka + 1 + R.length = k := ⟨_, rfl⟩
  rw [hka] at ha hm hb
  rw [hkb] at hb
  subst ha hm hb
  obtain ⟨Q, hQ⟩ : ∃ Q, Q = A ++ srtK ([x] ++ R) ++ Z := ⟨_, rfl⟩
  have hfin : ∀ R1 R2, R = R1 ++ R2 → (∀ y, R1.getLast? = some y → ltK y x = true) → (∀ y, R2.head? = some y → ltK y x = false) → Q = A ++ R1 ++ x :: (R2 ++ Z) := by
    rintro R1 R2 rfl h1 h2
    have hs := List.pairwise_append.1 hR
    have hc := srtS_cut_at ltK_wo (L1 := []) (L2 := [x]) (R1 := R1) (R2 := R2) (List.pairwise_singleton _ _) hR (fun _ _ h => by cases h) (fun u v hu hv => by simp at hv; subst hv; exact h1 u hu)
    have e2 : srtS ltK ([x] ++ R2) = [x] ++ R2 := srtS_id ltK_wo (List.pairwise_cons.2 ⟨fun y hy => by
      cases R2 with
      | nil => simp at hy
      | cons z R2 =>
        have h0 := h2 z rfl
        rcases List.mem_cons.1 hy with e | e
        · subst e; exact h0
        · exact ltK_wo.ntr y z x ((List.pairwise_cons.1 hs.2.1).1 y e) h0, hs.2.1⟩)
    rw [hQ, srtK_S, show [x] ++ (R1 ++ R2) = ([] ++ [x]) ++ (R1 ++ R2) by simp, hc, e2, show srtS ltK ([] ++ R1) = R1 from srtS_id ltK_wo hs.1]
    simp
  rw [← hQ]
  unfold symF
  generalize hD : A ++ [x] ++ R ++ Z = D
  have hDl : D.length = kb + Z.length := by rw [← hD]; simp; omega
  have hkD : ∀ i (h : i < D.length), ka ≤ i → i < kb → (D[i]'h).key.size ≤ 1000000000 := by
    intro i h h1 h2
    have : D[i]'h ∈ [x] ++ R := by
      have e : D[i]? = (([x] ++ R) ++ Z)[i - ka]? := by rw [← hD, show A ++ [x] ++ R ++ Z = A ++ ([x] ++ R ++ Z) by simp, List.getElem?_append_right (by omega), hka]
      rw [List.getElem?_append_left (by simp; omega), List.getElem?_eq_getElem h] at e
      exact List.mem_of_getElem? e.symm
    rcases List.mem_append.1 this with q | q
    · simp at q; rw [q]; exact hkx
    · exact hkR _ q
  have HX : D[ka]? = some x := by rw [← hD, show A ++ [x] ++ R ++ Z = A ++ x :: (R ++ Z) by simp, get_app _ _ _ _ hka.symm]
  have HXm : (D.map itP)[ka]? = some (itP x) := by rw [List.getElem?_map, HX]; rfl
  refine fnm_intro Try.func155 rfl (by kernel_rfl) Try.ntmps155 (Nat.le_of_ble_eq_true rfl) ?_
  (repeat' (first | refine AW_seq ?_ | refine AW_block ?_ | (refine AW_skip ?_; (repeat (first | refine thenA_n ?_ | refine thenA_r ?_ | refine thenA_e ?_ | refine inB_n ?_ | refine inB_r ?_ | refine inB_hit ?_ | refine inB_miss rfl ?_))) | (refine AW_exit ?_; (repeat (first | refine thenA_n ?_ | refine thenA_r ?_ | refine thenA_e ?_ | refine inB_n ?_ | refine inB_r ?_ | refine inB_hit ?_ | refine inB_miss rfl ?_))) | (refine AW_ret ?_; (repeat (first | refine thenA_n ?_ | refine thenA_r ?_ | refine thenA_e ?_ | refine inB_n ?_ | refine inB_r ?_ | refine inB_hit ?_ | refine inB_miss rfl ?_))) | refine AW_region ?_ | refine AW_draw mixed0 ?_ | (refine AL_nil ?_; (repeat (first | refine thenA_n ?_ | refine thenA_r ?_ | refine thenA_e ?_ | refine inB_n ?_ | refine inB_r ?_ | refine inB_hit ?_ | refine inB_miss rfl ?_))) | (refine AD_nil (by kernel_rfl) ?_; (repeat (first | refine thenA_n ?_ | refine thenA_r ?_ | refine thenA_e ?_ | refine inB_n ?_ | refine inB_r ?_ | refine inB_hit ?_ | refine inB_miss rfl ?_))) | (refine AW_cond_per rfl rfl (fun hc => ?_) (fun hc => ?_) <;> ((try rw [Bool.not_eq_true'] at hc) <;> (try rw [Bool.not_eq_false'] at hc) <;> (try first | rw [decide_eq_true_eq] at hc | rw [decide_eq_false_iff_not] at hc | rw [beq_iff_eq] at hc | rw [beq_eq_false_iff_ne] at hc | rw [bne_iff_ne] at hc | rw [bne_eq_false_iff_eq] at hc) <;> (repeat rw [List.length_map] at hc) <;> (try first | contradiction | (exfalso; omega) | (exfalso; simp [*] at hc; done)))) | ((first | apply AL_t rfl | apply AL_0 rfl | apply AD_t rfl | apply AD_0 rfl); focus (first | exact z_auto | fail)) | ((first | apply AL_gsplit rfl rfl rfl | apply AD_gsplit rfl rfl rfl) <;> (intro hc) <;> (fail_if_success (have q : (true = true) := hc)) <;> (fail_if_success (have q : (false = false) := hc)) <;> ((try rw [Bool.not_eq_true'] at hc) <;> (try rw [Bool.not_eq_false'] at hc) <;> (try first | rw [decide_eq_true_eq] at hc | rw [decide_eq_false_iff_not] at hc | rw [beq_iff_eq] at hc | rw [beq_eq_false_iff_ne] at hc | rw [bne_iff_ne] at hc | rw [bne_eq_false_iff_eq] at hc) <;> (repeat rw [List.length_map] at hc) <;> (try first | contradiction | (exfalso; omega) | (exfalso; simp [*] at hc; done))))))
  refine AW_loopP (X := Nat × Nat) (fun y => ka + 1 ≤ y.1 ∧ y.1 ≤ y.2 ∧ y.2 ≤ kb ∧ (∀ z, ka + 1 < y.1 → D[y.1 - 1]? = some z → ltK z x = true) ∧ (∀ z, y.2 < kb → D[y.2]? = some z → ltK z x = false))
    (fun y => mkSt [(0, .row 1000 0), (1, iC .i64 (ka : Nat)), (4, cmpC), (10, iC .i64 (y.1 : Nat)), (11, iC .i64 (y.2 : Nat))] [(1000, itsW D)]) (fun y => y.2 - y.1) (ka + 1, kb) ⟨Nat.le_refl _, by simp only; omega, Nat.le_refl _, fun z h => by simp at h, fun z h => by simp at h⟩ ?_ ?_
  · (refine Le_mk ?_ ?_; (focus ((repeat (first | exact AllG.nil | (refine AllG.cons ?_ ?_; rotate_left))); (all_goals try (first | rfl | (refine eqI ?_; first | omega | (simp; done) | (simp; omega)) | (refine eqBo ?_; first | (simp; done) | (simp [*]; done)))))); (focus ((repeat (first | exact AllB.nil | (refine AllB.cons ?_ ?_; rotate_left))); (all_goals try (first | rfl | (refine eqRw ?_; (rw [List.map_append] <;> rfl); done) | (refine eqMix ?_; (rw [List.map_append] <;> rfl); done))))))
  · rintro ⟨i, j⟩ ⟨h1, h2, h3, h4, h5⟩
    simp only at h1 h2 h3 h4 h5 ⊢
    by_cases hij : i < j
    · obtain ⟨h, hh⟩ : ∃ h : Nat, ((i : Int) + (j : Int)) / 2 = (h : Nat) := ⟨(i + j) / 2, by omega⟩
      have hih : i ≤ h := by omega
      have hhj : h < j := by omega
      have hlt : h < D.length := by omega
      have hmm := merge_1 D[h] x (hkD h hlt (by omega) (by omega))
      have HJ : (D.map itP)[h]? = some (itP D[h]) := by rw [List.getElem?_map, List.getElem?_eq_getElem hlt]; rfl
      (repeat' (first | refine AW_seq ?_ | refine AW_block ?_ | (refine AW_skip ?_; (repeat (first | refine thenA_n ?_ | refine thenA_r ?_ | refine thenA_e ?_ | refine inB_n ?_ | refine inB_r ?_ | refine inB_hit ?_ | refine inB_miss rfl ?_))) | (refine AW_exit ?_; (repeat (first | refine thenA_n ?_ | refine thenA_r ?_ | refine thenA_e ?_ | refine inB_n ?_ | refine inB_r ?_ | refine inB_hit ?_ | refine inB_miss rfl ?_))) | (refine AW_ret ?_; (repeat (first | refine thenA_n ?_ | refine thenA_r ?_ | refine thenA_e ?_ | refine inB_n ?_ | refine inB_r ?_ | refine inB_hit ?_ | refine inB_miss rfl ?_))) | refine AW_region ?_ | refine AW_draw mixed0 ?_ | (refine AL_nil ?_; (repeat (first | refine thenA_n ?_ | refine thenA_r ?_ | refine thenA_e ?_ | refine inB_n ?_ | refine inB_r ?_ | refine inB_hit ?_ | refine inB_miss rfl ?_))) | (refine AD_nil (by kernel_rfl) ?_; (repeat (first | refine thenA_n ?_ | refine thenA_r ?_ | refine thenA_e ?_ | refine inB_n ?_ | refine inB_r ?_ | refine inB_hit ?_ | refine inB_miss rfl ?_))) | (refine AW_cond_per rfl rfl (fun hc => ?_) (fun hc => ?_) <;> ((try rw [Bool.not_eq_true'] at hc) <;> (try rw [Bool.not_eq_false'] at hc) <;> (try first | rw [decide_eq_true_eq] at hc | rw [decide_eq_false_iff_not] at hc | rw [beq_iff_eq] at hc | rw [beq_eq_false_iff_ne] at hc | rw [bne_iff_ne] at hc | rw [bne_eq_false_iff_eq] at hc) <;> (repeat rw [List.length_map] at hc) <;> (try first | contradiction | (exfalso; omega) | (exfalso; simp [*] at hc; done)))) | ((first | apply AL_t rfl | apply AL_0 rfl | apply AD_t rfl | apply AD_0 rfl); focus (first | ((apply u_k 10; (focus rfl); exact u_conv ⟨rfl, rfl, rfl⟩ rfl inferInstance inferInstance rfl (by with_reducible exact wrap_u64 (by omega) (by omega)))) | (apply u_g; (focus rfl); apply op_gyes rfl rfl rfl rfl rfl; ((apply u_k 10; (focus rfl); exact u_conv ⟨rfl, rfl, rfl⟩ rfl inferInstance inferInstance rfl (by with_reducible exact wrap_u64 (by omega) (by omega))))) | ((apply u_k 8; (focus rfl); exact op_shr ⟨rfl, rfl, rfl⟩ rfl rfl rfl (by decide) (half_u hh))) | (apply u_g; (focus rfl); apply op_gyes rfl rfl rfl rfl rfl; ((apply u_k 8; (focus rfl); exact op_shr ⟨rfl, rfl, rfl⟩ rfl rfl rfl (by decide) (half_u hh)))) | exact z_auto | (apply u_g; (focus rfl); apply op_gyes rfl rfl rfl rfl rfl; (first | ((apply u_k 5; (focus rfl); exact u_load_rA ⟨rfl, rfl, rfl⟩ rfl inferInstance inferInstance rfl rfl rfl HJ rfl rfl rfl)) | ((apply u_k 5; (focus rfl); exact u_load_rA ⟨rfl, rfl, rfl⟩ rfl inferInstance inferInstance rfl rfl rfl HXm rfl rfl rfl)) | (exact c_V [] hmm) | fail)) | ((apply u_k 5; (focus rfl); exact u_load_rA ⟨rfl, rfl, rfl⟩ rfl inferInstance inferInstance rfl rfl rfl HJ rfl rfl rfl)) | ((apply u_k 5; (focus rfl); exact u_load_rA ⟨rfl, rfl, rfl⟩ rfl inferInstance inferInstance rfl rfl rfl HXm rfl rfl rfl)) | (exact c_V [] hmm) | fail)) | ((first | apply AL_gsplit rfl rfl rfl | apply AD_gsplit rfl rfl rfl) <;> (intro hc) <;> (fail_if_success (have q : (true = true) := hc)) <;> (fail_if_success (have q : (false = false) := hc)) <;> ((try rw [Bool.not_eq_true'] at hc) <;> (try rw [Bool.not_eq_false'] at hc) <;> (try first | rw [decide_eq_true_eq] at hc | rw [decide_eq_false_iff_not] at hc | rw [beq_iff_eq] at hc | rw [beq_eq_false_iff_ne] at hc | rw [bne_iff_ne] at hc | rw [bne_eq_false_iff_eq] at hc) <;> (repeat rw [List.length_map] at hc) <;> (try first | contradiction | (exfalso; omega) | (exfalso; simp [*] at hc; done))))))
      · refine ⟨(h + 1, j), ⟨by simp only; omega, by simp only; omega, h3, fun z _ hz => ?_, h5⟩, by simp only; omega, ?_⟩
        · simp only [Nat.add_sub_cancel] at hz
          rw [List.getElem?_eq_getElem hlt] at hz; cases hz
          rw [ltK_t]; assumption
        · (refine Le_mk ?_ ?_; (focus ((repeat (first | exact AllG.nil | (refine AllG.cons ?_ ?_; rotate_left))); (all_goals try (first | rfl | (refine eqI ?_; first | omega | (simp; done) | (simp; omega)) | (refine eqBo ?_; first | (simp; done) | (simp [*]; done)))))); (focus ((repeat (first | exact AllB.nil | (refine AllB.cons ?_ ?_; rotate_left))); (all_goals try (first | rfl | (refine eqRw ?_; (rw [List.map_append] <;> rfl); done) | (refine eqMix ?_; (rw [List.map_append] <;> rfl); done))))))
      · refine ⟨(i, h), ⟨h1, hih, by simp only; omega, h4, fun z _ hz => ?_⟩, by simp only; omega, ?_⟩
        · simp only at hz
          rw [List.getElem?_eq_getElem hlt] at hz; cases hz
          rw [ltK_f]; assumption
        · (refine Le_mk ?_ ?_; (focus ((repeat (first | exact AllG.nil | (refine AllG.cons ?_ ?_; rotate_left))); (all_goals try (first | rfl | (refine eqI ?_; first | omega | (simp; done) | (simp; omega)) | (refine eqBo ?_; first | (simp; done) | (simp [*]; done)))))); (focus ((repeat (first | exact AllB.nil | (refine AllB.cons ?_ ?_; rotate_left))); (all_goals try (first | rfl | (refine eqRw ?_; (rw [List.map_append] <;> rfl); done) | (refine eqMix ?_; (rw [List.map_append] <;> rfl); done))))))
    · have hij' : j = i := by omega
      subst hij'
      obtain ⟨R1, R2, rfl, hR1⟩ := split_at R (j - (ka + 1)) (by omega)
      have hq := hfin R1 R2 rfl (fun y hy => ?_) (fun y hy => ?_)
      · have hD' : A ++ [x] ++ R1 ++ (R2 ++ Z) = D := by rw [← hD]; simp
        clear h4 h5 hfin hR hkR HX HXm hkD
        subst hq
        (repeat' (first | refine AW_seq ?_ | refine AW_block ?_ | (refine AW_skip ?_; (repeat (first | refine thenA_n ?_ | refine thenA_r ?_ | refine thenA_e ?_ | refine inB_n ?_ | refine inB_r ?_ | refine inB_hit ?_ | refine inB_miss rfl ?_))) | (refine AW_exit ?_; (repeat (first | refine thenA_n ?_ | refine thenA_r ?_ | refine thenA_e ?_ | refine inB_n ?_ | refine inB_r ?_ | refine inB_hit ?_ | refine inB_miss rfl ?_))) | (refine AW_ret ?_; (repeat (first | refine thenA_n ?_ | refine thenA_r ?_ | refine thenA_e ?_ | refine inB_n ?_ | refine inB_r ?_ | refine inB_hit ?_ | refine inB_miss rfl ?_))) | refine AW_region ?_ | refine AW_draw mixed0 ?_ | (refine AL_nil ?_; (repeat (first | refine thenA_n ?_ | refine thenA_r ?_ | refine thenA_e ?_ | refine inB_n ?_ | refine inB_r ?_ | refine inB_hit ?_ | refine inB_miss rfl ?_))) | (refine AD_nil (by kernel_rfl) ?_; (repeat (first | refine thenA_n ?_ | refine thenA_r ?_ | refine thenA_e ?_ | refine inB_n ?_ | refine inB_r ?_ | refine inB_hit ?_ | refine inB_miss rfl ?_))) | (refine AW_cond_per rfl rfl (fun hc => ?_) (fun hc => ?_) <;> ((try rw [Bool.not_eq_true'] at hc) <;> (try rw [Bool.not_eq_false'] at hc) <;> (try first | rw [decide_eq_true_eq] at hc | rw [decide_eq_false_iff_not] at hc | rw [beq_iff_eq] at hc | rw [beq_eq_false_iff_ne] at hc | rw [bne_iff_ne] at hc | rw [bne_eq_false_iff_eq] at hc) <;> (repeat rw [List.length_map] at hc) <;> (try first | contradiction | (exfalso; omega) | (exfalso; simp [*] at hc; done)))) | ((first | apply AL_t rfl | apply AL_0 rfl | apply AD_t rfl | apply AD_0 rfl); focus (first | exact z_auto | fail)) | ((first | apply AL_gsplit rfl rfl rfl | apply AD_gsplit rfl rfl rfl) <;> (intro hc) <;> (fail_if_success (have q : (true = true) := hc)) <;> (fail_if_success (have q : (false = false) := hc)) <;> ((try rw [Bool.not_eq_true'] at hc) <;> (try rw [Bool.not_eq_false'] at hc) <;> (try first | rw [decide_eq_true_eq] at hc | rw [decide_eq_false_iff_not] at hc | rw [beq_iff_eq] at hc | rw [beq_eq_false_iff_ne] at hc | rw [bne_iff_ne] at hc | rw [bne_eq_false_iff_eq] at hc) <;> (repeat rw [List.length_map] at hc) <;> (try first | contradiction | (exfalso; omega) | (exfalso; simp [*] at hc; done))))))
        refine AW_loopP (X := List It × List It) (fun y => y.1 ++ y.2 = R1)
          (fun y => mkSt [(0, .row 1000 0), (10, iC .i64 (j : Nat)), (13, iC .i64 ((ka + y.1.length : Nat) : Int))] [(1000, itsW (A ++ y.1 ++ x :: (y.2 ++ (R2 ++ Z))))]) (fun y => y.2.length) ([], R1) rfl ?_ ?_
        · rw [← hD']
          have e : A ++ [x] ++ R1 ++ (R2 ++ Z) = A ++ [] ++ x :: (R1 ++ (R2 ++ Z)) := by simp
          rw [e]
          (refine Le_mk ?_ ?_; (focus ((repeat (first | exact AllG.nil | (refine AllG.cons ?_ ?_; rotate_left))); (all_goals try (first | rfl | (refine eqI ?_; first | omega | (simp; done) | (simp; omega)) | (refine eqBo ?_; first | (simp; done) | (simp [*]; done)))))); (focus ((repeat (first | exact AllB.nil | (refine AllB.cons ?_ ?_; rotate_left))); (all_goals try (first | rfl | (refine eqRw ?_; (rw [List.map_append] <;> rfl); done) | (refine eqMix ?_; (rw [List.map_append] <;> rfl); done))))))
        · rintro ⟨p, q⟩ hpq
          simp only at hpq ⊢
          obtain ⟨k, hk⟩ : ∃ k, ka + p.length = k := ⟨_, rfl⟩
          have hln : p.length + q.length = R1.length := by rw [← hpq]; simp
          rw [hk]
          cases q with
          | nil =>
            have hp : p = R1 := by simpa using hpq
            subst hp
            simp at hln
            (repeat' (first | refine AW_seq ?_ | refine AW_block ?_ | (refine AW_skip ?_; (repeat (first | refine thenA_n ?_ | refine thenA_r ?_ | refine thenA_e ?_ | refine inB_n ?_ | refine inB_r ?_ | refine inB_hit ?_ | refine inB_miss rfl ?_))) | (refine AW_exit ?_; (repeat (first | refine thenA_n ?_ | refine thenA_r ?_ | refine thenA_e ?_ | refine inB_n ?_ | refine inB_r ?_ | refine inB_hit ?_ | refine inB_miss rfl ?_))) | (refine AW_ret ?_; (repeat (first | refine thenA_n ?_ | refine thenA_r ?_ | refine thenA_e ?_ | refine inB_n ?_ | refine inB_r ?_ | refine inB_hit ?_ | refine inB_miss rfl ?_))) | refine AW_region ?_ | refine AW_draw mixed0 ?_ | (refine AL_nil ?_; (repeat (first | refine thenA_n ?_ | refine thenA_r ?_ | refine thenA_e ?_ | refine inB_n ?_ | refine inB_r ?_ | refine inB_hit ?_ | refine inB_miss rfl ?_))) | (refine AD_nil (by kernel_rfl) ?_; (repeat (first | refine thenA_n ?_ | refine thenA_r ?_ | refine thenA_e ?_ | refine inB_n ?_ | refine inB_r ?_ | refine inB_hit ?_ | refine inB_miss rfl ?_))) | (refine AW_cond_per rfl rfl (fun hc => ?_) (fun hc => ?_) <;> ((try rw [Bool.not_eq_true'] at hc) <;> (try rw [Bool.not_eq_false'] at hc) <;> (try first | rw [decide_eq_true_eq] at hc | rw [decide_eq_false_iff_not] at hc | rw [beq_iff_eq] at hc | rw [beq_eq_false_iff_ne] at hc | rw [bne_iff_ne] at hc | rw [bne_eq_false_iff_eq] at hc) <;> (repeat rw [List.length_map] at hc) <;> (try first | contradiction | (exfalso; omega) | (exfalso; simp [*] at hc; done)))) | ((first | apply AL_t rfl | apply AL_0 rfl | apply AD_t rfl | apply AD_0 rfl); focus (first | exact z_auto | fail)) | ((first | apply AL_gsplit rfl rfl rfl | apply AD_gsplit rfl rfl rfl) <;> (intro hc) <;> (fail_if_success (have q : (true = true) := hc)) <;> (fail_if_success (have q : (false = false) := hc)) <;> ((try rw [Bool.not_eq_true'] at hc) <;> (try rw [Bool.not_eq_false'] at hc) <;> (try first | rw [decide_eq_true_eq] at hc | rw [decide_eq_false_iff_not] at hc | rw [beq_iff_eq] at hc | rw [beq_eq_false_iff_ne] at hc | rw [bne_iff_ne] at hc | rw [bne_eq_false_iff_eq] at hc) <;> (repeat rw [List.length_map] at hc) <;> (try first | contradiction | (exfalso; omega) | (exfalso; simp [*] at hc; done))))))
            (refine ⟨(by first | exact .inl rfl | exact .inr rfl), resM0 [(1000, 1000)] rfl rfl ?_⟩; (focus (repeat (first | exact AllX.nil | (refine AllX.cons rfl ?_ ?_; (focus first | rfl | skip))))))
          | cons y q =>
            simp at hln
            generalize hE : A ++ p ++ x :: (y :: q ++ (R2 ++ Z)) = E
            have hEl : k + 1 < E.length := by rw [← hE]; simp; omega
            have H0 : (E.map itP)[k]? = some (itP x) := by
              rw [List.getElem?_map, ← hE, get_app _ _ _ _ (by simp; omega)]; rfl
            have H1 : (E.map itP)[k + 1]? = some (itP y) := by
              rw [List.getElem?_map, ← hE, show A ++ p ++ x :: (y :: q ++ (R2 ++ Z)) = (A ++ p ++ [x]) ++ y :: (q ++ (R2 ++ Z)) by simp, get_app _ _ _ _ (by simp; omega)]; rfl
            have S0 : (E.map itP).set k (setP (itP x) 0 (itP y)) = (A ++ p ++ y :: (y :: q ++ (R2 ++ Z))).map itP := by
              rw [show (E.map itP).set k (setP (itP x) 0 (itP y)) = (E.set k y).map itP from map_set' itP _ _ _, ← hE, set_at _ _ _ _ _ (by simp; omega)]
            generalize hE1 : A ++ p ++ y :: (y :: q ++ (R2 ++ Z)) = E1 at S0
            have hEl1 : k + 1 < E1.length := by rw [← hE1]; simp; omega
            have H2 : (E1.map itP)[k + 1]? = some (itP y) := by
              rw [List.getElem?_map, ← hE1, show A ++ p ++ y :: (y :: q ++ (R2 ++ Z)) = (A ++ p ++ [y]) ++ y :: (q ++ (R2 ++ Z)) by simp, get_app _ _ _ _ (by simp; omega)]; rfl
            have S1 : (E1.map itP).set (k + 1) (setP (itP y) 0 (itP x)) = (A ++ (p ++ [y]) ++ x :: (q ++ (R2 ++ Z))).map itP := by
              rw [show (E1.map itP).set (k + 1) (setP (itP y) 0 (itP x)) = (E1.set (k + 1) x).map itP from map_set' itP _ _ _, ← hE1, show A ++ p ++ y :: (y :: q ++ (R2 ++ Z)) = (A ++ p ++ [y]) ++ y :: (q ++ (R2 ++ Z)) by simp, set_at _ _ _ _ _ (by simp; omega)]
              simp
            (repeat' (first | refine AW_seq ?_ | refine AW_block ?_ | (refine AW_skip ?_; (repeat (first | refine thenA_n ?_ | refine thenA_r ?_ | refine thenA_e ?_ | refine inB_n ?_ | refine inB_r ?_ | refine inB_hit ?_ | refine inB_miss rfl ?_))) | (refine AW_exit ?_; (repeat (first | refine thenA_n ?_ | refine thenA_r ?_ | refine thenA_e ?_ | refine inB_n ?_ | refine inB_r ?_ | refine inB_hit ?_ | refine inB_miss rfl ?_))) | (refine AW_ret ?_; (repeat (first | refine thenA_n ?_ | refine thenA_r ?_ | refine thenA_e ?_ | refine inB_n ?_ | refine inB_r ?_ | refine inB_hit ?_ | refine inB_miss rfl ?_))) | refine AW_region ?_ | refine AW_draw mixed0 ?_ | (refine AL_nil ?_; (repeat (first | refine thenA_n ?_ | refine thenA_r ?_ | refine thenA_e ?_ | refine inB_n ?_ | refine inB_r ?_ | refine inB_hit ?_ | refine inB_miss rfl ?_))) | (refine AD_nil (by kernel_rfl) ?_; (repeat (first | refine thenA_n ?_ | refine thenA_r ?_ | refine thenA_e ?_ | refine inB_n ?_ | refine inB_r ?_ | refine inB_hit ?_ | refine inB_miss rfl ?_))) | (refine AW_cond_per rfl rfl (fun hc => ?_) (fun hc => ?_) <;> ((try rw [Bool.not_eq_true'] at hc) <;> (try rw [Bool.not_eq_false'] at hc) <;> (try first | rw [decide_eq_true_eq] at hc | rw [decide_eq_false_iff_not] at hc | rw [beq_iff_eq] at hc | rw [beq_eq_false_iff_ne] at hc | rw [bne_iff_ne] at hc | rw [bne_eq_false_iff_eq] at hc) <;> (repeat rw [List.length_map] at hc) <;> (try first | contradiction | (exfalso; omega) | (exfalso; simp [*] at hc; done)))) | ((first | apply AL_t rfl | apply AL_0 rfl | apply AD_t rfl | apply AD_0 rfl); focus (first | exact z_auto | (apply u_g; (focus rfl); apply op_gyes rfl rfl rfl rfl rfl; (first | ((apply u_k 5; (focus rfl); exact u_load_rA ⟨rfl, rfl, rfl⟩ rfl inferInstance inferInstance rfl rfl rfl H0 rfl rfl rfl)) | ((apply u_k 5; (focus rfl); exact u_load_rA ⟨rfl, rfl, rfl⟩ rfl inferInstance inferInstance rfl rfl rfl H1 rfl rfl rfl)) | ((apply u_k 6; (focus rfl); exact u_store_r ⟨rfl, rfl⟩ rfl inferInstance rfl rfl rfl rfl H0 rfl (.inl rfl) rfl S0)) | ((apply u_k 6; (focus rfl); exact u_store_r ⟨rfl, rfl⟩ rfl inferInstance rfl rfl rfl rfl H2 rfl (.inl rfl) rfl S1)) | fail)) | ((apply u_k 5; (focus rfl); exact u_load_rA ⟨rfl, rfl, rfl⟩ rfl inferInstance inferInstance rfl rfl rfl H0 rfl rfl rfl)) | ((apply u_k 5; (focus rfl); exact u_load_rA ⟨rfl, rfl, rfl⟩ rfl inferInstance inferInstance rfl rfl rfl H1 rfl rfl rfl)) | ((apply u_k 6; (focus rfl); exact u_store_r ⟨rfl, rfl⟩ rfl inferInstance rfl rfl rfl rfl H0 rfl (.inl rfl) rfl S0)) | ((apply u_k 6; (focus rfl); exact u_store_r ⟨rfl, rfl⟩ rfl inferInstance rfl rfl rfl rfl H2 rfl (.inl rfl) rfl S1)) | fail)) | ((first | apply AL_gsplit rfl rfl rfl | apply AD_gsplit rfl rfl rfl) <;> (intro hc) <;> (fail_if_success (have q : (true = true) := hc)) <;> (fail_if_success (have q : (false = false) := hc)) <;> ((try rw [Bool.not_eq_true'] at hc) <;> (try rw [Bool.not_eq_false'] at hc) <;> (try first | rw [decide_eq_true_eq] at hc | rw [decide_eq_false_iff_not] at hc | rw [beq_iff_eq] at hc | rw [beq_eq_false_iff_ne] at hc | rw [bne_iff_ne] at hc | rw [bne_eq_false_iff_eq] at hc) <;> (repeat rw [List.length_map] at hc) <;> (try first | contradiction | (exfalso; omega) | (exfalso; simp [*] at hc; done))))))
            refine ⟨(p ++ [y], q), by simpa using hpq, by simp, ?_⟩
            have ek : ((ka + (p ++ [y]).length : Nat) : Int) = (k : Int) + 1 := by simp; omega
            simp only [ek]
            (refine Le_mk ?_ ?_; (focus ((repeat (first | exact AllG.nil | (refine AllG.cons ?_ ?_; rotate_left))); (all_goals try (first | rfl | (refine eqI ?_; first | omega | (simp; done) | (simp; omega)) | (refine eqBo ?_; first | (simp; done) | (simp [*]; done)))))); (focus ((repeat (first | exact AllB.nil | (refine AllB.cons ?_ ?_; rotate_left))); (all_goals try (first | rfl | (refine eqRw ?_; (rw [List.map_append] <;> rfl); done) | (refine eqMix ?_; (rw [List.map_append] <;> rfl); done))))))
      · obtain ⟨R1', rfl⟩ := last_at hy
        simp at hR1
        refine h4 y (by omega) ?_
        rw [← hD, show A ++ [x] ++ (R1' ++ [y] ++ R2) ++ Z = (A ++ [x] ++ R1') ++ y :: (R2 ++ Z) by simp, get_app _ _ _ _ (by simp; omega)]
      · obtain ⟨R2', rfl⟩ := head_at hy
        simp at hkb
        refine h5 y (by omega) ?_
        rw [← hD, show A ++ [x] ++ (R1 ++ y :: R2') ++ Z = (A ++ [x] ++ R1) ++ y :: (R2' ++ Z) by simp, get_app _ _ _ _ (by simp; omega)]
end
end Go.Proofs.Ytnpognmpgddncaa
