/- Texts joined: Kn. -/
import Derived.Test.YtoiaegbmbhgdpaaGreatJ22
namespace Go.Proofs.YtoiaegbmbhgdpaaGreat
open Go.RowKit
theorem up_step {p : Nat → Prop} {z : Nat} (h : ∀ i, i < z → p i) (h' : p z) : ∀ i, i < z + 1 → p i := fun i hi => by
  rcases Nat.lt_or_ge i z with q | q
  · exact h i q
  · obtain rfl : i = z := by omega
    exact h'
def knsSz (s : List Kn) : Prop := s.length ≤ 1000000000 ∧ ∀ k ∈ s, k.runs.length ≤ 1000000000
theorem knsSz.at {s : List Kn} (h : knsSz s) {i : Nat} (hi : i < s.length) : s[i].runs.length ≤ 1000000000 := h.2 _ (List.getElem_mem hi)
section
set_option maxRecDepth 10000
set_option maxHeartbeats 4000000
theorem cnt_one (r : Rn) : Fn Tryz.prog 228 [rnC r] (boR (rnR r)) := by
  refine fn_intro Tryz.func228 rfl (by kernel_rfl) Tryz.ntmps228 (Nat.le_of_ble_eq_true rfl) ?_
  (repeat' (first | refine AW_seq ?_ | refine AW_block ?_ | (refine AW_skip ?_; (repeat (first | refine thenA_n ?_ | refine thenA_r ?_ | refine thenA_e ?_ | refine inB_n ?_ | refine inB_r ?_ | refine inB_hit ?_ | refine inB_miss rfl ?_))) | (refine AW_exit ?_; (repeat (first | refine thenA_n ?_ | refine thenA_r ?_ | refine thenA_e ?_ | refine inB_n ?_ | refine inB_r ?_ | refine inB_hit ?_ | refine inB_miss rfl ?_))) | (refine AW_ret ?_; (repeat (first | refine thenA_n ?_ | refine thenA_r ?_ | refine thenA_e ?_ | refine inB_n ?_ | refine inB_r ?_ | refine inB_hit ?_ | refine inB_miss rfl ?_))) | refine AW_region ?_ | refine AW_draw mixed0 ?_ | (refine AL_nil ?_; (repeat (first | refine thenA_n ?_ | refine thenA_r ?_ | refine thenA_e ?_ | refine inB_n ?_ | refine inB_r ?_ | refine inB_hit ?_ | refine inB_miss rfl ?_))) | (refine AD_nil (by kernel_rfl) ?_; (repeat (first | refine thenA_n ?_ | refine thenA_r ?_ | refine thenA_e ?_ | refine inB_n ?_ | refine inB_r ?_ | refine inB_hit ?_ | refine inB_miss rfl ?_))) | (refine AW_cond_per rfl rfl (fun hc => ?_) (fun hc => ?_) <;> (try rw [Bool.not_eq_true'] at hc) <;> (try rw [Bool.not_eq_false'] at hc) <;> (try first | rw [decide_eq_true_eq] at hc | rw [decide_eq_false_iff_not] at hc | rw [beq_iff_eq] at hc | rw [beq_eq_false_iff_ne] at hc | rw [bne_iff_ne] at hc | rw [bne_eq_false_iff_eq] at hc) <;> (repeat rw [List.length_map] at hc) <;> (try first | contradiction | (exfalso; omega) | (exfalso; simp [*] at hc; done))) | ((first | apply AL_t rfl | apply AL_0 rfl | apply AD_t rfl | apply AD_0 rfl); focus (first | exact o_auto))))
  (refine ⟨(by first | exact .inl rfl | exact .inr rfl), res1 rfl ?_⟩)
  refine rv_per (per_bool ?_)
  rw [rnR, Bool.eq_iff_iff]; simp; omega
theorem rcnt_One (r : Rn) : Fn Tryz.prog 202 [rnC r] (boR (rnR r)) := by
  refine fn_intro Tryz.func202 rfl (by kernel_rfl) Tryz.ntmps202 (Nat.le_of_ble_eq_true rfl) ?_
  (repeat' (first | refine AW_seq ?_ | refine AW_block ?_ | (refine AW_skip ?_; (repeat (first | refine thenA_n ?_ | refine thenA_r ?_ | refine thenA_e ?_ | refine inB_n ?_ | refine inB_r ?_ | refine inB_hit ?_ | refine inB_miss rfl ?_))) | (refine AW_exit ?_; (repeat (first | refine thenA_n ?_ | refine thenA_r ?_ | refine thenA_e ?_ | refine inB_n ?_ | refine inB_r ?_ | refine inB_hit ?_ | refine inB_miss rfl ?_))) | (refine AW_ret ?_; (repeat (first | refine thenA_n ?_ | refine thenA_r ?_ | refine thenA_e ?_ | refine inB_n ?_ | refine inB_r ?_ | refine inB_hit ?_ | refine inB_miss rfl ?_))) | refine AW_region ?_ | refine AW_draw mixed0 ?_ | (refine AL_nil ?_; (repeat (first | refine thenA_n ?_ | refine thenA_r ?_ | refine thenA_e ?_ | refine inB_n ?_ | refine inB_r ?_ | refine inB_hit ?_ | refine inB_miss rfl ?_))) | (refine AD_nil (by kernel_rfl) ?_; (repeat (first | refine thenA_n ?_ | refine thenA_r ?_ | refine thenA_e ?_ | refine inB_n ?_ | refine inB_r ?_ | refine inB_hit ?_ | refine inB_miss rfl ?_))) | (refine AW_cond_per rfl rfl (fun hc => ?_) (fun hc => ?_) <;> (try rw [Bool.not_eq_true'] at hc) <;> (try rw [Bool.not_eq_false'] at hc) <;> (try first | rw [decide_eq_true_eq] at hc | rw [decide_eq_false_iff_not] at hc | rw [beq_iff_eq] at hc | rw [beq_eq_false_iff_ne] at hc | rw [bne_iff_ne] at hc | rw [bne_eq_false_iff_eq] at hc) <;> (repeat rw [List.length_map] at hc) <;> (try first | contradiction | (exfalso; omega) | (exfalso; simp [*] at hc; done))) | ((first | apply AL_t rfl | apply AL_0 rfl | apply AD_t rfl | apply AD_0 rfl); focus (first | exact o_auto))))
  (refine ⟨(by first | exact .inl rfl | exact .inr rfl), res1 rfl ?_⟩)
  refine rv_per (per_bool ?_)
  rw [rnR, Bool.eq_iff_iff]; simp; omega
theorem cnt_Right (l : List Rn) (hl : l.length ≤ 1000000000) (b : Bool) (hb : b = true ↔ rnsOk l) : Fn Tryz.prog 205 [rnsB l] (boR b) := by
  refine fn_intro Tryz.func205 rfl (by kernel_rfl) Tryz.ntmps205 (Nat.le_of_ble_eq_true rfl) ?_
  (refine w0 ?_; (repeat' (first | refine W2.mk ?_ ?_ | refine W1.mk fun hc => ?_)))
  refine AW_loopP (X := Nat) (fun z => z ≤ l.length ∧ ∀ i, i < z → rnOk l i)
    (fun z => mkSt [(0, rnsB l), (5, rnsB l), (6, iC .i64 (l.length : Nat)), (7, iC .i64 (z : Nat))] []) (fun z => l.length - z) 0 ⟨Nat.zero_le _, fun i h => absurd h (Nat.not_lt_zero _)⟩ ?_ ?_
  · exact le_auto
  · rintro z ⟨h1, h2⟩
    by_cases hz : z < l.length
    · have hir := cnt_one l[z]
      have hno : ¬ rnOk l z → b = false := fun h => by rw [← Bool.not_eq_true, hb]; exact fun q => h (q z hz)
      cases hr : rnR l[z] with
      | false =>
        have hb0 := hno (fun h => by have := (h hz).1; rw [hr] at this; cases this)
        subst hb0
        clear hb hno h2
        rw [hr] at hir
        (have kc1 := hir; refine w0 ?_; (repeat' (first | refine W2.mk ?_ ?_ | refine W1.mk fun hc => ?_)); all_goals clear kc1)
        (refine ⟨(by first | exact .inl rfl | exact .inr rfl), res1 rfl ?_⟩)
        exact rv_bool rfl rfl
      | true =>
        rw [hr] at hir
        have hrz := (rnR_iff _).1 hr
        by_cases h0 : 0 < z
        · obtain ⟨q, rfl⟩ : ∃ q, z = q + 1 := ⟨z - 1, by omega⟩
          have hqE : ((q + 1 : Nat) : Int) - 1 = (q : Nat) := by omega
          have hrq := (rnR_iff _).1 ((h2 q (by omega)) (by omega)).1
          by_cases hlt : l[q].to + 2 ≤ l[q + 1].fr
          · have hok : rnOk l (q + 1) := fun _ => ⟨hr, fun _ => hlt⟩
            clear hb hno
            (have ke1 := Lib.hid (hqE); have kc1 := hir; refine w0e ?_; (repeat' (first | refine W2.mk ?_ ?_ | refine W1.mk fun hc => ?_)); all_goals clear kc1 ke1)
            refine ⟨q + 1 + 1, ⟨by omega, up_step h2 hok⟩, by omega, ?_⟩
            exact le_auto
          · have hb0 := hno (fun h => hlt ((h hz).2 h0))
            subst hb0
            clear hb hno h2
            (have ke1 := Lib.hid (hqE); have kc1 := hir; refine w0e ?_; (repeat' (first | refine W2.mk ?_ ?_ | refine W1.mk fun hc => ?_)); all_goals clear kc1 ke1)
            (refine ⟨(by first | exact .inl rfl | exact .inr rfl), res1 rfl ?_⟩)
            exact rv_bool rfl rfl
        · have hok : rnOk l z := fun _ => ⟨hr, fun h => absurd h h0⟩
          clear hb hno
          (have kc1 := hir; refine w0 ?_; (repeat' (first | refine W2.mk ?_ ?_ | refine W1.mk fun hc => ?_)); all_goals clear kc1)
          refine ⟨z + 1, ⟨by omega, up_step h2 hok⟩, by omega, ?_⟩
          exact le_auto
    · have hb1 : b = true := hb.2 (fun i hi => h2 i (by omega))
      subst hb1
      clear hb h2
      (refine w0 ?_; (repeat' (first | refine W2.mk ?_ ?_ | refine W1.mk fun hc => ?_)))
      (refine ⟨(by first | exact .inl rfl | exact .inr rfl), res1 rfl ?_⟩)
      exact rv_bool rfl rfl
theorem rcnt_Right (l : List Rn) (hl : l.length ≤ 1000000000) (b : Bool) (hb : b = true ↔ rnsOk l) : Fn Tryz.prog 171 [rnsB l] (boR b) := by
  refine fn_intro Tryz.func171 rfl (by kernel_rfl) Tryz.ntmps171 (Nat.le_of_ble_eq_true rfl) ?_
  (refine w0 ?_; (repeat' (first | refine W2.mk ?_ ?_ | refine W1.mk fun hc => ?_)))
  refine AW_loopP (X := Nat) (fun z => z ≤ l.length ∧ ∀ i, i < z → rnOk l i)
    (fun z => mkSt [(0, rnsB l), (3, iC .i64 (z : Nat))] []) (fun z => l.length - z) 0 ⟨Nat.zero_le _, fun i h => absurd h (Nat.not_lt_zero _)⟩ ?_ ?_
  · exact le_auto
  · rintro z ⟨h1, h2⟩
    by_cases hz : z < l.length
    · have hir := rcnt_One l[z]
      have hno : ¬ rnOk l z → b = false := fun h => by rw [← Bool.not_eq_true, hb]; exact fun q => h (q z hz)
      cases hr : rnR l[z] with
      | false =>
        have hb0 := hno (fun h => by have := (h hz).1; rw [hr] at this; cases this)
        subst hb0
        clear hb hno h2
        rw [hr] at hir
        (have kc1 := hir; refine w0 ?_; (repeat' (first | refine W2.mk ?_ ?_ | refine W1.mk fun hc => ?_)); all_goals clear kc1)
        (refine ⟨(by first | exact .inl rfl | exact .inr rfl), res1 rfl ?_⟩)
        exact rv_bool rfl rfl
      | true =>
        rw [hr] at hir
        have hrz := (rnR_iff _).1 hr
        by_cases h0 : 0 < z
        · obtain ⟨q, rfl⟩ : ∃ q, z = q + 1 := ⟨z - 1, by omega⟩
          have hqE : ((q + 1 : Nat) : Int) - 1 = (q : Nat) := by omega
          have hrq := (rnR_iff _).1 ((h2 q (by omega)) (by omega)).1
          by_cases hlt : l[q].to + 2 ≤ l[q + 1].fr
          · have hok : rnOk l (q + 1) := fun _ => ⟨hr, fun _ => hlt⟩
            clear hb hno
            (have ke1 := Lib.hid (hqE); have kc1 := hir; refine w0e ?_; (repeat' (first | refine W2.mk ?_ ?_ | refine W1.mk fun hc => ?_)); all_goals clear kc1 ke1)
            refine ⟨q + 1 + 1, ⟨by omega, up_step h2 hok⟩, by omega, ?_⟩
            exact le_auto
          · have hb0 := hno (fun h => hlt ((h hz).2 h0))
            subst hb0
            clear hb hno h2
            (have ke1 := Lib.hid (hqE); have kc1 := hir; refine w0e ?_; (repeat' (first | refine W2.mk ?_ ?_ | refine W1.mk fun hc => ?_)); all_goals clear kc1 ke1)
            (refine ⟨(by first | exact .inl rfl | exact .inr rfl), res1 rfl ?_⟩)
            exact rv_bool rfl rfl
        · have hok : rnOk l z := fun _ => ⟨hr, fun h => absurd h h0⟩
          clear hb hno
          (have kc1 := hir; refine w0 ?_; (repeat' (first | refine W2.mk ?_ ?_ | refine W1.mk fun hc => ?_)); all_goals clear kc1)
          refine ⟨z + 1, ⟨by omega, up_step h2 hok⟩, by omega, ?_⟩
          exact le_auto
    · have hb1 : b = true := hb.2 (fun i hi => h2 i (by omega))
      subst hb1
      clear hb h2
      (refine w0 ?_; (repeat' (first | refine W2.mk ?_ ?_ | refine W1.mk fun hc => ?_)))
      (refine ⟨(by first | exact .inl rfl | exact .inr rfl), res1 rfl ?_⟩)
      exact rv_bool rfl rfl
theorem vs_replica (n : Int) : Fn Tryz.prog 204 [iC .i64 n] (boR (decide (1 ≤ n ∧ n ≤ 16))) := by
  refine fn_intro Tryz.func204 rfl (by kernel_rfl) Tryz.ntmps204 (Nat.le_of_ble_eq_true rfl) ?_
  (repeat' (first | refine AW_seq ?_ | refine AW_block ?_ | (refine AW_skip ?_; (repeat (first | refine thenA_n ?_ | refine thenA_r ?_ | refine thenA_e ?_ | refine inB_n ?_ | refine inB_r ?_ | refine inB_hit ?_ | refine inB_miss rfl ?_))) | (refine AW_exit ?_; (repeat (first | refine thenA_n ?_ | refine thenA_r ?_ | refine thenA_e ?_ | refine inB_n ?_ | refine inB_r ?_ | refine inB_hit ?_ | refine inB_miss rfl ?_))) | (refine AW_ret ?_; (repeat (first | refine thenA_n ?_ | refine thenA_r ?_ | refine thenA_e ?_ | refine inB_n ?_ | refine inB_r ?_ | refine inB_hit ?_ | refine inB_miss rfl ?_))) | refine AW_region ?_ | refine AW_draw mixed0 ?_ | (refine AL_nil ?_; (repeat (first | refine thenA_n ?_ | refine thenA_r ?_ | refine thenA_e ?_ | refine inB_n ?_ | refine inB_r ?_ | refine inB_hit ?_ | refine inB_miss rfl ?_))) | (refine AD_nil (by kernel_rfl) ?_; (repeat (first | refine thenA_n ?_ | refine thenA_r ?_ | refine thenA_e ?_ | refine inB_n ?_ | refine inB_r ?_ | refine inB_hit ?_ | refine inB_miss rfl ?_))) | (refine AW_cond_per rfl rfl (fun hc => ?_) (fun hc => ?_) <;> (try rw [Bool.not_eq_true'] at hc) <;> (try rw [Bool.not_eq_false'] at hc) <;> (try first | rw [decide_eq_true_eq] at hc | rw [decide_eq_false_iff_not] at hc | rw [beq_iff_eq] at hc | rw [beq_eq_false_iff_ne] at hc | rw [bne_iff_ne] at hc | rw [bne_eq_false_iff_eq] at hc) <;> (repeat rw [List.length_map] at hc) <;> (try first | contradiction | (exfalso; omega) | (exfalso; simp [*] at hc; done))) | ((first | apply AL_t rfl | apply AL_0 rfl | apply AD_t rfl | apply AD_0 rfl); focus (first | exact o_auto))))
  (refine ⟨(by first | exact .inl rfl | exact .inr rfl), res1 rfl ?_⟩)
  refine rv_per (per_bool ?_)
  rw [Bool.eq_iff_iff]; simp
theorem vs_Right (l : List Kn) (hl : knsSz l) (b : Bool) (hb : b = true ↔ knsOk l) : Fn Tryz.prog 175 [knsB l] (boR b) := by
  have hl0 := hl.1
  refine fn_intro Tryz.func175 rfl (by kernel_rfl) Tryz.ntmps175 (Nat.le_of_ble_eq_true rfl) ?_
  (refine w0 ?_; (repeat' (first | refine W2.mk ?_ ?_ | refine W1.mk fun hc => ?_)))
  refine AW_loopP (X := Nat × Int) (fun z => z.1 ≤ l.length ∧ (∀ i, i < z.1 → knOk l i) ∧ (z.1 = 0 → z.2 = 0) ∧ (∀ (h : z.1 - 1 < l.length), 0 < z.1 → z.2 = l[z.1 - 1].rep))
    (fun z => mkSt [(3, iC .i64 z.2), (6, knsB l), (7, iC .i64 (l.length : Nat)), (8, iC .i64 (z.1 : Nat))] []) (fun z => l.length - z.1) (0, 0) ⟨Nat.zero_le _, fun i h => absurd h (Nat.not_lt_zero _), fun _ => rfl, fun _ h => absurd h (by simp)⟩ ?_ ?_
  · exact le_auto
  · rintro ⟨z, was⟩ ⟨h1, h2, h3, h4⟩
    simp only at h1 h2 h3 h4 ⊢
    by_cases hz : z < l.length
    · have c1 := vs_replica l[z].rep
      have c2 := cnt_Right l[z].runs (hl.at hz) (decide (rnsOk l[z].runs)) (by simp)
      have h4' := h4 (by omega)
      have hE : l[z].runs ≠ [] ↔ ¬ l[z].runs.length = 0 := by simp
      by_cases hok : knOk l z
      · obtain ⟨a1, a2, a3, a4, a5⟩ := hok hz
        rw [decide_eq_true ⟨a1, a2⟩] at c1
        rw [decide_eq_true a4] at c2
        have a6 : was < l[z].rep := by
          rcases Nat.eq_zero_or_pos z with q | q
          · have := h3 q; omega
          · rw [h4' q]; exact a5 q
        rw [hE] at a3
        clear hb h3 h4 h4' hE a4 a5
        (have kc1 := c1; have kc2 := c2; refine w0 ?_; (repeat' (first | refine W2.mk ?_ ?_ | refine W1.mk fun hc => ?_)); all_goals clear kc2 kc1)
        refine ⟨(z + 1, l[z].rep), ⟨by simp only; omega, up_step h2 hok, fun h => by simp at h, fun h _ => rfl⟩, by simp only; omega, ?_⟩
        exact le_auto
      · have hb0 : b = false := by rw [← Bool.not_eq_true, hb]; exact fun q => hok (q z hz)
        subst hb0
        have hno : ¬ (1 ≤ l[z].rep ∧ l[z].rep ≤ 16 ∧ ¬ l[z].runs.length = 0 ∧ rnsOk l[z].runs ∧ was < l[z].rep) := fun ⟨a1, a2, a3, a4, a5⟩ => hok (fun _ => ⟨a1, a2, hE.2 a3, a4, fun q => by rw [← h4' q]; exact a5⟩)
        clear hb h2 h3 h4 h4' hE hok
        by_cases q1 : 1 ≤ l[z].rep ∧ l[z].rep ≤ 16
        · rw [decide_eq_true q1] at c1
          by_cases q2 : was < l[z].rep
          · by_cases q3 : l[z].runs.length = 0
            · clear hno
              (have kc1 := c1; have kc2 := c2; refine w0 ?_; (repeat' (first | refine W2.mk ?_ ?_ | refine W1.mk fun hc => ?_)); all_goals clear kc2 kc1)
              (refine ⟨(by first | exact .inl rfl | exact .inr rfl), res1 rfl ?_⟩)
              exact rv_bool rfl rfl
            · by_cases q4 : rnsOk l[z].runs
              · exact absurd ⟨q1.1, q1.2, q3, q4, q2⟩ hno
              · rw [decide_eq_false q4] at c2
                clear hno q4
                (have kc1 := c1; have kc2 := c2; refine w0 ?_; (repeat' (first | refine W2.mk ?_ ?_ | refine W1.mk fun hc => ?_)); all_goals clear kc2 kc1)
                (refine ⟨(by first | exact .inl rfl | exact .inr rfl), res1 rfl ?_⟩)
                exact rv_bool rfl rfl
          · clear hno
            (have kc1 := c1; have kc2 := c2; refine w0 ?_; (repeat' (first | refine W2.mk ?_ ?_ | refine W1.mk fun hc => ?_)); all_goals clear kc2 kc1)
            (refine ⟨(by first | exact .inl rfl | exact .inr rfl), res1 rfl ?_⟩)
            exact rv_bool rfl rfl
        · rw [decide_eq_false q1] at c1
          clear hno q1
          (have kc1 := c1; have kc2 := c2; refine w0 ?_; (repeat' (first | refine W2.mk ?_ ?_ | refine W1.mk fun hc => ?_)); all_goals clear kc2 kc1)
          (refine ⟨(by first | exact .inl rfl | exact .inr rfl), res1 rfl ?_⟩)
          exact rv_bool rfl rfl
    · have hb1 : b = true := hb.2 (fun i hi => h2 i (by omega))
      subst hb1
      clear hb h2 h3 h4
      (refine w0 ?_; (repeat' (first | refine W2.mk ?_ ?_ | refine W1.mk fun hc => ?_)))
      (refine ⟨(by first | exact .inl rfl | exact .inr rfl), res1 rfl ?_⟩)
      exact rv_bool rfl rfl
theorem rvs_Right (l : List Kn) (hl : knsSz l) (b : Bool) (hb : b = true ↔ knsOk l) : Fn Tryz.prog 127 [knsB l] (boR b) := by
  have hl0 := hl.1
  refine fn_intro Tryz.func127 rfl (by kernel_rfl) Tryz.ntmps127 (Nat.le_of_ble_eq_true rfl) ?_
  (refine w0 ?_; (repeat' (first | refine W2.mk ?_ ?_ | refine W1.mk fun hc => ?_)))
  refine AW_loopP (X := Nat) (fun z => z ≤ l.length ∧ ∀ i, i < z → knOk l i)
    (fun z => mkSt [(0, knsB l), (3, iC .i64 (z : Nat))] []) (fun z => l.length - z) 0 ⟨Nat.zero_le _, fun i h => absurd h (Nat.not_lt_zero _)⟩ ?_ ?_
  · exact le_auto
  · rintro z ⟨h1, h2⟩
    by_cases hz : z < l.length
    · have c2 := rcnt_Right l[z].runs (hl.at hz) (decide (rnsOk l[z].runs)) (by simp)
      have hE : l[z].runs ≠ [] ↔ ¬ l[z].runs.length = 0 := by simp
      by_cases hok : knOk l z
      · obtain ⟨a1, a2, a3, a4, a5⟩ := hok hz
        rw [decide_eq_true a4] at c2
        rw [hE] at a3
        by_cases h0 : 0 < z
        · obtain ⟨q, rfl⟩ : ∃ q, z = q + 1 := ⟨z - 1, by omega⟩
          have hqE : ((q + 1 : Nat) : Int) - 1 = (q : Nat) := by omega
          have a6 : l[q].rep < l[q + 1].rep := a5 h0
          clear hb hE a4 a5
          (have ke1 := Lib.hid (hqE); have kc1 := c2; refine w0e ?_; (repeat' (first | refine W2.mk ?_ ?_ | refine W1.mk fun hc => ?_)); all_goals clear kc1 ke1)
          refine ⟨q + 1 + 1, ⟨by omega, up_step h2 hok⟩, by omega, ?_⟩
          exact le_auto
        · clear hb hE a4 a5
          (have kc1 := c2; refine w0 ?_; (repeat' (first | refine W2.mk ?_ ?_ | refine W1.mk fun hc => ?_)); all_goals clear kc1)
          refine ⟨z + 1, ⟨by omega, up_step h2 hok⟩, by omega, ?_⟩
          exact le_auto
      · have hb0 : b = false := by rw [← Bool.not_eq_true, hb]; exact fun q => hok (q z hz)
        subst hb0
        by_cases h0 : 0 < z
        · obtain ⟨q, rfl⟩ : ∃ q, z = q + 1 := ⟨z - 1, by omega⟩
          have hqE : ((q + 1 : Nat) : Int) - 1 = (q : Nat) := by omega
          have hno : ¬ (1 ≤ l[q + 1].rep ∧ l[q + 1].rep ≤ 16 ∧ ¬ l[q + 1].runs.length = 0 ∧ rnsOk l[q + 1].runs ∧ l[q].rep < l[q + 1].rep) := fun ⟨a1, a2, a3, a4, a5⟩ => hok (fun _ => ⟨a1, a2, hE.2 a3, a4, fun _ => a5⟩)
          clear hb h2 hE hok
          by_cases q4 : rnsOk l[q + 1].runs
          · rw [decide_eq_true q4] at c2
            have hno' : ¬ (1 ≤ l[q + 1].rep ∧ l[q + 1].rep ≤ 16 ∧ ¬ l[q + 1].runs.length = 0 ∧ l[q].rep < l[q + 1].rep) := fun ⟨a1, a2, a3, a5⟩ => hno ⟨a1, a2, a3, q4, a5⟩
            clear hno q4
            (have ke1 := Lib.hid (hqE); have kc1 := c2; refine w0e ?_; (repeat' (first | refine W2.mk ?_ ?_ | refine W1.mk fun hc => ?_)); all_goals clear kc1 ke1)
            all_goals (refine ⟨(by first | exact .inl rfl | exact .inr rfl), res1 rfl ?_⟩)
            all_goals exact rv_bool rfl rfl
          · rw [decide_eq_false q4] at c2
            clear hno q4
            (have ke1 := Lib.hid (hqE); have kc1 := c2; refine w0e ?_; (repeat' (first | refine W2.mk ?_ ?_ | refine W1.mk fun hc => ?_)); all_goals clear kc1 ke1)
            all_goals (refine ⟨(by first | exact .inl rfl | exact .inr rfl), res1 rfl ?_⟩)
            all_goals exact rv_bool rfl rfl
        · have hno : ¬ (1 ≤ l[z].rep ∧ l[z].rep ≤ 16 ∧ ¬ l[z].runs.length = 0 ∧ rnsOk l[z].runs) := fun ⟨a1, a2, a3, a4⟩ => hok (fun _ => ⟨a1, a2, hE.2 a3, a4, fun h => absurd h h0⟩)
          clear hb h2 hE hok
          by_cases q4 : rnsOk l[z].runs
          · rw [decide_eq_true q4] at c2
            have hno' : ¬ (1 ≤ l[z].rep ∧ l[z].rep ≤ 16 ∧ ¬ l[z].runs.length = 0) := fun ⟨a1, a2, a3⟩ => hno ⟨a1, a2, a3, q4⟩
            clear hno q4
            (have kc1 := c2; refine w0 ?_; (repeat' (first | refine W2.mk ?_ ?_ | refine W1.mk fun hc => ?_)); all_goals clear kc1)
            all_goals (refine ⟨(by first | exact .inl rfl | exact .inr rfl), res1 rfl ?_⟩)
            all_goals exact rv_bool rfl rfl
          · rw [decide_eq_false q4] at c2
            clear hno q4
            (have kc1 := c2; refine w0 ?_; (repeat' (first | refine W2.mk ?_ ?_ | refine W1.mk fun hc => ?_)); all_goals clear kc1)
            all_goals (refine ⟨(by first | exact .inl rfl | exact .inr rfl), res1 rfl ?_⟩)
            all_goals exact rv_bool rfl rfl
    · have hb1 : b = true := hb.2 (fun i hi => h2 i (by omega))
      subst hb1
      clear hb h2
      (refine w0 ?_; (repeat' (first | refine W2.mk ?_ ?_ | refine W1.mk fun hc => ?_)))
      (refine ⟨(by first | exact .inl rfl | exact .inr rfl), res1 rfl ?_⟩)
      exact rv_bool rfl rfl
def rnE (x y : Rn) : Bool := decide (x.fr = y.fr) && (decide (x.to = y.to) && true)
theorem rnE_iff (x y : Rn) : rnE x y = true ↔ x = y := by
  obtain ⟨a, b⟩ := x
  obtain ⟨a', b'⟩ := y
  simp [rnE]
theorem rnE_o (x y : Rn) : eqO Tryz.prog 10000 197 (encRn x) (encRn y) = some (rnE x y) := by kernel_rfl
theorem rnG : Tryz.prog.eqGuardType Tryz.prog.depth 197 = false := by kernel_rfl
theorem rcnt_Same (l m : List Rn) (hl : l.length ≤ 1000000000) : Fn Tryz.prog 167 [rnsB l, rnsB m] (boR (decide (l = m))) := by
  refine fn_intro Tryz.func167 rfl (by kernel_rfl) Tryz.ntmps167 (Nat.le_of_ble_eq_true rfl) ?_
  (repeat' (first | refine AW_seq ?_ | refine AW_block ?_ | (refine AW_skip ?_; (repeat (first | refine thenA_n ?_ | refine thenA_r ?_ | refine thenA_e ?_ | refine inB_n ?_ | refine inB_r ?_ | refine inB_hit ?_ | refine inB_miss rfl ?_))) | (refine AW_exit ?_; (repeat (first | refine thenA_n ?_ | refine thenA_r ?_ | refine thenA_e ?_ | refine inB_n ?_ | refine inB_r ?_ | refine inB_hit ?_ | refine inB_miss rfl ?_))) | (refine AW_ret ?_; (repeat (first | refine thenA_n ?_ | refine thenA_r ?_ | refine thenA_e ?_ | refine inB_n ?_ | refine inB_r ?_ | refine inB_hit ?_ | refine inB_miss rfl ?_))) | refine AW_region ?_ | refine AW_draw mixed0 ?_ | (refine AL_nil ?_; (repeat (first | refine thenA_n ?_ | refine thenA_r ?_ | refine thenA_e ?_ | refine inB_n ?_ | refine inB_r ?_ | refine inB_hit ?_ | refine inB_miss rfl ?_))) | (refine AD_nil (by kernel_rfl) ?_; (repeat (first | refine thenA_n ?_ | refine thenA_r ?_ | refine thenA_e ?_ | refine inB_n ?_ | refine inB_r ?_ | refine inB_hit ?_ | refine inB_miss rfl ?_))) | (refine AW_cond_per rfl rfl (fun hc => ?_) (fun hc => ?_) <;> (try rw [Bool.not_eq_true'] at hc) <;> (try rw [Bool.not_eq_false'] at hc) <;> (try first | rw [decide_eq_true_eq] at hc | rw [decide_eq_false_iff_not] at hc | rw [beq_iff_eq] at hc | rw [beq_eq_false_iff_ne] at hc | rw [bne_iff_ne] at hc | rw [bne_eq_false_iff_eq] at hc) <;> (repeat rw [List.length_map] at hc) <;> (try first | contradiction | (exfalso; omega) | (exfalso; simp [*] at hc; done))) | ((first | apply AL_t rfl | apply AL_0 rfl | apply AD_t rfl | apply AD_0 rfl); focus (first | exact o_auto))))
  · (refine ⟨(by first | exact .inl rfl | exact .inr rfl), res1 rfl ?_⟩)
    exact rv_bool rfl (by symm; rw [decide_eq_false_iff_not]; intro h; subst h; omega)
  have hlm : l.length = m.length := by omega
  refine AW_loopP (fun k => k ≤ l.length ∧ l.take k = m.take k) (fun k => mkSt [(0, rnsB l), (1, rnsB m), (4, bC false), (5, iC .i64 (k : Nat))] []) (fun k => l.length - k) 0 ⟨Nat.zero_le _, rfl⟩ ?_ ?_
  · exact le_auto
  · rintro k ⟨hk, hpre⟩
    by_cases hlt : k < l.length
    · have hltm : k < m.length := by omega
      (repeat' (first | refine AW_seq ?_ | refine AW_block ?_ | (refine AW_skip ?_; (repeat (first | refine thenA_n ?_ | refine thenA_r ?_ | refine thenA_e ?_ | refine inB_n ?_ | refine inB_r ?_ | refine inB_hit ?_ | refine inB_miss rfl ?_))) | (refine AW_exit ?_; (repeat (first | refine thenA_n ?_ | refine thenA_r ?_ | refine thenA_e ?_ | refine inB_n ?_ | refine inB_r ?_ | refine inB_hit ?_ | refine inB_miss rfl ?_))) | (refine AW_ret ?_; (repeat (first | refine thenA_n ?_ | refine thenA_r ?_ | refine thenA_e ?_ | refine inB_n ?_ | refine inB_r ?_ | refine inB_hit ?_ | refine inB_miss rfl ?_))) | refine AW_region ?_ | refine AW_draw mixed0 ?_ | (refine AL_nil ?_; (repeat (first | refine thenA_n ?_ | refine thenA_r ?_ | refine thenA_e ?_ | refine inB_n ?_ | refine inB_r ?_ | refine inB_hit ?_ | refine inB_miss rfl ?_))) | (refine AD_nil (by kernel_rfl) ?_; (repeat (first | refine thenA_n ?_ | refine thenA_r ?_ | refine thenA_e ?_ | refine inB_n ?_ | refine inB_r ?_ | refine inB_hit ?_ | refine inB_miss rfl ?_))) | (refine AW_cond_per rfl rfl (fun hc => ?_) (fun hc => ?_) <;> (try rw [Bool.not_eq_true'] at hc) <;> (try rw [Bool.not_eq_false'] at hc) <;> (try first | rw [decide_eq_true_eq] at hc | rw [decide_eq_false_iff_not] at hc | rw [beq_iff_eq] at hc | rw [beq_eq_false_iff_ne] at hc | rw [bne_iff_ne] at hc | rw [bne_eq_false_iff_eq] at hc) <;> (repeat rw [List.length_map] at hc) <;> (try first | contradiction | (exfalso; omega) | (exfalso; simp [*] at hc; done))) | ((first | apply AL_t rfl | apply AL_0 rfl | apply AD_t rfl | apply AD_0 rfl); focus (first | exact o_auto | (exact op_eqA (us := encRn l[k]) (vs := encRn m[k]) ⟨rfl, rfl, rfl⟩ rfl rfl rfl (.inr ⟨rfl, rfl⟩) rnG rfl (rnE_o l[k] m[k]))))))
      · (refine ⟨(by first | exact .inl rfl | exact .inr rfl), res1 rfl ?_⟩)
        exact rv_bool rfl (by symm; rw [decide_eq_false_iff_not]; intro h; subst h; simp [(rnE_iff l[k] l[k]).2 rfl] at *)
      · refine ⟨k + 1, ⟨by omega, ?_⟩, by omega, ?_⟩
        · rw [take_snoc' l k hlt, take_snoc' m k hltm, hpre, (rnE_iff l[k] m[k]).1 (by simpa using hc)]
        · exact le_auto
    · (repeat' (first | refine AW_seq ?_ | refine AW_block ?_ | (refine AW_skip ?_; (repeat (first | refine thenA_n ?_ | refine thenA_r ?_ | refine thenA_e ?_ | refine inB_n ?_ | refine inB_r ?_ | refine inB_hit ?_ | refine inB_miss rfl ?_))) | (refine AW_exit ?_; (repeat (first | refine thenA_n ?_ | refine thenA_r ?_ | refine thenA_e ?_ | refine inB_n ?_ | refine inB_r ?_ | refine inB_hit ?_ | refine inB_miss rfl ?_))) | (refine AW_ret ?_; (repeat (first | refine thenA_n ?_ | refine thenA_r ?_ | refine thenA_e ?_ | refine inB_n ?_ | refine inB_r ?_ | refine inB_hit ?_ | refine inB_miss rfl ?_))) | refine AW_region ?_ | refine AW_draw mixed0 ?_ | (refine AL_nil ?_; (repeat (first | refine thenA_n ?_ | refine thenA_r ?_ | refine thenA_e ?_ | refine inB_n ?_ | refine inB_r ?_ | refine inB_hit ?_ | refine inB_miss rfl ?_))) | (refine AD_nil (by kernel_rfl) ?_; (repeat (first | refine thenA_n ?_ | refine thenA_r ?_ | refine thenA_e ?_ | refine inB_n ?_ | refine inB_r ?_ | refine inB_hit ?_ | refine inB_miss rfl ?_))) | (refine AW_cond_per rfl rfl (fun hc => ?_) (fun hc => ?_) <;> (try rw [Bool.not_eq_true'] at hc) <;> (try rw [Bool.not_eq_false'] at hc) <;> (try first | rw [decide_eq_true_eq] at hc | rw [decide_eq_false_iff_not] at hc | rw [beq_iff_eq] at hc | rw [beq_eq_false_iff_ne] at hc | rw [bne_iff_ne] at hc | rw [bne_eq_false_iff_eq] at hc) <;> (repeat rw [List.length_map] at hc) <;> (try first | contradiction | (exfalso; omega) | (exfalso; simp [*] at hc; done))) | ((first | apply AL_t rfl | apply AL_0 rfl | apply AD_t rfl | apply AD_0 rfl); focus (first | exact o_auto))))
      (refine ⟨(by first | exact .inl rfl | exact .inr rfl), res1 rfl ?_⟩)
      exact rv_bool rfl (by symm; rw [decide_eq_true_eq, ← List.take_of_length_le (show l.length ≤ k by omega), hpre, List.take_of_length_le (by omega)])
theorem rvs_Same (l m : List Kn) (hl : knsSz l) : Fn Tryz.prog 120 [knsB l, knsB m] (boR (decide (l = m))) := by
  have hl0 := hl.1
  refine fn_intro Tryz.func120 rfl (by kernel_rfl) Tryz.ntmps120 (Nat.le_of_ble_eq_true rfl) ?_
  (refine w0 ?_; (repeat' (first | refine W2.mk ?_ ?_ | refine W1.mk fun hc => ?_)))
  · (refine ⟨(by first | exact .inl rfl | exact .inr rfl), res1 rfl ?_⟩)
    exact rv_bool rfl (by symm; rw [decide_eq_false_iff_not]; intro h; subst h; omega)
  have hlm : l.length = m.length := by omega
  refine AW_loopP (fun k => k ≤ l.length ∧ l.take k = m.take k) (fun k => mkSt [(0, knsB l), (1, knsB m), (4, bC false), (5, iC .i64 (k : Nat))] []) (fun k => l.length - k) 0 ⟨Nat.zero_le _, rfl⟩ ?_ ?_
  · exact le_auto
  · rintro k ⟨hk, hpre⟩
    by_cases hlt : k < l.length
    · have hltm : k < m.length := by omega
      have c1 := rcnt_Same l[k].runs m[k].runs (hl.at hlt)
      have hE : l[k] = m[k] ↔ l[k].rep = m[k].rep ∧ l[k].runs = m[k].runs := by
        constructor
        · intro h; rw [h]; exact ⟨rfl, rfl⟩
        · rintro ⟨h1, h2⟩
          cases hx : l[k]; cases hy : m[k]
          rw [hx, hy] at h1 h2
          simp only at h1 h2
          rw [h1, h2]
      by_cases h1 : l[k].rep = m[k].rep
      · by_cases h2 : l[k].runs = m[k].runs
        · rw [decide_eq_true h2] at c1
          clear hE
          have hlm1 : l[k] = m[k] := by
            cases hx : l[k]; cases hy : m[k]
            rw [hx, hy] at h1 h2
            simp only at h1 h2
            rw [h1, h2]
          clear h2
          (have kc1 := c1; refine w0 ?_; (repeat' (first | refine W2.mk ?_ ?_ | refine W1.mk fun hc => ?_)); all_goals clear kc1)
          refine ⟨k + 1, ⟨by omega, ?_⟩, by omega, ?_⟩
          · rw [take_snoc' l k hlt, take_snoc' m k hltm, hpre, hlm1]
          · exact le_auto
        · rw [decide_eq_false h2] at c1
          have hd : ¬ l = m := fun h => h2 (by subst h; rfl)
          rw [decide_eq_false hd]
          clear hE h2 hd
          (have kc1 := c1; refine w0 ?_; (repeat' (first | refine W2.mk ?_ ?_ | refine W1.mk fun hc => ?_)); all_goals clear kc1)
          (refine ⟨(by first | exact .inl rfl | exact .inr rfl), res1 rfl ?_⟩)
          exact rv_bool rfl rfl
      · have hd : ¬ l = m := fun h => h1 (by subst h; rfl)
        rw [decide_eq_false hd]
        clear hE hd
        (have kc1 := c1; refine w0 ?_; (repeat' (first | refine W2.mk ?_ ?_ | refine W1.mk fun hc => ?_)); all_goals clear kc1)
        (refine ⟨(by first | exact .inl rfl | exact .inr rfl), res1 rfl ?_⟩)
        exact rv_bool rfl rfl
    · rw [List.take_of_length_le (by omega), List.take_of_length_le (by omega)] at hpre
      rw [decide_eq_true hpre]
      clear hpre
      (refine w0 ?_; (repeat' (first | refine W2.mk ?_ ?_ | refine W1.mk fun hc => ?_)))
      (refine ⟨(by first | exact .inl rfl | exact .inr rfl), res1 rfl ?_⟩)
      exact rv_bool rfl rfl
def longKns (l : List Kn) (most : Int) : Bool := decide ((l.length : Int) > most) || l.any fun k => decide ((k.runs.length : Int) > most)
theorem rvs_Long (l : List Kn) (most : Int) (hl : most ≤ 1000000000000) : Fn Tryz.prog 100 [knsB l, iC .i64 most] (boR (longKns l most)) := by
  refine fn_intro Tryz.func100 rfl (by kernel_rfl) Tryz.ntmps100 (Nat.le_of_ble_eq_true rfl) ?_
  (refine w0 ?_; (repeat' (first | refine W2.mk ?_ ?_ | refine W1.mk fun hc => ?_)))
  · (refine ⟨(by first | exact .inl rfl | exact .inr rfl), res1 rfl ?_⟩)
    exact rv_bool rfl (by unfold longKns; rw [decide_eq_true hc]; rfl)
  refine AW_loopP (fun k => k ≤ l.length ∧ (l.take k).any (fun k => decide ((k.runs.length : Int) > most)) = false) (fun k => mkSt [(0, knsB l), (1, iC .i64 most), (4, bC false), (5, iC .i64 (k : Nat))] []) (fun k => l.length - k) 0 ⟨Nat.zero_le _, by simp⟩ ?_ ?_
  · exact le_auto
  · rintro k ⟨hk, hpre⟩
    by_cases hlt : k < l.length
    · have hsn : (l.take (k + 1)).any (fun k => decide ((k.runs.length : Int) > most)) = ((l.take k).any (fun k => decide ((k.runs.length : Int) > most)) || decide ((l[k].runs.length : Int) > most)) := by rw [take_snoc' l k hlt, List.any_append]; simp
      by_cases hq : (l[k].runs.length : Int) > most
      · have hd : longKns l most = true := by unfold longKns; rw [Bool.or_eq_true, List.any_eq_true]; exact .inr ⟨l[k], List.getElem_mem hlt, decide_eq_true hq⟩
        rw [hd]
        clear hd hsn hpre
        (refine w0 ?_; (repeat' (first | refine W2.mk ?_ ?_ | refine W1.mk fun hc => ?_)))
        (refine ⟨(by first | exact .inl rfl | exact .inr rfl), res1 rfl ?_⟩)
        exact rv_bool rfl rfl
      · rw [hpre, decide_eq_false hq] at hsn
        clear hpre
        (refine w0 ?_; (repeat' (first | refine W2.mk ?_ ?_ | refine W1.mk fun hc => ?_)))
        refine ⟨k + 1, ⟨by omega, hsn⟩, by omega, ?_⟩
        exact le_auto
    · have e : l.take k = l := List.take_of_length_le (by omega)
      rw [e] at hpre
      have hd : longKns l most = false := by unfold longKns; rw [hpre, Bool.or_false, decide_eq_false_iff_not]; assumption
      rw [hd]
      clear hd hpre e
      (refine w0 ?_; (repeat' (first | refine W2.mk ?_ ?_ | refine W1.mk fun hc => ?_)))
      (refine ⟨(by first | exact .inl rfl | exact .inr rfl), res1 rfl ?_⟩)
      exact rv_bool rfl rfl
theorem longKns_sz {l : List Kn} {most : Int} (h : longKns l most = false) : (l.length : Int) ≤ most ∧ ∀ k ∈ l, (k.runs.length : Int) ≤ most := by
  unfold longKns at h
  rw [Bool.or_eq_false_iff, decide_eq_false_iff_not] at h
  refine ⟨by omega, fun k hk => ?_⟩
  have := List.any_eq_false.1 h.2 k hk
  simp at this; exact this
end
end Go.Proofs.YtoiaegbmbhgdpaaGreat
