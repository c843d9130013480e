/- Texts joined: Kw2. -/
import Derived.Test.YtoiaegbmbhgdpaaGreatJ26
namespace Go.Proofs.YtoiaegbmbhgdpaaGreat
open Go.RowKit
section
set_option maxRecDepth 10000
set_option maxHeartbeats 8000000
theorem rknow_Right (k : List Pc) (hk : pcsSz k) (b : Bool) (hb : b = true ↔ pcsOk k) : Fn Tryz.prog 68 [pcsB k] (boR b) := by
  have hl0 := hk.1
  refine fn_intro Tryz.func68 rfl (by kernel_rfl) Tryz.ntmps68 (Nat.le_of_ble_eq_true rfl) ?_
  (refine w0 ?_; (repeat' (first | refine W2.mk ?_ ?_ | refine W1.mk fun hc => ?_)))
  refine AW_loopP (X := Nat) (fun z => z ≤ k.length ∧ ∀ i, i < z → pcOk k i)
    (fun z => mkSt [(0, pcsB k), (3, iC .i64 (z : Nat))] []) (fun z => k.length - z) 0 ⟨Nat.zero_le _, fun i h => absurd h (Nat.not_lt_zero _)⟩ ?_ ?_
  · exact le_auto
  · rintro z ⟨h1, h2⟩
    by_cases hz : z < k.length
    · have c1 := rspan_Right k[z].rg
      have c2 := rvs_Right k[z].set (hk.at hz).sz (decide (knsOk k[z].set)) (by simp)
      have hE : k[z].set ≠ [] ↔ ¬ k[z].set.length = 0 := by simp
      have hno : ¬ pcOk k z → b = false := fun h => by rw [← Bool.not_eq_true, hb]; exact fun q => h (q z hz)
      by_cases q1 : rgR k[z].rg = true
      · rw [q1] at c1
        by_cases q2 : k[z].set.length = 0
        · have hb0 := hno (fun h => absurd q2 (hE.1 (h hz).2.1))
          subst hb0
          clear hb hno h2 hE q1
          (have kc1 := c1; have kc2 := c2; refine w0 ?_; (repeat' (first | refine W2.mk ?_ ?_ | refine W1.mk fun hc => ?_ | ((first | apply AL_t rfl | apply AL_0 rfl | apply AD_t rfl | apply AD_0 rfl); (focus (first | ((apply u_k 5; (focus rfl); first | exact u_load_bpT ⟨rfl, rfl, rfl⟩ rfl inferInstance inferInstance rfl rfl rfl rfl | exact u_load_rpT ⟨rfl, rfl, rfl⟩ rfl inferInstance inferInstance rfl rfl rfl rfl)) | (apply u_g; (focus rfl); apply op_gyes rfl rfl rfl rfl rfl; first | ((apply u_k 5; (focus rfl); first | exact u_load_bpT ⟨rfl, rfl, rfl⟩ rfl inferInstance inferInstance rfl rfl rfl rfl | exact u_load_rpT ⟨rfl, rfl, rfl⟩ rfl inferInstance inferInstance rfl rfl rfl rfl))))); refine w0 ?_))); all_goals clear kc2 kc1)
          (refine ⟨(by first | exact .inl rfl | exact .inr rfl), res1 rfl ?_⟩)
          exact rv_bool rfl rfl
        · by_cases q3 : knsOk k[z].set
          · rw [decide_eq_true q3] at c2
            by_cases h0 : 0 < z
            · obtain ⟨q, rfl⟩ : ∃ q, z = q + 1 := ⟨z - 1, by omega⟩
              have hqE : ((q + 1 : Nat) : Int) - 1 = (q : Nat) := by omega
              have hq := (h2 q (by omega)) (by omega)
              have hrq := (rgR_iff _).1 q1
              have c3 := ref_Less k[q + 1].rg.lo k[q].rg.hi (by omega)
              have hsw := cmpB_swap k[q].rg.hi k[q + 1].rg.lo
              have c5 := rvs_Same k[q].set k[q + 1].set (hk.at (by omega)).sz
              have hiff : pcOk k (q + 1) ↔ k[q].rg.op = false ∧ cmpB k[q].rg.hi k[q + 1].rg.lo ≤ 0 ∧ ¬ (k[q].rg.hi = k[q + 1].rg.lo ∧ k[q].set = k[q + 1].set) :=
                ⟨fun h => (h hz).2.2.2 (by omega), fun h _ => ⟨q1, hE.2 q2, q3, fun _ => h⟩⟩
              clear hq hrq
              have hE2 : ((k[q + 1].set.length : Nat) : Int) ≠ 0 := by omega
              cases o : k[q].rg.op with
              | true =>
                have hb0 := hno (fun h => by have := (hiff.1 h).1; rw [o] at this; cases this)
                subst hb0
                clear hb hno h2 hE q1 q3 hiff hsw
                (have ke1 := Lib.hid (hqE); have kc1 := c1; have kc2 := c2; have kc3 := c3; have kc4 := c5; refine w0e ?_; (repeat' (first | refine W2.mk ?_ ?_ | refine W1.mk fun hc => ?_ | ((first | apply AL_t rfl | apply AL_0 rfl | apply AD_t rfl | apply AD_0 rfl); (focus (first | ((apply u_k 5; (focus rfl); first | exact u_load_bpT ⟨rfl, rfl, rfl⟩ rfl inferInstance inferInstance rfl rfl rfl rfl | exact u_load_rpT ⟨rfl, rfl, rfl⟩ rfl inferInstance inferInstance rfl rfl rfl rfl)) | (apply u_g; (focus rfl); apply op_gyes rfl rfl rfl rfl rfl; first | ((apply u_k 5; (focus rfl); first | exact u_load_bpT ⟨rfl, rfl, rfl⟩ rfl inferInstance inferInstance rfl rfl rfl rfl | exact u_load_rpT ⟨rfl, rfl, rfl⟩ rfl inferInstance inferInstance rfl rfl rfl rfl))))); refine w0e ?_))); all_goals clear kc4 kc3 kc2 kc1 ke1)
                all_goals first | (exfalso; simp_all; done) | skip
                (refine ⟨(by first | exact .inl rfl | exact .inr rfl), res1 rfl ?_⟩)
                exact rv_bool rfl rfl
              | false =>
                by_cases g : cmpB k[q].rg.hi k[q + 1].rg.lo ≤ 0
                · rw [decide_eq_false (by omega)] at c3
                  by_cases e : k[q].rg.hi = k[q + 1].rg.lo
                  · by_cases s : k[q].set = k[q + 1].set
                    · rw [decide_eq_true s] at c5
                      have hb0 := hno (fun h => (hiff.1 h).2.2 ⟨e, s⟩)
                      subst hb0
                      clear hb hno h2 hE q1 q3 hiff s hsw
                      (have ke1 := Lib.hid (hqE); have kc1 := c1; have kc2 := c2; have kc3 := c3; have kc4 := c5; refine w0e ?_; (repeat' (first | refine W2.mk ?_ ?_ | refine W1.mk fun hc => ?_ | ((first | apply AL_t rfl | apply AL_0 rfl | apply AD_t rfl | apply AD_0 rfl); (focus (first | ((apply u_k 5; (focus rfl); first | exact u_load_bpT ⟨rfl, rfl, rfl⟩ rfl inferInstance inferInstance rfl rfl rfl rfl | exact u_load_rpT ⟨rfl, rfl, rfl⟩ rfl inferInstance inferInstance rfl rfl rfl rfl)) | (apply u_g; (focus rfl); apply op_gyes rfl rfl rfl rfl rfl; first | ((apply u_k 5; (focus rfl); first | exact u_load_bpT ⟨rfl, rfl, rfl⟩ rfl inferInstance inferInstance rfl rfl rfl rfl | exact u_load_rpT ⟨rfl, rfl, rfl⟩ rfl inferInstance inferInstance rfl rfl rfl rfl))))); refine w0e ?_))); all_goals clear kc4 kc3 kc2 kc1 ke1)
                      all_goals first | (exfalso; simp_all; done) | skip
                      (refine ⟨(by first | exact .inl rfl | exact .inr rfl), res1 rfl ?_⟩)
                      exact rv_bool rfl rfl
                    · rw [decide_eq_false s] at c5
                      have hok := hiff.2 ⟨o, g, fun h => s h.2⟩
                      clear hb hno hE q1 q3 hiff s hsw
                      (have ke1 := Lib.hid (hqE); have kc1 := c1; have kc2 := c2; have kc3 := c3; have kc4 := c5; refine w0e ?_; (repeat' (first | refine W2.mk ?_ ?_ | refine W1.mk fun hc => ?_ | ((first | apply AL_t rfl | apply AL_0 rfl | apply AD_t rfl | apply AD_0 rfl); (focus (first | ((apply u_k 5; (focus rfl); first | exact u_load_bpT ⟨rfl, rfl, rfl⟩ rfl inferInstance inferInstance rfl rfl rfl rfl | exact u_load_rpT ⟨rfl, rfl, rfl⟩ rfl inferInstance inferInstance rfl rfl rfl rfl)) | (apply u_g; (focus rfl); apply op_gyes rfl rfl rfl rfl rfl; first | ((apply u_k 5; (focus rfl); first | exact u_load_bpT ⟨rfl, rfl, rfl⟩ rfl inferInstance inferInstance rfl rfl rfl rfl | exact u_load_rpT ⟨rfl, rfl, rfl⟩ rfl inferInstance inferInstance rfl rfl rfl rfl))))); refine w0e ?_))); all_goals clear kc4 kc3 kc2 kc1 ke1)
                      all_goals first | (exfalso; simp_all; done) | skip
                      refine ⟨q + 1 + 1, ⟨by omega, up_step h2 hok⟩, by omega, ?_⟩
                      exact le_auto
                  · have hok := hiff.2 ⟨o, g, fun h => e h.1⟩
                    rw [← toL_inj'] at e
                    clear hb hno hE q1 q3 hiff c5 hsw
                    (have ke1 := Lib.hid (hqE); have kc1 := c1; have kc2 := c2; have kc3 := c3; refine w0e ?_; (repeat' (first | refine W2.mk ?_ ?_ | refine W1.mk fun hc => ?_ | ((first | apply AL_t rfl | apply AL_0 rfl | apply AD_t rfl | apply AD_0 rfl); (focus (first | ((apply u_k 5; (focus rfl); first | exact u_load_bpT ⟨rfl, rfl, rfl⟩ rfl inferInstance inferInstance rfl rfl rfl rfl | exact u_load_rpT ⟨rfl, rfl, rfl⟩ rfl inferInstance inferInstance rfl rfl rfl rfl)) | (apply u_g; (focus rfl); apply op_gyes rfl rfl rfl rfl rfl; first | ((apply u_k 5; (focus rfl); first | exact u_load_bpT ⟨rfl, rfl, rfl⟩ rfl inferInstance inferInstance rfl rfl rfl rfl | exact u_load_rpT ⟨rfl, rfl, rfl⟩ rfl inferInstance inferInstance rfl rfl rfl rfl))))); refine w0e ?_))); all_goals clear kc3 kc2 kc1 ke1)
                    all_goals first | (exfalso; simp_all; done) | skip
                    refine ⟨q + 1 + 1, ⟨by omega, up_step h2 hok⟩, by omega, ?_⟩
                    exact le_auto
                · have hb0 := hno (fun h => g (hiff.1 h).2.1)
                  rw [decide_eq_true (by omega)] at c3
                  subst hb0
                  clear hb hno h2 hE q1 q3 hiff hsw
                  (have ke1 := Lib.hid (hqE); have kc1 := c1; have kc2 := c2; have kc3 := c3; have kc4 := c5; refine w0e ?_; (repeat' (first | refine W2.mk ?_ ?_ | refine W1.mk fun hc => ?_ | ((first | apply AL_t rfl | apply AL_0 rfl | apply AD_t rfl | apply AD_0 rfl); (focus (first | ((apply u_k 5; (focus rfl); first | exact u_load_bpT ⟨rfl, rfl, rfl⟩ rfl inferInstance inferInstance rfl rfl rfl rfl | exact u_load_rpT ⟨rfl, rfl, rfl⟩ rfl inferInstance inferInstance rfl rfl rfl rfl)) | (apply u_g; (focus rfl); apply op_gyes rfl rfl rfl rfl rfl; first | ((apply u_k 5; (focus rfl); first | exact u_load_bpT ⟨rfl, rfl, rfl⟩ rfl inferInstance inferInstance rfl rfl rfl rfl | exact u_load_rpT ⟨rfl, rfl, rfl⟩ rfl inferInstance inferInstance rfl rfl rfl rfl))))); refine w0e ?_))); all_goals clear kc4 kc3 kc2 kc1 ke1)
                  all_goals first | (exfalso; simp_all; done) | skip
                  (refine ⟨(by first | exact .inl rfl | exact .inr rfl), res1 rfl ?_⟩)
                  exact rv_bool rfl rfl
            · have hok : pcOk k z := fun _ => ⟨q1, hE.2 q2, q3, fun h => absurd h h0⟩
              obtain rfl : z = 0 := by omega
              clear hb hno hE q1 q3
              (have kc1 := c1; have kc2 := c2; refine w0 ?_; (repeat' (first | refine W2.mk ?_ ?_ | refine W1.mk fun hc => ?_ | ((first | apply AL_t rfl | apply AL_0 rfl | apply AD_t rfl | apply AD_0 rfl); (focus (first | ((apply u_k 5; (focus rfl); first | exact u_load_bpT ⟨rfl, rfl, rfl⟩ rfl inferInstance inferInstance rfl rfl rfl rfl | exact u_load_rpT ⟨rfl, rfl, rfl⟩ rfl inferInstance inferInstance rfl rfl rfl rfl)) | (apply u_g; (focus rfl); apply op_gyes rfl rfl rfl rfl rfl; first | ((apply u_k 5; (focus rfl); first | exact u_load_bpT ⟨rfl, rfl, rfl⟩ rfl inferInstance inferInstance rfl rfl rfl rfl | exact u_load_rpT ⟨rfl, rfl, rfl⟩ rfl inferInstance inferInstance rfl rfl rfl rfl))))); refine w0 ?_))); all_goals clear kc2 kc1)
              refine ⟨0 + 1, ⟨by omega, up_step h2 hok⟩, by omega, ?_⟩
              exact le_auto
          · rw [decide_eq_false q3] at c2
            have hb0 := hno (fun h => q3 (h hz).2.2.1)
            subst hb0
            clear hb hno h2 hE q1 q3
            (have kc1 := c1; have kc2 := c2; refine w0 ?_; (repeat' (first | refine W2.mk ?_ ?_ | refine W1.mk fun hc => ?_ | ((first | apply AL_t rfl | apply AL_0 rfl | apply AD_t rfl | apply AD_0 rfl); (focus (first | ((apply u_k 5; (focus rfl); first | exact u_load_bpT ⟨rfl, rfl, rfl⟩ rfl inferInstance inferInstance rfl rfl rfl rfl | exact u_load_rpT ⟨rfl, rfl, rfl⟩ rfl inferInstance inferInstance rfl rfl rfl rfl)) | (apply u_g; (focus rfl); apply op_gyes rfl rfl rfl rfl rfl; first | ((apply u_k 5; (focus rfl); first | exact u_load_bpT ⟨rfl, rfl, rfl⟩ rfl inferInstance inferInstance rfl rfl rfl rfl | exact u_load_rpT ⟨rfl, rfl, rfl⟩ rfl inferInstance inferInstance rfl rfl rfl rfl))))); refine w0 ?_))); all_goals clear kc2 kc1)
            (refine ⟨(by first | exact .inl rfl | exact .inr rfl), res1 rfl ?_⟩)
            exact rv_bool rfl rfl
      · rw [Bool.not_eq_true] at q1
        rw [q1] at c1
        have hb0 := hno (fun h => by have := (h hz).1; rw [q1] at this; cases this)
        subst hb0
        clear hb hno h2 hE q1
        (have kc1 := c1; have kc2 := c2; refine w0 ?_; (repeat' (first | refine W2.mk ?_ ?_ | refine W1.mk fun hc => ?_ | ((first | apply AL_t rfl | apply AL_0 rfl | apply AD_t rfl | apply AD_0 rfl); (focus (first | ((apply u_k 5; (focus rfl); first | exact u_load_bpT ⟨rfl, rfl, rfl⟩ rfl inferInstance inferInstance rfl rfl rfl rfl | exact u_load_rpT ⟨rfl, rfl, rfl⟩ rfl inferInstance inferInstance rfl rfl rfl rfl)) | (apply u_g; (focus rfl); apply op_gyes rfl rfl rfl rfl rfl; first | ((apply u_k 5; (focus rfl); first | exact u_load_bpT ⟨rfl, rfl, rfl⟩ rfl inferInstance inferInstance rfl rfl rfl rfl | exact u_load_rpT ⟨rfl, rfl, rfl⟩ rfl inferInstance inferInstance rfl rfl rfl rfl))))); refine w0 ?_))); all_goals clear kc2 kc1)
        (refine ⟨(by first | exact .inl rfl | exact .inr rfl), res1 rfl ?_⟩)
        exact rv_bool rfl rfl
    · have hb1 : b = true := hb.2 (fun i hi => h2 i (by omega))
      subst hb1
      clear hb h2
      (refine w0 ?_; (repeat' (first | refine W2.mk ?_ ?_ | refine W1.mk fun hc => ?_)))
      (refine ⟨(by first | exact .inl rfl | exact .inr rfl), res1 rfl ?_⟩)
      exact rv_bool rfl rfl
theorem rknow_Same (l m : List Pc) (hl : pcsSz l) : Fn Tryz.prog 52 [pcsB l, pcsB m] (boR (decide (l = m))) := by
  have hl0 := hl.1
  refine fn_intro Tryz.func52 rfl (by kernel_rfl) Tryz.ntmps52 (Nat.le_of_ble_eq_true rfl) ?_
  (refine w0 ?_; (repeat' (first | refine W2.mk ?_ ?_ | refine W1.mk fun hc => ?_)))
  · (refine ⟨(by first | exact .inl rfl | exact .inr rfl), res1 rfl ?_⟩)
    exact rv_bool rfl (by symm; rw [decide_eq_false_iff_not]; intro h; subst h; omega)
  have hlm : l.length = m.length := by omega
  refine AW_loopP (fun k => k ≤ l.length ∧ l.take k = m.take k) (fun k => mkSt [(0, pcsB l), (1, pcsB m), (4, bC false), (5, iC .i64 (k : Nat))] []) (fun k => l.length - k) 0 ⟨Nat.zero_le _, rfl⟩ ?_ ?_
  · exact le_auto
  · rintro k ⟨hk, hpre⟩
    by_cases hlt : k < l.length
    · have hltm : k < m.length := by omega
      have c1 := rvs_Same l[k].set m[k].set (hl.at hlt).sz
      have hEo := rgE_o l[k].rg m[k].rg
      by_cases h1 : l[k].rg = m[k].rg
      · rw [(rgE_iff _ _).2 h1] at hEo
        by_cases h2 : l[k].set = m[k].set
        · rw [decide_eq_true h2] at c1
          have hlm1 : l[k] = m[k] := by
            cases hx : l[k]; cases hy : m[k]
            rw [hx, hy] at h1 h2
            simp only at h1 h2
            rw [h1, h2]
          clear h2 h1
          (have kc1 := c1; refine w0 ?_; (repeat' (first | refine W2.mk ?_ ?_ | refine W1.mk fun hc => ?_ | ((first | apply AL_t rfl | apply AL_0 rfl | apply AD_t rfl | apply AD_0 rfl); (focus (first | (exact op_eqA (us := encRg l[k].rg) (vs := encRg m[k].rg) ⟨rfl, rfl, rfl⟩ rfl rfl rfl (by first | exact .inl ⟨rfl, rfl⟩ | exact .inr ⟨rfl, rfl⟩) rgG rfl hEo) | ((apply u_k 5; (focus rfl); first | exact u_load_bpT ⟨rfl, rfl, rfl⟩ rfl inferInstance inferInstance rfl rfl rfl rfl | exact u_load_rpT ⟨rfl, rfl, rfl⟩ rfl inferInstance inferInstance rfl rfl rfl rfl)) | (apply u_g; (focus rfl); apply op_gyes rfl rfl rfl rfl rfl; first | (exact op_eqA (us := encRg l[k].rg) (vs := encRg m[k].rg) ⟨rfl, rfl, rfl⟩ rfl rfl rfl (by first | exact .inl ⟨rfl, rfl⟩ | exact .inr ⟨rfl, rfl⟩) rgG rfl hEo) | ((apply u_k 5; (focus rfl); first | exact u_load_bpT ⟨rfl, rfl, rfl⟩ rfl inferInstance inferInstance rfl rfl rfl rfl | exact u_load_rpT ⟨rfl, rfl, rfl⟩ rfl inferInstance inferInstance rfl rfl rfl rfl))))); refine w0 ?_))); all_goals clear kc1)
          refine ⟨k + 1, ⟨by omega, ?_⟩, by omega, ?_⟩
          · rw [take_snoc' l k hlt, take_snoc' m k hltm, hpre, hlm1]
          · exact le_auto
        · rw [decide_eq_false h2] at c1
          have hd : ¬ l = m := fun h => h2 (by subst h; rfl)
          rw [decide_eq_false hd]
          clear h1 h2 hd
          (have kc1 := c1; refine w0 ?_; (repeat' (first | refine W2.mk ?_ ?_ | refine W1.mk fun hc => ?_ | ((first | apply AL_t rfl | apply AL_0 rfl | apply AD_t rfl | apply AD_0 rfl); (focus (first | (exact op_eqA (us := encRg l[k].rg) (vs := encRg m[k].rg) ⟨rfl, rfl, rfl⟩ rfl rfl rfl (by first | exact .inl ⟨rfl, rfl⟩ | exact .inr ⟨rfl, rfl⟩) rgG rfl hEo) | ((apply u_k 5; (focus rfl); first | exact u_load_bpT ⟨rfl, rfl, rfl⟩ rfl inferInstance inferInstance rfl rfl rfl rfl | exact u_load_rpT ⟨rfl, rfl, rfl⟩ rfl inferInstance inferInstance rfl rfl rfl rfl)) | (apply u_g; (focus rfl); apply op_gyes rfl rfl rfl rfl rfl; first | (exact op_eqA (us := encRg l[k].rg) (vs := encRg m[k].rg) ⟨rfl, rfl, rfl⟩ rfl rfl rfl (by first | exact .inl ⟨rfl, rfl⟩ | exact .inr ⟨rfl, rfl⟩) rgG rfl hEo) | ((apply u_k 5; (focus rfl); first | exact u_load_bpT ⟨rfl, rfl, rfl⟩ rfl inferInstance inferInstance rfl rfl rfl rfl | exact u_load_rpT ⟨rfl, rfl, rfl⟩ rfl inferInstance inferInstance rfl rfl rfl rfl))))); refine w0 ?_))); all_goals clear kc1)
          (refine ⟨(by first | exact .inl rfl | exact .inr rfl), res1 rfl ?_⟩)
          exact rv_bool rfl rfl
      · have hd : ¬ l = m := fun h => h1 (by subst h; rfl)
        rw [decide_eq_false hd]
        have he : rgE l[k].rg m[k].rg = false := by rw [← Bool.not_eq_true, rgE_iff]; exact h1
        rw [he] at hEo
        clear hd h1 he
        (have kc1 := c1; refine w0 ?_; (repeat' (first | refine W2.mk ?_ ?_ | refine W1.mk fun hc => ?_ | ((first | apply AL_t rfl | apply AL_0 rfl | apply AD_t rfl | apply AD_0 rfl); (focus (first | (exact op_eqA (us := encRg l[k].rg) (vs := encRg m[k].rg) ⟨rfl, rfl, rfl⟩ rfl rfl rfl (by first | exact .inl ⟨rfl, rfl⟩ | exact .inr ⟨rfl, rfl⟩) rgG rfl hEo) | ((apply u_k 5; (focus rfl); first | exact u_load_bpT ⟨rfl, rfl, rfl⟩ rfl inferInstance inferInstance rfl rfl rfl rfl | exact u_load_rpT ⟨rfl, rfl, rfl⟩ rfl inferInstance inferInstance rfl rfl rfl rfl)) | (apply u_g; (focus rfl); apply op_gyes rfl rfl rfl rfl rfl; first | (exact op_eqA (us := encRg l[k].rg) (vs := encRg m[k].rg) ⟨rfl, rfl, rfl⟩ rfl rfl rfl (by first | exact .inl ⟨rfl, rfl⟩ | exact .inr ⟨rfl, rfl⟩) rgG rfl hEo) | ((apply u_k 5; (focus rfl); first | exact u_load_bpT ⟨rfl, rfl, rfl⟩ rfl inferInstance inferInstance rfl rfl rfl rfl | exact u_load_rpT ⟨rfl, rfl, rfl⟩ rfl inferInstance inferInstance rfl rfl rfl rfl))))); refine w0 ?_))); all_goals clear kc1)
        (refine ⟨(by first | exact .inl rfl | exact .inr rfl), res1 rfl ?_⟩)
        exact rv_bool rfl rfl
    · rw [List.take_of_length_le (by omega), List.take_of_length_le (by omega)] at hpre
      rw [decide_eq_true hpre]
      clear hpre
      (refine w0 ?_; (repeat' (first | refine W2.mk ?_ ?_ | refine W1.mk fun hc => ?_)))
      (refine ⟨(by first | exact .inl rfl | exact .inr rfl), res1 rfl ?_⟩)
      exact rv_bool rfl rfl
def pcLg (p : Pc) : Bool := decide (p.rg.lo.size > 40) || decide (p.rg.hi.size > 40) || longKns p.set 16
def longPcs (l : List Pc) (most : Int) : Bool := decide ((l.length : Int) > most) || l.any pcLg
theorem rknow_Long (l : List Pc) (most : Int) (hl : most ≤ 1000000000000) : Fn Tryz.prog 37 [pcsB l, iC .i64 most] (boR (longPcs l most)) := by
  refine fn_intro Tryz.func37 rfl (by kernel_rfl) Tryz.ntmps37 (Nat.le_of_ble_eq_true rfl) ?_
  (refine w0 ?_; (repeat' (first | refine W2.mk ?_ ?_ | refine W1.mk fun hc => ?_)))
  · (refine ⟨(by first | exact .inl rfl | exact .inr rfl), res1 rfl ?_⟩)
    exact rv_bool rfl (by unfold longPcs; rw [decide_eq_true hc]; rfl)
  refine AW_loopP (fun k => k ≤ l.length ∧ (l.take k).any pcLg = false) (fun k => mkSt [(0, pcsB l), (1, iC .i64 most), (4, bC false), (5, iC .i64 (k : Nat))] []) (fun k => l.length - k) 0 ⟨Nat.zero_le _, by simp⟩ ?_ ?_
  · exact le_auto
  · rintro k ⟨hk, hpre⟩
    by_cases hlt : k < l.length
    · have hsn : (l.take (k + 1)).any pcLg = ((l.take k).any pcLg || pcLg l[k]) := by rw [take_snoc' l k hlt, List.any_append]; simp
      have hyes : pcLg l[k] = true → longPcs l most = true := fun hq => by unfold longPcs; rw [Bool.or_eq_true, List.any_eq_true]; exact .inr ⟨l[k], List.getElem_mem hlt, hq⟩
      have c1 := rvs_Long l[k].set 16 (by decide)
      by_cases q1 : l[k].rg.lo.size > 40
      · have hd := hyes (by simp [pcLg, q1])
        rw [hd]
        clear hd hsn hpre hyes
        (have kc1 := c1; refine w0 ?_; (repeat' (first | refine W2.mk ?_ ?_ | refine W1.mk fun hc => ?_)); all_goals clear kc1)
        (refine ⟨(by first | exact .inl rfl | exact .inr rfl), res1 rfl ?_⟩)
        exact rv_bool rfl rfl
      · by_cases q2 : l[k].rg.hi.size > 40
        · have hd := hyes (by simp [pcLg, q2])
          rw [hd]
          clear hd hsn hpre hyes
          (have kc1 := c1; refine w0 ?_; (repeat' (first | refine W2.mk ?_ ?_ | refine W1.mk fun hc => ?_)); all_goals clear kc1)
          (refine ⟨(by first | exact .inl rfl | exact .inr rfl), res1 rfl ?_⟩)
          exact rv_bool rfl rfl
        · cases q3 : longKns l[k].set 16 with
          | true =>
            have hd := hyes (by simp [pcLg, q3])
            rw [hd]
            rw [q3] at c1
            clear hd hsn hpre hyes
            (have kc1 := c1; refine w0 ?_; (repeat' (first | refine W2.mk ?_ ?_ | refine W1.mk fun hc => ?_)); all_goals clear kc1)
            (refine ⟨(by first | exact .inl rfl | exact .inr rfl), res1 rfl ?_⟩)
            exact rv_bool rfl rfl
          | false =>
            have hf : pcLg l[k] = false := by simp [pcLg, q1, q2, q3]
            rw [hpre, hf] at hsn
            rw [q3] at c1
            clear hpre hyes hf
            (have kc1 := c1; refine w0 ?_; (repeat' (first | refine W2.mk ?_ ?_ | refine W1.mk fun hc => ?_)); all_goals clear kc1)
            refine ⟨k + 1, ⟨by omega, hsn⟩, by omega, ?_⟩
            exact le_auto
    · have e : l.take k = l := List.take_of_length_le (by omega)
      rw [e] at hpre
      have hd : longPcs l most = false := by unfold longPcs; rw [hpre, Bool.or_false, decide_eq_false_iff_not]; assumption
      rw [hd]
      clear hd hpre e
      (refine w0 ?_; (repeat' (first | refine W2.mk ?_ ?_ | refine W1.mk fun hc => ?_)))
      (refine ⟨(by first | exact .inl rfl | exact .inr rfl), res1 rfl ?_⟩)
      exact rv_bool rfl rfl
theorem longPcs_sz {l : List Pc} {most : Int} (h : longPcs l most = false) : (l.length : Int) ≤ most ∧ ∀ p ∈ l, p.rg.lo.size ≤ 40 ∧ p.rg.hi.size ≤ 40 ∧ longKns p.set 16 = false := by
  unfold longPcs at h
  rw [Bool.or_eq_false_iff, decide_eq_false_iff_not] at h
  refine ⟨by omega, fun p hp => ?_⟩
  have := List.any_eq_false.1 h.2 p hp
  simp [pcLg] at this
  exact ⟨by omega, by omega, this.2⟩
end
end Go.Proofs.YtoiaegbmbhgdpaaGreat
