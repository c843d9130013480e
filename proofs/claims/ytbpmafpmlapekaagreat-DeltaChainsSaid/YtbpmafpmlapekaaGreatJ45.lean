/- Texts joined: DeL. -/
import Derived.Test.YtbpmafpmlapekaaGreatJ44
namespace Go.Proofs.YtbpmafpmlapekaaGreat
open Go.RowKit
theorem knowB_len2 {k : List Pc} (h : pcsOk k) (hf : fewK k) (hl : k.length ≤ 100) : (knowB k).length ≤ 200000000 := by
  have h1 := flat_lenC (B := pcB) 1500040 k (fun p hp => by
    have hfp := hf p hp
    obtain ⟨i, hi, rfl⟩ := List.getElem_of_mem hp
    obtain ⟨a, b⟩ := pcsOk_get h hi
    exact pcB_len a b hfp)
  have h3 := numI_len (k.length : Int) (by omega)
  unfold knowB
  rw [List.length_append]; omega
theorem knowB_nil : knowB [] = [0] := by
  unfold knowB
  rw [List.flatMap_nil, List.append_nil]
  show numI ((0 : Nat) : Int) = [0]
  rw [numI_s' (by omega) (by omega)]
  rfl
theorem applyK_put {a L : List Pc} (ha : pcsOk a) (hL : pcsOk L) (hf : fewK L) (hl : L.length ≤ 4096) : applyK a (knowB L) = (ofK (a ++ L), 0) := by
  unfold applyK
  rw [if_pos ha, rdKnow_put hL hf hl]
  simp
theorem ofK_pcsSz {k : List Pc} (hk : pcsMid k) : pcsSz (ofK k) := by
  have h1 := bldK_len (atK k) (edgK k)
  have h2 := edgK_len k
  have h3 := hk.1
  refine ⟨by unfold ofK; omega, fun p hp => ?_⟩
  obtain ⟨e, he⟩ := bldK_set _ _ p hp
  have := atK_sz hk e
  rw [he]
  exact ⟨by omega, by omega⟩
theorem applyK_sz {a : List Pc} {d : List UInt8} (hm : pcsMid (a ++ (rdKnow d).1)) : pcsSz (applyK a d).1 := by
  unfold applyK
  split
  · split
    · exact ofK_pcsSz hm
    · exact ⟨by simp, fun p hp => by simp at hp⟩
  · exact ⟨by simp, fun p hp => by simp at hp⟩
theorem mid_nil : pcsMid [] := ⟨by simp, by simp, by simp⟩
theorem long_sz {k : List Pc} (h : longPcs k 10 = false) : k.length ≤ 10 ∧ (k.flatMap Pc.set).length ≤ 160 ∧ ((k.flatMap Pc.set).flatMap Kn.runs).length ≤ 2560 := by
  obtain ⟨h1, h2⟩ := longPcs_sz h
  have hs := long_short h
  have hq : ∀ p ∈ k, p.set.length ≤ 16 := fun p hp => by
    obtain ⟨_, _, h3⟩ := h2 p hp
    have := (longKns_sz h3).1
    omega
  have : ∀ l : List Pc, (∀ p ∈ l, p.set.length ≤ 16 ∧ (p.set.flatMap Kn.runs).length ≤ 256) → (l.flatMap Pc.set).length ≤ 16 * l.length ∧ ((l.flatMap Pc.set).flatMap Kn.runs).length ≤ 256 * l.length := by
    intro l
    induction l with
    | nil => intro _; simp
    | cons p l ih =>
      intro h
      have h1 := h p List.mem_cons_self
      have h2 := ih (fun y hy => h y (List.mem_cons_of_mem _ hy))
      rw [List.flatMap_cons, List.flatMap_append, List.length_append, List.length_append, List.length_cons]; omega
  have := this k (fun p hp => ⟨hq p hp, hs p hp⟩)
  exact ⟨by omega, by omega, by omega⟩
theorem mid_app {a b : List Pc} (h1 : a.length + b.length ≤ 1000000) (h2 : (a.flatMap Pc.set).length + (b.flatMap Pc.set).length ≤ 1000000) (h3 : ((a.flatMap Pc.set).flatMap Kn.runs).length + ((b.flatMap Pc.set).flatMap Kn.runs).length ≤ 1000000) : pcsMid (a ++ b) := by
  refine ⟨by rw [List.length_append]; omega, by rw [List.flatMap_append, List.length_append]; omega, ?_⟩
  rw [List.flatMap_append, List.flatMap_append, List.length_append]; omega
section
set_option maxRecDepth 10000
set_option maxHeartbeats 8000000
theorem awake17 : Fn Tryz.prog 6 [] (boR true) := by
  have h1 := (kd_Delta [] [] mid_nil mid_nil pcsOk_nil pcsOk_nil (fun p hp => by cases hp) (fun p hp => by cases hp) (by simp) (by simp)).frz
  rw [delta_self, knowB_nil] at h1
  have h2 := kd_Apply [] [0] mid_nil (by simp) (by
    have := rdKnow_mid [0]
    exact mid_app (by simp; omega) (by simp at *; omega) (by simp at *; omega))
  have e2 : applyK [] [0] = ([], 0) := by
    rw [← knowB_nil, applyK_put pcsOk_nil pcsOk_nil (fun p hp => by cases hp) (by simp), List.append_nil, ofK_id pcsOk_nil]
  rw [e2] at h2
  have h3 := ref_BytesEq [0] [0] (by simp)
  rw [decide_eq_true rfl] at h3
  refine fn_intro Tryz.func6 rfl (by kernel_rfl) Tryz.ntmps6 (Nat.le_of_ble_eq_true rfl) ?_
  (have kc1 := h1; have kc2 := h2; have kc3 := h3; refine w0 ?_; (repeat' (first | refine W2.mk ?_ ?_ | refine W1.mk fun hc => ?_)); all_goals clear kc3 kc2 kc1)
  (refine ⟨(by first | exact .inl rfl | exact .inr rfl), res1 rfl ?_⟩)
  exact rv_bool rfl rfl
theorem lawDe_applies (a : List Pc) (d : List UInt8) : Fn Tryz.prog 4 [pcsC a, .per (bysP d)] (boR true) := by
  have h0 := awake17
  have hL := rknow_Long a 10 (by decide)
  cases hlg : longPcs a 10 with
  | true =>
    rw [hlg] at hL
    refine fn_intro Tryz.func4 rfl (by kernel_rfl) Tryz.ntmps4 (Nat.le_of_ble_eq_true rfl) ?_
    (have kc1 := h0; have kc2 := hL; refine w0 ?_; (repeat' (first | refine W2.mk ?_ ?_ | refine W1.mk fun hc => ?_)); all_goals clear kc2 kc1)
    (refine ⟨(by first | exact .inl rfl | exact .inr rfl), res1 rfl ?_⟩)
    exact rv_bool rfl rfl
  | false =>
    rw [hlg] at hL
    by_cases hd : ((d.length : Nat) : Int) > 600
    · refine fn_intro Tryz.func4 rfl (by kernel_rfl) Tryz.ntmps4 (Nat.le_of_ble_eq_true rfl) ?_
      (have kc1 := h0; have kc2 := hL; refine w0 ?_; (repeat' (first | refine W2.mk ?_ ?_ | refine W1.mk fun hc => ?_)); all_goals clear kc2 kc1)
      (refine ⟨(by first | exact .inl rfl | exact .inr rfl), res1 rfl ?_⟩)
      exact rv_bool rfl rfl
    have hs := long_sz hlg
    have hk := rdKnow_mid d
    have ha := long_mid hlg (by omega)
    have hm : pcsMid (a ++ (rdKnow d).1) := mid_app (by omega) (by omega) (by omega)
    have h1 := kd_Apply a d ha (by omega) hm
    have h2 := rkd_Apply a d ha (by omega) hm ⟨by omega, by omega, by omega⟩ (by omega) (by omega)
    have h3 := rknow_Same (applyK a d).1 (applyK a d).1 (applyK_sz hm)
    rw [decide_eq_true rfl] at h3
    generalize applyK a d = R at *
    obtain ⟨R1, R2⟩ := R
    simp only at h1 h2 h3
    clear hs hk ha hm hlg
    refine fn_intro Tryz.func4 rfl (by kernel_rfl) Tryz.ntmps4 (Nat.le_of_ble_eq_true rfl) ?_
    (have kc1 := h0; have kc2 := hL; have kc3 := h1; have kc4 := h2; have kc5 := h3; refine w0 ?_; (repeat' (first | refine W2.mk ?_ ?_ | refine W1.mk fun hc => ?_)); all_goals clear kc5 kc4 kc3 kc2 kc1)
    (refine ⟨(by first | exact .inl rfl | exact .inr rfl), res1 rfl ?_⟩)
    exact rv_bool rfl rfl
theorem lawDe_tells (a b : List Pc) : Fn Tryz.prog 3 [pcsC a, pcsC b] (boR true) := by
  have h0 := awake17
  have hL := rknow_Long a 10 (by decide)
  have hM := rknow_Long b 10 (by decide)
  cases hlg : longPcs a 10 with
  | true =>
    rw [hlg] at hL
    refine fn_intro Tryz.func3 rfl (by kernel_rfl) Tryz.ntmps3 (Nat.le_of_ble_eq_true rfl) ?_
    (have kc1 := h0; have kf1 := hL; have kf2 := hM; refine w0 ?_; (repeat' (first | refine W2.mk ?_ ?_ | refine W1.mk fun hc => ?_)); all_goals clear kf2 kf1 kc1)
    (refine ⟨(by first | exact .inl rfl | exact .inr rfl), res1 rfl ?_⟩)
    exact rv_bool rfl rfl
  | false =>
    rw [hlg] at hL
    cases hlh : longPcs b 10 with
    | true =>
      rw [hlh] at hM
      refine fn_intro Tryz.func3 rfl (by kernel_rfl) Tryz.ntmps3 (Nat.le_of_ble_eq_true rfl) ?_
      (have kc1 := h0; have kf1 := hL; have kf2 := hM; refine w0 ?_; (repeat' (first | refine W2.mk ?_ ?_ | refine W1.mk fun hc => ?_)); all_goals clear kf2 kf1 kc1)
      (refine ⟨(by first | exact .inl rfl | exact .inr rfl), res1 rfl ?_⟩)
      exact rv_bool rfl rfl
    | false =>
      rw [hlh] at hM
      have ha := long_mid hlg (by omega)
      have hb := long_mid hlh (by omega)
      by_cases hr : pcsOk a ∧ pcsOk b
      · obtain ⟨ra, rb⟩ := hr
        have sa := long_short hlg
        have sb := long_short hlh
        have za := long_sz hlg
        have zb := long_sz hlh
        have hs := lessKn_set rb ra sb sa
        have hm := lessKn_mid rb ra sb sa zb.1 za.1
        have r1 := rknow_Right a (pcsMid_sz ha) true (by simp [ra])
        have r2 := rknow_Right b (pcsMid_sz hb) true (by simp [rb])
        have h1 := (kd_Delta a b ha hb ra rb sa sb za.1 zb.1).frz
        have h2 := (rkd_Delta a b ha hb ra rb sa sb za.1 zb.1).frz
        have hf : fewK (lessKn b a) := fun p hp => (hs p hp).2.2
        have hbl := knowB_len2 (k := lessKn b a) (lessKn_ok b a).1 hf (by omega)
        have eA := applyK_put ra (lessKn_ok b a).1 hf (by omega)
        have hrd := rdKnow_put (lessKn_ok b a).1 hf (by omega)
        have h3 := kd_Apply a (knowB (lessKn b a)) ha (by omega) (by rw [hrd]; show pcsMid (a ++ lessKn b a); exact mid_app (by omega) (by omega) (by omega))
        rw [eA, delta_join] at h3
        have h4 := (kd_Delta b b hb hb rb rb sb sb zb.1 zb.1).frz
        rw [delta_self, knowB_nil] at h4
        have hab : pcsMid (a ++ b) := mid_app (by omega) (by omega) (by omega)
        have h5 := rkn_Join a b ha hb hab (by omega) (by omega)
        have h6 := rknow_Same (ofK (a ++ b)) (ofK (a ++ b)) (ofK_pcsSz hab)
        have h7 := ref_BytesEq (knowB (lessKn b a)) (knowB (lessKn b a)) (by omega)
        have h8 := ref_BytesEq [0] [0] (by simp)
        rw [decide_eq_true rfl] at h6 h7 h8
        clear eA hrd hbl hf hs hm
        generalize knowB (lessKn b a) = D at *
        generalize ofK (a ++ b) = R at *
        clear ha hb ra rb sa sb za zb hab
        refine fn_intro Tryz.func3 rfl (by kernel_rfl) Tryz.ntmps3 (Nat.le_of_ble_eq_true rfl) ?_
        (have kc1 := h0; have kf1 := hL; have kf2 := hM; have kf3 := r1; have kf4 := r2; have kf5 := h1; have kf6 := h4; have kc2 := h2; have kc3 := h3; have ko1 := h5; have kc4 := h6; have kf7 := h7; have kf8 := h8; refine w0 ?_; (repeat' (first | refine W2.mk ?_ ?_ | refine W1.mk fun hc => ?_)); all_goals clear kf8 kf7 kc4 ko1 kc3 kc2 kf6 kf5 kf4 kf3 kf2 kf1 kc1)
        (refine ⟨(by first | exact .inl rfl | exact .inr rfl), res1 rfl ?_⟩)
        exact rv_bool rfl rfl
      · have h1 := kd_Delta0 a b ha hb hr
        by_cases ra : pcsOk a
        · have r1 := rknow_Right a (pcsMid_sz ha) true (by simp [ra])
          have r2 := rknow_Right b (pcsMid_sz hb) false (by simp only [Bool.false_eq_true, false_iff]; exact fun q => hr ⟨ra, q⟩)
          clear ha hb hr ra
          refine fn_intro Tryz.func3 rfl (by kernel_rfl) Tryz.ntmps3 (Nat.le_of_ble_eq_true rfl) ?_
          (have kc1 := h0; have kf1 := hL; have kf2 := hM; have kf3 := r1; have kf4 := r2; have kc2 := h1; refine w0 ?_; (repeat' (first | refine W2.mk ?_ ?_ | refine W1.mk fun hc => ?_)); all_goals clear kc2 kf4 kf3 kf2 kf1 kc1)
          (refine ⟨(by first | exact .inl rfl | exact .inr rfl), res1 rfl ?_⟩)
          exact rv_bool rfl rfl
        · have r1 := rknow_Right a (pcsMid_sz ha) false (by simp [ra])
          clear ha hb hr ra
          refine fn_intro Tryz.func3 rfl (by kernel_rfl) Tryz.ntmps3 (Nat.le_of_ble_eq_true rfl) ?_
          (have kc1 := h0; have kf1 := hL; have kf2 := hM; have kf3 := r1; have kc2 := h1; refine w0 ?_; (repeat' (first | refine W2.mk ?_ ?_ | refine W1.mk fun hc => ?_)); all_goals clear kc2 kf3 kf2 kf1 kc1)
          (refine ⟨(by first | exact .inl rfl | exact .inr rfl), res1 rfl ?_⟩)
          exact rv_bool rfl rfl
end
end Go.Proofs.YtbpmafpmlapekaaGreat
