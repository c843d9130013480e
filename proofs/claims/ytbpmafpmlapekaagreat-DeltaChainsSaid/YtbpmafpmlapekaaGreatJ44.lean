/- Texts joined: KkR DeW. -/
import Derived.Test.YtbpmafpmlapekaaGreatJ37
import Derived.Test.YtbpmafpmlapekaaGreatJ38
import Derived.Test.YtbpmafpmlapekaaGreatJ43
namespace Go.Proofs.YtbpmafpmlapekaaGreat
open Go.RowKit
section
set_option maxRecDepth 10000
set_option maxHeartbeats 8000000
theorem kc_ReadKnow (b : List UInt8) (hb : b.length ≤ 1000000000) : Fn Tryz.prog 26 [bytesB b] (.tup2 (.own 48 4 ((rdKnow b).1.map pcP)) (inR (rdKnow b).2)) := by
  have hgood := (lis_pcSz b 0).1
  generalize hQ : rdKnow b = Q at *
  dsimp only [rdKnow, lisSt] at hQ hgood
  have h1 := r_Within b 0 0 4096
  have hn := within_rng0 (most := 4096) (by omega) b 0
  generalize withinSt 0 4096 b 0 = s at *
  obtain ⟨n, l0, e0'⟩ := s
  simp only at h1 hn hQ hgood
  obtain ⟨hn0, hn1⟩ := hn
  obtain ⟨n, rfl⟩ := Int.eq_ofNat_of_zero_le hn0
  rw [Int.toNat_natCast] at hQ hgood
  generalize hR : lsSt pcSt n [] l0 e0' = R at *
  refine fn_intro Tryz.func26 rfl (by kernel_rfl) Tryz.ntmps26 (Nat.le_of_ble_eq_true rfl) ?_
  (have kn1 := v_New b hb; have kr1 := h1; refine w0 ?_; (repeat' (first | refine W2.mk ?_ ?_ | refine W1.mk fun hc => ?_)); all_goals clear kr1 kn1)
  refine AW_le (Le_nil 6 600 48 4 rfl rfl) ?_
  refine AW_loopP (X := Nat × List Pc × List UInt8 × Int) (fun x => x.1 ≤ n ∧ x.2.1.length ≤ x.1 ∧ lsSt pcSt (n - x.1) x.2.1 x.2.2.1 x.2.2.2 = R)
    (fun x => mkSt [(4, .ptr 4 0 0), (5, iC .i64 (n : Nat)), (6, .row 600 0), (7, iC .i64 (x.1 : Nat))] [(4, .box 81 [.ptr 10 0 0]), (10, rdBox x.2.2.1 x.2.2.2), (600, .row 48 4 (x.2.1.map pcP))]) (fun x => n - x.1) (0, [], l0, e0') ⟨Nat.zero_le _, Nat.le_refl _, hR⟩ ?_ ?_
  · exact le_auto
  · clear h1 hR
    rintro ⟨i, acc, l, e⟩ ⟨hi, hacc, hR⟩
    simp only at hi hacc hR ⊢
    have hE := r_Err l e
    by_cases hst : i < n ∧ e = 0
    · obtain ⟨hlt, he⟩ := hst
      subst he
      obtain ⟨m, hm⟩ : ∃ m, n - i = m + 1 := ⟨n - i - 1, by omega⟩
      rw [hm, lsSt, if_neg (by simp)] at hR
      have h2 := kc_piece l 0
      generalize pcSt l 0 = q at *
      clear hQ hgood
      (have kr1 := hE; have km1 := (show FnMs [(1000, 10)] _ _ _ _ _ _ from h2); refine w0 ?_; (repeat' (first | refine W2.mk ?_ ?_ | refine W1.mk fun hc => ?_)); all_goals clear km1 kr1)
      refine ⟨(i + 1, acc ++ [q.1], q.2.1, q.2.2), ⟨by simp only; omega, by simp; omega, by simp only; rw [show n - (i + 1) = m by omega]; exact hR⟩, by simp only; omega, ?_⟩
      exact le_auto
    · have hR2 : R = (acc, l, e) := by
        rw [← hR]
        by_cases he : e = 0
        · rw [show n - i = 0 by omega]; rfl
        · cases n - i with
          | zero => rfl
          | succ m => rw [lsSt, if_pos he]
      subst hR2
      simp only at hQ hgood
      have h2 := r_End l e
      have h3 := know_Right acc hgood (decide (pcsOk acc)) (by simp)
      clear hgood hR
      by_cases hlt : i < n
      · have he : e ≠ 0 := fun q => hst ⟨hlt, q⟩
        have hen : endSt l e ≠ 0 := by unfold endSt; rw [if_neg (fun q => he q.1)]; exact he
        rw [finL, if_pos hen] at hQ
        subst hQ
        clear hst
        (have kr1 := hE; have kr2 := h2; have kc1 := h3; refine w0 ?_; (repeat' (first | refine W2.mk ?_ ?_ | refine W1.mk fun hc => ?_)); all_goals clear kc1 kr2 kr1)
        (refine ⟨(by first | exact .inl rfl | exact .inr rfl), res2 rfl ?_ ?_⟩)
        · exact rv_nil rfl
        · exact rv_int rfl rfl
      · clear hst
        (have kr1 := hE; have kr2 := h2; have kc1 := h3; refine w0 ?_; (repeat' (first | refine W2.mk ?_ ?_ | refine W1.mk fun hc => ?_)); all_goals clear kc1 kr2 kr1)
        · rw [finL, if_pos (by assumption)] at hQ
          subst hQ
          (refine ⟨(by first | exact .inl rfl | exact .inr rfl), res2 rfl ?_ ?_⟩)
          · exact rv_nil rfl
          · exact rv_int rfl rfl
        · rw [finL, if_neg (by simp [*]), if_neg (by simp_all)] at hQ
          subst hQ
          (refine ⟨(by first | exact .inl rfl | exact .inr rfl), res2 rfl ?_ ?_⟩)
          · exact rv_nil rfl
          · exact rv_int rfl rfl
        · rw [finL, if_neg (by simp [*]), if_pos (by simp_all)] at hQ
          subst hQ
          (refine ⟨(by first | exact .inl rfl | exact .inr rfl), res2 rfl ?_ ?_⟩)
          · exact rv_own rfl rfl rfl
          · exact rv_int rfl rfl
theorem rkc_ReadKnow (b : List UInt8) (hb : b.length ≤ 1000000000) : Fn Tryz.prog 31 [.per (bysP b)] (.tup2 (.own 48 4 ((rdKnow b).1.map pcP)) (inR (rdKnow b).2)) := by
  have hgood := (lis_pcSz b 0).1
  have hs : b <:+ b := List.suffix_refl b
  have hb' : b.length ≤ 1000000000000 := by omega
  generalize hQ : rdKnow b = Q at *
  dsimp only [rdKnow, lisSt] at hQ hgood
  have h1 := rr_Within b b 0 hs hb' 0 4096
  have hn := within_rng0 (most := 4096) (by omega) b 0
  replace hs := (withinSt_suf 0 4096 b 0).trans hs
  generalize withinSt 0 4096 b 0 = s at *
  obtain ⟨n, l0, e0'⟩ := s
  simp only at h1 hn hs hQ hgood
  obtain ⟨hn0, hn1⟩ := hn
  obtain ⟨n, rfl⟩ := Int.eq_ofNat_of_zero_le hn0
  rw [Int.toNat_natCast] at hQ hgood
  generalize hR : lsSt pcSt n [] l0 e0' = R at *
  have e0 : ((b.length - b.length : Nat) : Int) = 0 := by omega
  unfold rrBox at h1
  rw [e0] at h1
  refine fn_intro Tryz.func31 rfl (by kernel_rfl) Tryz.ntmps31 (Nat.le_of_ble_eq_true rfl) ?_
  (have kr1 := h1; refine w0 ?_; (repeat' (first | refine W2.mk ?_ ?_ | refine W1.mk fun hc => ?_)); all_goals clear kr1)
  refine AW_le (Le_nil 6 600 48 4 rfl rfl) ?_
  refine AW_loopP (X := Nat × List Pc × List UInt8 × Int) (fun x => x.1 ≤ n ∧ x.2.1.length ≤ x.1 ∧ x.2.2.1 <:+ b ∧ lsSt pcSt (n - x.1) x.2.1 x.2.2.1 x.2.2.2 = R)
    (fun x => mkSt [(4, .ptr 11 0 0), (5, iC .i64 (n : Nat)), (6, .row 600 0), (7, iC .i64 (x.1 : Nat))] [(11, rrBox b x.2.2.1 x.2.2.2), (600, .row 48 4 (x.2.1.map pcP))]) (fun x => n - x.1) (0, [], l0, e0') ⟨Nat.zero_le _, Nat.le_refl _, hs, hR⟩ ?_ ?_
  · exact le_auto
  · clear h1 hR hs
    rintro ⟨i, acc, l, e⟩ ⟨hi, hacc, hs, hR⟩
    simp only at hi hacc hs hR ⊢
    by_cases hst : i < n ∧ e = 0
    · obtain ⟨hlt, he⟩ := hst
      subst he
      obtain ⟨m, hm⟩ : ∃ m, n - i = m + 1 := ⟨n - i - 1, by omega⟩
      rw [hm, lsSt, if_neg (by simp)] at hR
      clear hQ hgood
      dsimp only [pcSt, rgSt] at hR
      have h2 := rr_Text b l 0 hs hb' 17
      replace hs := (textSt_suf 17 l 0).trans hs
      generalize textSt 17 l 0 = t at *
      have h3 := rr_Within b t.2.1 t.2.2 hs hb' 0 1
      replace hs := (withinSt_suf 0 1 t.2.1 t.2.2).trans hs
      generalize withinSt 0 1 t.2.1 t.2.2 = o at *
      by_cases ho : o.1 = 1
      · rw [if_pos (by simp [ho])] at hR
        rw [ho] at h3
        dsimp only at hR
        have h5 := (rkc_ReadIn b o.2.1 o.2.2 hs hb').frz3
        replace hs := (lisSt_suf knSt_suf 16 o.2.1 o.2.2).trans hs
        generalize lisSt knSt 16 o.2.1 o.2.2 = s at *
        (have kr1 := h2; have kr2 := h3; have kr3 := h5; refine w0 ?_; (repeat' (first | refine W2.mk ?_ ?_ | refine W1.mk fun hc => ?_)); all_goals clear kr3 kr2 kr1)
        refine ⟨(i + 1, acc ++ [⟨⟨ba t.1, ByteArray.mk #[], true⟩, s.1⟩], s.2.1, s.2.2), ⟨by simp only; omega, by simp; omega, hs, by simp only; rw [show n - (i + 1) = m by omega]; exact hR⟩, by simp only; omega, ?_⟩
        exact le_auto
      · rw [if_neg (by simp [ho])] at hR
        dsimp only at hR
        have h4 := rr_Text b o.2.1 o.2.2 hs hb' 17
        replace hs := (textSt_suf 17 o.2.1 o.2.2).trans hs
        generalize textSt 17 o.2.1 o.2.2 = h at *
        have h5 := (rkc_ReadIn b h.2.1 h.2.2 hs hb').frz3
        replace hs := (lisSt_suf knSt_suf 16 h.2.1 h.2.2).trans hs
        generalize lisSt knSt 16 h.2.1 h.2.2 = s at *
        (have kr1 := h2; have kr2 := h3; have kr3 := h4; have kr4 := h5; refine w0 ?_; (repeat' (first | refine W2.mk ?_ ?_ | refine W1.mk fun hc => ?_)); all_goals clear kr4 kr3 kr2 kr1)
        refine ⟨(i + 1, acc ++ [⟨⟨ba t.1, ba h.1, false⟩, s.1⟩], s.2.1, s.2.2), ⟨by simp only; omega, by simp; omega, hs, by simp only; rw [show n - (i + 1) = m by omega]; exact hR⟩, by simp only; omega, ?_⟩
        (refine Le_mk ?_ ?_; (focus ((repeat (first | exact AllG.nil | (refine AllG.cons ?_ ?_; rotate_left))); (all_goals try (first | rfl | (refine eqI ?_; first | omega | (simp; done) | (simp; omega)) | (refine eqBo ?_; first | (simp; done) | (simp [*]; done)))))); (focus ((repeat (first | exact AllB.nil | (refine AllB.cons ?_ ?_; rotate_left))); (all_goals try (first | rfl | (refine eqRw ?_; (rw [List.map_append] <;> rfl); done) | (refine eqMix ?_; (rw [List.map_append] <;> rfl); done))))))
        show Blk.row _ _ (acc.map pcP ++ [[_, _, rawP (.bool (o.1 == 1)), _]]) = _
        rw [show (o.1 == 1) = false by simpa using ho, List.map_append]
        rfl
    · have hR2 : R = (acc, l, e) := by
        rw [← hR]
        by_cases he : e = 0
        · rw [show n - i = 0 by omega]; rfl
        · cases n - i with
          | zero => rfl
          | succ m => rw [lsSt, if_pos he]
      subst hR2
      simp only at hQ hgood
      have hD := rr_End b l e hs
      have h3 := rknow_Right acc hgood (decide (pcsOk acc)) (by simp)
      clear hgood hR
      by_cases hlt : i < n
      · have he : e ≠ 0 := fun q => hst ⟨hlt, q⟩
        have hen : endSt l e ≠ 0 := by unfold endSt; rw [if_neg (fun q => he q.1)]; exact he
        rw [finL, if_pos hen] at hQ
        subst hQ
        clear hst
        (have kr1 := hD; have kc1 := h3; refine w0 ?_; (repeat' (first | refine W2.mk ?_ ?_ | refine W1.mk fun hc => ?_)); all_goals clear kc1 kr1)
        (refine ⟨(by first | exact .inl rfl | exact .inr rfl), res2 rfl ?_ ?_⟩)
        · exact rv_nil rfl
        · exact rv_int rfl rfl
      · clear hst
        (have kr1 := hD; have kc1 := h3; refine w0 ?_; (repeat' (first | refine W2.mk ?_ ?_ | refine W1.mk fun hc => ?_)); all_goals clear kc1 kr1)
        · rw [finL, if_pos (by assumption)] at hQ
          subst hQ
          (refine ⟨(by first | exact .inl rfl | exact .inr rfl), res2 rfl ?_ ?_⟩)
          · exact rv_nil rfl
          · exact rv_int rfl rfl
        · rw [finL, if_neg (by simp [*]), if_neg (by simp_all)] at hQ
          subst hQ
          (refine ⟨(by first | exact .inl rfl | exact .inr rfl), res2 rfl ?_ ?_⟩)
          · exact rv_nil rfl
          · exact rv_int rfl rfl
        · rw [finL, if_neg (by simp [*]), if_pos (by simp_all)] at hQ
          subst hQ
          (refine ⟨(by first | exact .inl rfl | exact .inr rfl), res2 rfl ?_ ?_⟩)
          · exact rv_own rfl rfl rfl
          · exact rv_int rfl rfl
end
end Go.Proofs.YtbpmafpmlapekaaGreat
namespace Go.Proofs.YtbpmafpmlapekaaGreat
open Go.RowKit
section
set_option maxRecDepth 10000
set_option maxHeartbeats 8000000
theorem rkn_Join (a b : List Pc) (ha : pcsMid a) (hb : pcsMid b) (hab : pcsMid (a ++ b)) (la : a.length ≤ 500000) (lb : b.length ≤ 500000) : Fn Tryz.prog 14 [pcsB a, pcsB b] (ownPc (ofK (a ++ b))) := by
  have h := rkn_Make 1 a b (atK (a ++ b)) la lb (fun s hs => rkn_What1 a b s ha hb (edgK_sz hs)) (fun s _ => by
    have := atK_sz hab s
    exact knsTot.sz ⟨by omega, by omega⟩)
  rw [show bldK (atK (a ++ b)) (edgK (a ++ b)) = ofK (a ++ b) from rfl] at h
  generalize ofK (a ++ b) = R at *
  refine fn_intro Tryz.func14 rfl (by kernel_rfl) Tryz.ntmps14 (Nat.le_of_ble_eq_true rfl) ?_
  (have kc1 := h; refine w0 ?_; (repeat' (first | refine W2.mk ?_ ?_ | refine W1.mk fun hc => ?_)); all_goals clear kc1)
  (refine ⟨(by first | exact .inl rfl | exact .inr rfl), res1 rfl ?_⟩)
  exact rv_own rfl rfl rfl
theorem rkn_Less (a b : List Pc) (ha : pcsMid a) (hb : pcsMid b) (la : a.length ≤ 500000) (lb : b.length ≤ 500000) : Fn Tryz.prog 29 [pcsB a, pcsB b] (ownPc (lessKn a b)) := by
  have h := rkn_Make 2 a b (fun s => vsLess (atK a s) (atK b s)) la lb (fun s hs => rkn_What2 a b s ha hb (edgK_sz hs)) (fun s _ => by
    have := vsLess_sz ha hb s
    exact knsTot.sz ⟨by omega, by omega⟩)
  rw [show bldK (fun s => vsLess (atK a s) (atK b s)) (edgK (a ++ b)) = lessKn a b from rfl] at h
  generalize lessKn a b = R at *
  refine fn_intro Tryz.func29 rfl (by kernel_rfl) Tryz.ntmps29 (Nat.le_of_ble_eq_true rfl) ?_
  (have kc1 := h; refine w0 ?_; (repeat' (first | refine W2.mk ?_ ?_ | refine W1.mk fun hc => ?_)); all_goals clear kc1)
  (refine ⟨(by first | exact .inl rfl | exact .inr rfl), res1 rfl ?_⟩)
  exact rv_own rfl rfl rfl
theorem rkn_Of (a : List Pc) (ha : pcsMid a) (la : a.length ≤ 500000) : Fn Tryz.prog 17 [pcsB a] (ownPc (ofK a)) := by
  have h := rkn_Make 1 a [] (atK (a ++ [])) la (by simp) (fun s hs => rkn_What1 a [] s ha ⟨by simp, by simp, by simp⟩ (edgK_sz hs)) (fun s _ => by
    have := atK_sz (k := a ++ []) (by rw [List.append_nil]; exact ha) s
    exact knsTot.sz ⟨by omega, by omega⟩)
  rw [show bldK (atK (a ++ [])) (edgK (a ++ [])) = ofK (a ++ []) from rfl, List.append_nil] at h
  generalize ofK a = R at *
  refine fn_intro Tryz.func17 rfl (by kernel_rfl) Tryz.ntmps17 (Nat.le_of_ble_eq_true rfl) ?_
  (have kc1 := h; refine w0 ?_; (repeat' (first | refine W2.mk ?_ ?_ | refine W1.mk fun hc => ?_)); all_goals clear kc1)
  (refine ⟨(by first | exact .inl rfl | exact .inr rfl), res1 rfl ?_⟩)
  exact rv_own rfl rfl rfl
/-- the delta between any two -/
theorem kd_Delta (a b : List Pc) (ha : pcsMid a) (hb : pcsMid b) (ra : pcsOk a) (rb : pcsOk b) (sa : shortK a) (sb : shortK b) (la : a.length ≤ 10) (lb : b.length ≤ 10) :
    Fn Tryz.prog 8 [pcsC a, pcsC b] (.tup2 (ownB (knowB (lessKn b a))) (inR 0)) := by
  have h1 := know_Right a (pcsMid_sz ha) true (by simp [ra])
  have h2 := know_Right b (pcsMid_sz hb) true (by simp [rb])
  have h3 := kn_Less b a hb ha (by omega)
  have hs := lessKn_set rb ra sb sa
  have hm := lessKn_mid rb ra sb sa lb la
  have h4 := kc_Know (lessKn b a) ⟨by omega, fun p hp => ⟨by have := (hs p hp).1; omega, by have := (hs p hp).2.1; omega⟩⟩ (fun p hp => (hs p hp).2.2) (by omega) true (by simp [(lessKn_ok b a).1])
  simp only [if_true] at h4
  generalize lessKn b a = L at *
  generalize knowB L = B at *
  clear ha hb ra rb sa sb hs
  refine fn_intro Tryz.func8 rfl (by kernel_rfl) Tryz.ntmps8 (Nat.le_of_ble_eq_true rfl) ?_
  (have kc1 := h1; have kc2 := h2; have kc3 := h3; have kc4 := h4; refine w0 ?_; (repeat' (first | refine W2.mk ?_ ?_ | refine W1.mk fun hc => ?_)); all_goals clear kc4 kc3 kc2 kc1)
  (refine ⟨(by first | exact .inl rfl | exact .inr rfl), res2 rfl ?_ ?_⟩)
  · exact rv_own rfl rfl rfl
  · exact rv_int rfl rfl
theorem kd_Delta0 (a b : List Pc) (ha : pcsMid a) (hb : pcsMid b) (h : ¬ (pcsOk a ∧ pcsOk b)) :
    Fn Tryz.prog 8 [pcsC a, pcsC b] (.tup2 (.per (bysP [])) (inR 2)) := by
  by_cases ra : pcsOk a
  · have h1 := know_Right a (pcsMid_sz ha) true (by simp [ra])
    have h2 := know_Right b (pcsMid_sz hb) false (by simp only [Bool.false_eq_true, false_iff]; exact fun q => h ⟨ra, q⟩)
    clear ha hb ra h
    refine fn_intro Tryz.func8 rfl (by kernel_rfl) Tryz.ntmps8 (Nat.le_of_ble_eq_true rfl) ?_
    (have kc1 := h1; have kc2 := h2; refine w0 ?_; (repeat' (first | refine W2.mk ?_ ?_ | refine W1.mk fun hc => ?_)); all_goals clear kc2 kc1)
    (refine ⟨(by first | exact .inl rfl | exact .inr rfl), res2 rfl ?_ ?_⟩)
    · exact rv_nill rfl
    · exact rv_int rfl rfl
  · have h1 := know_Right a (pcsMid_sz ha) false (by simp [ra])
    clear ha hb ra h
    refine fn_intro Tryz.func8 rfl (by kernel_rfl) Tryz.ntmps8 (Nat.le_of_ble_eq_true rfl) ?_
    (have kc1 := h1; refine w0 ?_; (repeat' (first | refine W2.mk ?_ ?_ | refine W1.mk fun hc => ?_)); all_goals clear kc1)
    (refine ⟨(by first | exact .inl rfl | exact .inr rfl), res2 rfl ?_ ?_⟩)
    · exact rv_nill rfl
    · exact rv_int rfl rfl
theorem rkd_Delta (a b : List Pc) (ha : pcsMid a) (hb : pcsMid b) (ra : pcsOk a) (rb : pcsOk b) (sa : shortK a) (sb : shortK b) (la : a.length ≤ 10) (lb : b.length ≤ 10) :
    Fn Tryz.prog 12 [pcsB a, pcsB b] (ownB (knowB (lessKn b a))) := by
  have h3 := rkn_Less b a hb ha (by omega) (by omega)
  have hs := lessKn_set rb ra sb sa
  have hm := lessKn_mid rb ra sb sa lb la
  have h4 := rkc_Know (lessKn b a) (fun p hp => (hs p hp).2.2) (by omega) (lessKn_ok b a).1
  generalize lessKn b a = L at *
  generalize knowB L = B at *
  clear ha hb ra rb sa sb hs
  refine fn_intro Tryz.func12 rfl (by kernel_rfl) Tryz.ntmps12 (Nat.le_of_ble_eq_true rfl) ?_
  (have kc1 := h3; have kc2 := h4; refine w0 ?_; (repeat' (first | refine W2.mk ?_ ?_ | refine W1.mk fun hc => ?_)); all_goals clear kc2 kc1)
  (refine ⟨(by first | exact .inl rfl | exact .inr rfl), res1 rfl ?_⟩)
  exact rv_own rfl rfl rfl
theorem kd_Apply (a : List Pc) (d : List UInt8) (ha : pcsMid a) (hd : d.length ≤ 1000000000) (hm : pcsMid (a ++ (rdKnow d).1)) : Fn Tryz.prog 10 [pcsC a, bytesB d] (.tup2 (.per (pcsP (applyK a d).1)) (inR (applyK a d).2)) := by
  unfold applyK
  by_cases ra : pcsOk a
  · rw [if_pos ra]
    have h1 := know_Right a (pcsMid_sz ha) true (by simp [ra])
    have h2 := kc_ReadKnow d hd
    by_cases e : (rdKnow d).2 = 0
    · rw [if_pos e]
      rw [e] at h2
      have h3 := kn_Join [a, (rdKnow d).1] (by simp) (by simpa using hm)
      rw [show [a, (rdKnow d).1].flatten = a ++ (rdKnow d).1 by simp] at h3
      have h2 := h2.frz
      generalize ofK (a ++ (rdKnow d).1) = R at *
      generalize (rdKnow d).1 = K at *
      clear ha hm ra e
      refine fn_intro Tryz.func10 rfl (by kernel_rfl) Tryz.ntmps10 (Nat.le_of_ble_eq_true rfl) ?_
      (have kc1 := h1; have kc2 := h2; have ko1 := h3; refine w0 ?_; (repeat' (first | refine W2.mk ?_ ?_ | refine W1.mk fun hc => ?_)); all_goals clear ko1 kc2 kc1)
      refine ⟨.inl rfl, ResO_le (Le_fz 22 _ 48 4 rfl rfl) (res2 rfl (rv_lstM rfl rfl) (rv_int rfl rfl))⟩
    · rw [if_neg e]
      have h2 := h2.frz
      generalize (rdKnow d).2 = E at *
      generalize (rdKnow d).1 = K at *
      clear ha hm ra
      refine fn_intro Tryz.func10 rfl (by kernel_rfl) Tryz.ntmps10 (Nat.le_of_ble_eq_true rfl) ?_
      (have kc1 := h1; have kc2 := h2; refine w0 ?_; (repeat' (first | refine W2.mk ?_ ?_ | refine W1.mk fun hc => ?_)); all_goals clear kc2 kc1)
      (refine ⟨(by first | exact .inl rfl | exact .inr rfl), res2 rfl ?_ ?_⟩)
      · exact rv_nill rfl
      · exact rv_int rfl rfl
  · rw [if_neg ra]
    have h1 := know_Right a (pcsMid_sz ha) false (by simp [ra])
    clear ha hm ra
    refine fn_intro Tryz.func10 rfl (by kernel_rfl) Tryz.ntmps10 (Nat.le_of_ble_eq_true rfl) ?_
    (have kc1 := h1; refine w0 ?_; (repeat' (first | refine W2.mk ?_ ?_ | refine W1.mk fun hc => ?_)); all_goals clear kc1)
    (refine ⟨(by first | exact .inl rfl | exact .inr rfl), res2 rfl ?_ ?_⟩)
    · exact rv_nill rfl
    · exact rv_int rfl rfl
theorem rkd_Apply (a : List Pc) (d : List UInt8) (ha : pcsMid a) (hd : d.length ≤ 1000000000) (hm : pcsMid (a ++ (rdKnow d).1)) (hk : pcsMid (rdKnow d).1) (la : a.length ≤ 500000) (lk : (rdKnow d).1.length ≤ 500000) : Fn Tryz.prog 15 [pcsB a, .per (bysP d)] (.tup2 (.per (pcsP (applyK a d).1)) (inR (applyK a d).2)) := by
  unfold applyK
  by_cases ra : pcsOk a
  · rw [if_pos ra]
    have h1 := rknow_Right a (pcsMid_sz ha) true (by simp [ra])
    have h2 := (rkc_ReadKnow d hd).frz
    by_cases e : (rdKnow d).2 = 0
    · rw [if_pos e]
      rw [e] at h2
      have h3 := rkn_Join a (rdKnow d).1 ha hk hm la lk
      generalize ofK (a ++ (rdKnow d).1) = R at *
      generalize (rdKnow d).1 = K at *
      clear ha hm ra e hk
      refine fn_intro Tryz.func15 rfl (by kernel_rfl) Tryz.ntmps15 (Nat.le_of_ble_eq_true rfl) ?_
      (have kc1 := h1; have kc2 := h2; have ko1 := h3; refine w0 ?_; (repeat' (first | refine W2.mk ?_ ?_ | refine W1.mk fun hc => ?_)); all_goals clear ko1 kc2 kc1)
      refine ⟨.inl rfl, ResO_le (Le_fz 21 _ 48 4 rfl rfl) (res2 rfl (rv_lstM rfl rfl) (rv_int rfl rfl))⟩
    · rw [if_neg e]
      generalize (rdKnow d).2 = E at *
      generalize (rdKnow d).1 = K at *
      clear ha hm ra hk
      refine fn_intro Tryz.func15 rfl (by kernel_rfl) Tryz.ntmps15 (Nat.le_of_ble_eq_true rfl) ?_
      (have kc1 := h1; have kc2 := h2; refine w0 ?_; (repeat' (first | refine W2.mk ?_ ?_ | refine W1.mk fun hc => ?_)); all_goals clear kc2 kc1)
      (refine ⟨(by first | exact .inl rfl | exact .inr rfl), res2 rfl ?_ ?_⟩)
      · exact rv_nill rfl
      · exact rv_int rfl rfl
  · rw [if_neg ra]
    have h1 := rknow_Right a (pcsMid_sz ha) false (by simp [ra])
    clear ha hm ra hk
    refine fn_intro Tryz.func15 rfl (by kernel_rfl) Tryz.ntmps15 (Nat.le_of_ble_eq_true rfl) ?_
    (have kc1 := h1; refine w0 ?_; (repeat' (first | refine W2.mk ?_ ?_ | refine W1.mk fun hc => ?_)); all_goals clear kc1)
    (refine ⟨(by first | exact .inl rfl | exact .inr rfl), res2 rfl ?_ ?_⟩)
    · exact rv_nill rfl
    · exact rv_int rfl rfl
end
end Go.Proofs.YtbpmafpmlapekaaGreat
