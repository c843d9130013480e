/- Texts joined: MsF MsG MsH. -/
import Derived.Test.YtoiaegbmbhgdpaaGreatJ41
import Derived.Test.YtoiaegbmbhgdpaaGreatJ35
namespace Go.Proofs.YtoiaegbmbhgdpaaGreat
open Go.RowKit
section
set_option maxRecDepth 10000
set_option maxHeartbeats 8000000
theorem ms_fill (m : Msg) (ps : List (List UInt8)) (hp : ps.length = ptsN m.kind) (hs : ∀ p ∈ ps, p.length ≤ 1000000000) (h0 : m.sum = 0) :
    ∃ m', FnM Tryz.prog 50 [.ptr 1000 0 0, ptsC ps] [(1000, msBox m)] (iC .i64 (rdPs m ps).2) [(1000, msBox m')] ∧ ((rdPs m ps).2 = 0 → m' = (rdPs m ps).1) := by
  by_cases c1 : m.kind = 1
  · rw [ptsN, if_pos c1] at hp
    obtain ⟨x, y, z, rfl⟩ : ∃ x y z, ps = [x, y, z] := by
      match ps, hp with
      | [x, y, z], _ => exact ⟨x, y, z, rfl⟩
    have a1 := (fcode_ReadRanges x (hs x (by simp))).frz
    have a2 := (kc_ReadKnow y (hs y (by simp))).frz
    clear hs hp
    unfold rdPs
    simp only [if_pos c1, List.getD_cons_zero, List.getD_cons_succ]
    generalize rdRgs x = f at *
    generalize rdKnow y = g at *
    obtain ⟨f1, f2⟩ := f
    obtain ⟨g1, g2⟩ := g
    by_cases hf : f2 = 0
    · subst hf
      refine ⟨{ m with flt := f1, know := g1, there := z }, ?_, fun h => ?_⟩
      · have e : (if (0 : Int) ≠ 0 then ((m, (0 : Int)) : Msg × Int) else if g2 ≠ 0 then (m, g2) else ({ m with flt := f1, know := g1, there := z }, 0)).2 = g2 := by
          rw [if_neg (by simp)]
          by_cases hg : g2 = 0
          · rw [if_neg (by simp [hg]), hg]
          · rw [if_pos hg]
        simp only at e ⊢
        rw [e]
        clear e h0
        refine fnm_intro Tryz.func50 rfl (by kernel_rfl) Tryz.ntmps50 (Nat.le_of_ble_eq_true rfl) ?_
        (have kc1 := a1; have kc2 := a2; refine w0 ?_; (repeat' (first | refine W2.mk ?_ ?_ | refine W1.mk fun hc => ?_)); all_goals clear kc2 kc1)
        (refine ⟨(by first | exact .inl rfl | exact .inr rfl), resM1 [(1000, 1000)] rfl rfl ?_ ?_⟩; (focus (repeat (first | exact AllX.nil | (refine AllX.cons rfl ?_ ?_; (focus first | rfl | skip))))))
        exact rvm_int rfl rfl
      · simp only at h ⊢
        rw [if_neg (by simp)] at h ⊢
        by_cases hg : g2 = 0
        · rw [if_neg (by simp [hg])]
        · rw [if_pos hg] at h; exact absurd h hg
    · refine ⟨{ m with flt := f1, there := z }, ?_, fun h => ?_⟩
      · simp only
        rw [if_pos hf]
        clear h0
        refine fnm_intro Tryz.func50 rfl (by kernel_rfl) Tryz.ntmps50 (Nat.le_of_ble_eq_true rfl) ?_
        (have kc1 := a1; have kc2 := a2; refine w0 ?_; (repeat' (first | refine W2.mk ?_ ?_ | refine W1.mk fun hc => ?_)); all_goals clear kc2 kc1)
        (refine ⟨(by first | exact .inl rfl | exact .inr rfl), resM1 [(1000, 1000)] rfl rfl ?_ ?_⟩; (focus (repeat (first | exact AllX.nil | (refine AllX.cons rfl ?_ ?_; (focus first | rfl | skip))))))
        exact rvm_int rfl rfl
      · simp only at h
        rw [if_pos hf] at h; exact absurd h hf
  by_cases c4 : m.kind = 4
  · rw [ptsN, if_neg c1, if_pos (.inl c4)] at hp
    obtain ⟨x, y, rfl⟩ : ∃ x y, ps = [x, y] := by
      match ps, hp with
      | [x, y], _ => exact ⟨x, y, rfl⟩
    have a1 := (fcode_ReadRanges x (hs x (by simp))).frz
    have hy := hs y (by simp)
    clear hs hp
    unfold rdPs
    simp only [if_neg c1, if_pos c4, List.getD_cons_zero, List.getD_cons_succ]
    generalize rdRgs x = f at *
    obtain ⟨f1, f2⟩ := f
    by_cases hf : f2 = 0
    · subst hf
      simp only
      rw [if_neg (by simp)]
      by_cases hb : f1.length = 1 ∧ y.length = 8
      · rw [if_pos hb]
        obtain ⟨b1, b2⟩ := hb
        obtain ⟨r, rfl⟩ : ∃ r, f1 = [r] := by
          match f1, b1 with
          | [r], _ => exact ⟨r, rfl⟩
        refine ⟨{ m with rg := r, sum := numL y }, ?_, fun _ => rfl⟩
        simp only
        refine fnm_intro Tryz.func50 rfl (by kernel_rfl) Tryz.ntmps50 (Nat.le_of_ble_eq_true rfl) ?_
        (have kc1 := a1; refine w0 ?_; (repeat' (first | refine W2.mk ?_ ?_ | refine W1.mk fun hc => ?_)); all_goals clear kc1)
        refine AW_loopP (X := Nat) (fun i => i ≤ 8) (fun i => mkSt [(0, .ptr 1000 0 0), (5, iC .i64 0), (76, .per (bysP y)), (77, iC .i64 (y.length : Nat)), (78, iC .i64 (i : Nat))] [(1000, msBox { m with rg := r, sum := numL (y.take i) })]) (fun i => 8 - i) 0 (by omega) ?_ ?_
        · rw [show numL (y.take 0) = m.sum by rw [h0]; rfl]
          exact le_auto
        · intro i hi
          by_cases hlt : i < 8
          · have hil : i < y.length := by omega
            have hS := numL_take hil
            have hlo := numL_lt (y.take i)
            rw [List.length_take, show min i y.length = i by omega] at hlo
            have hz := or_step hlt hlo y[i]
            rw [← hS] at hz
            have hw := wrap_u64_byte y[i]
            have hz1 : IntKind.u64.wrap (IntKind.u64.wrap (y[i].toNat : Int) * 2 ^ min (8 * (i : Int)).toNat IntKind.u64.bits) = IntKind.u64.wrap ((y[i].toNat : Int) * 2 ^ min (8 * (i : Int)).toNat IntKind.u64.bits) := by rw [wrap_u64_byte]
            generalize IntKind.u64.wrap ((y[i].toNat : Int) * 2 ^ min (8 * (i : Int)).toNat IntKind.u64.bits) = Z at *
            generalize numL (y.take i) = s at *
            generalize hs' : numL (y.take (i + 1)) = s' at *
            clear hS hlo a1
            (refine w0 ?_; (repeat' (first | refine W2.mk ?_ ?_ | refine W1.mk fun hc => ?_ | ((first | apply AL_t rfl | apply AL_0 rfl | apply AD_t rfl | apply AD_0 rfl); (focus (first | ((exact op_shl ⟨rfl, rfl, rfl⟩ rfl rfl rfl (by omega) hz1)) | ((exact op_or ⟨rfl, rfl, rfl⟩ rfl rfl rfl hz)) | (apply u_g; (focus rfl); apply op_gyes rfl rfl rfl rfl rfl; first | ((exact op_shl ⟨rfl, rfl, rfl⟩ rfl rfl rfl (by omega) hz1)) | ((exact op_or ⟨rfl, rfl, rfl⟩ rfl rfl rfl hz))))); refine w0 ?_))))
            refine ⟨i + 1, by omega, by omega, ?_⟩
            rw [hs']
            exact le_auto
          · rw [List.take_of_length_le (by omega)]
            clear a1
            (refine w0 ?_; (repeat' (first | refine W2.mk ?_ ?_ | refine W1.mk fun hc => ?_)))
            (refine ⟨(by first | exact .inl rfl | exact .inr rfl), resM1 [(1000, 1000)] rfl rfl ?_ ?_⟩; (focus (repeat (first | exact AllX.nil | (refine AllX.cons rfl ?_ ?_; (focus first | rfl | skip))))))
            exact rvm_int rfl rfl
      · rw [if_neg hb]
        refine ⟨m, ?_, fun h => absurd h (by simp)⟩
        clear h0
        refine fnm_intro Tryz.func50 rfl (by kernel_rfl) Tryz.ntmps50 (Nat.le_of_ble_eq_true rfl) ?_
        (have kc1 := a1; refine w0 ?_; (repeat' (first | refine W2.mk ?_ ?_ | refine W1.mk fun hc => ?_)); all_goals clear kc1)
        all_goals first | (exfalso; apply hb; constructor <;> first | omega | (simp only [List.getElem_cons_succ, List.getElem_cons_zero] at *; omega)) | skip
        all_goals (refine ⟨(by first | exact .inl rfl | exact .inr rfl), resM1 [(1000, 1000)] rfl rfl ?_ ?_⟩; (focus (repeat (first | exact AllX.nil | (refine AllX.cons rfl ?_ ?_; (focus first | rfl | skip))))))
        all_goals exact rvm_int rfl rfl
    · simp only
      rw [if_pos hf]
      refine ⟨{ m with sum := (orS y 0 0).toNat }, ?_, fun h => absurd h hf⟩
      have hF := orS_nn y 0 0 (Int.le_refl 0)
      generalize hFe : orS y 0 0 = F at *
      refine fnm_intro Tryz.func50 rfl (by kernel_rfl) Tryz.ntmps50 (Nat.le_of_ble_eq_true rfl) ?_
      (have kc1 := a1; refine w0 ?_; (repeat' (first | refine W2.mk ?_ ?_ | refine W1.mk fun hc => ?_)); all_goals clear kc1)
      refine AW_loopP (X := Nat × Nat) (fun x => x.1 ≤ y.length ∧ orS (y.drop x.1) x.1 (x.2 : Int) = F) (fun x => mkSt [(0, .ptr 1000 0 0), (5, iC .i64 f2), (76, .per (bysP y)), (77, iC .i64 (y.length : Nat)), (78, iC .i64 (x.1 : Nat))] [(1000, msBox { m with sum := x.2 })]) (fun x => y.length - x.1) (0, 0) ⟨Nat.zero_le _, hFe⟩ ?_ ?_
      · rw [show (((0, 0) : Nat × Nat)).2 = m.sum from h0.symm]
        exact le_auto
      · rintro ⟨i, s⟩ ⟨g1, g2⟩
        simp only at g1 g2 ⊢
        by_cases hil : i < y.length
        · rw [List.drop_eq_getElem_cons hil, orS] at g2
          have hz1 : IntKind.u64.wrap (IntKind.u64.wrap (y[i].toNat : Int) * 2 ^ min (8 * (i : Int)).toNat IntKind.u64.bits) = IntKind.u64.wrap ((y[i].toNat : Int) * 2 ^ min (8 * (i : Int)).toNat IntKind.u64.bits) := by rw [wrap_u64_byte]
          generalize IntKind.u64.wrap ((y[i].toNat : Int) * 2 ^ min (8 * (i : Int)).toNat IntKind.u64.bits) = Z at *
          obtain ⟨s', hz⟩ : ∃ s' : Nat, bits .or .u64 (s : Int) Z = (s' : Int) := ⟨_, (Int.toNat_of_nonneg (wrapu_nn _)).symm⟩
          rw [hz] at g2
          clear a1 hFe hF
          (refine w0 ?_; (repeat' (first | refine W2.mk ?_ ?_ | refine W1.mk fun hc => ?_ | ((first | apply AL_t rfl | apply AL_0 rfl | apply AD_t rfl | apply AD_0 rfl); (focus (first | ((exact op_shl ⟨rfl, rfl, rfl⟩ rfl rfl rfl (by omega) hz1)) | ((exact op_or ⟨rfl, rfl, rfl⟩ rfl rfl rfl hz)) | (apply u_g; (focus rfl); apply op_gyes rfl rfl rfl rfl rfl; first | ((exact op_shl ⟨rfl, rfl, rfl⟩ rfl rfl rfl (by omega) hz1)) | ((exact op_or ⟨rfl, rfl, rfl⟩ rfl rfl rfl hz))))); refine w0 ?_))))
          refine ⟨(i + 1, s'), ⟨by simp only; omega, g2⟩, by simp only; omega, ?_⟩
          exact le_auto
        · rw [List.drop_of_length_le (by omega)] at g2
          have g2 : (s : Int) = F := g2
          have e : F.toNat = s := by omega
          rw [e]
          clear a1 hFe hF g2
          (refine w0 ?_; (repeat' (first | refine W2.mk ?_ ?_ | refine W1.mk fun hc => ?_)))
          (refine ⟨(by first | exact .inl rfl | exact .inr rfl), resM1 [(1000, 1000)] rfl rfl ?_ ?_⟩; (focus (repeat (first | exact AllX.nil | (refine AllX.cons rfl ?_ ?_; (focus first | rfl | skip))))))
          exact rvm_int rfl rfl
  by_cases c5 : m.kind = 5
  · rw [ptsN, if_neg c1, if_pos (.inr c5)] at hp
    obtain ⟨x, y, rfl⟩ : ∃ x y, ps = [x, y] := by
      match ps, hp with
      | [x, y], _ => exact ⟨x, y, rfl⟩
    have a1 := (icode_ReadItems x (hs x (by simp))).frz
    have a2 := (kc_ReadKnow y (hs y (by simp))).frz
    clear hs hp
    unfold rdPs
    simp only [if_neg c1, if_neg c4, if_pos c5, List.getD_cons_zero, List.getD_cons_succ]
    generalize rdItems x = f at *
    generalize rdKnow y = g at *
    obtain ⟨f1, f2⟩ := f
    obtain ⟨g1, g2⟩ := g
    by_cases hf : f2 = 0
    · subst hf
      refine ⟨{ m with its := f1, know := g1 }, ?_, fun h => ?_⟩
      · have e : (if (0 : Int) ≠ 0 then ((m, (0 : Int)) : Msg × Int) else if g2 ≠ 0 then (m, g2) else ({ m with its := f1, know := g1 }, 0)).2 = g2 := by
          rw [if_neg (by simp)]
          by_cases hg : g2 = 0
          · rw [if_neg (by simp [hg]), hg]
          · rw [if_pos hg]
        simp only at e ⊢
        rw [e]
        clear e h0
        refine fnm_intro Tryz.func50 rfl (by kernel_rfl) Tryz.ntmps50 (Nat.le_of_ble_eq_true rfl) ?_
        (have kc1 := a1; have kc2 := a2; refine w0 ?_; (repeat' (first | refine W2.mk ?_ ?_ | refine W1.mk fun hc => ?_)); all_goals clear kc2 kc1)
        (refine ⟨(by first | exact .inl rfl | exact .inr rfl), resM1 [(1000, 1000)] rfl rfl ?_ ?_⟩; (focus (repeat (first | exact AllX.nil | (refine AllX.cons rfl ?_ ?_; (focus first | rfl | skip))))))
        exact rvm_int rfl rfl
      · simp only at h ⊢
        rw [if_neg (by simp)] at h ⊢
        by_cases hg : g2 = 0
        · rw [if_neg (by simp [hg])]
        · rw [if_pos hg] at h; exact absurd h hg
    · refine ⟨{ m with its := f1 }, ?_, fun h => ?_⟩
      · simp only
        rw [if_pos hf]
        clear h0
        refine fnm_intro Tryz.func50 rfl (by kernel_rfl) Tryz.ntmps50 (Nat.le_of_ble_eq_true rfl) ?_
        (have kc1 := a1; have kc2 := a2; refine w0 ?_; (repeat' (first | refine W2.mk ?_ ?_ | refine W1.mk fun hc => ?_)); all_goals clear kc2 kc1)
        (refine ⟨(by first | exact .inl rfl | exact .inr rfl), resM1 [(1000, 1000)] rfl rfl ?_ ?_⟩; (focus (repeat (first | exact AllX.nil | (refine AllX.cons rfl ?_ ?_; (focus first | rfl | skip))))))
        exact rvm_int rfl rfl
      · simp only at h
        rw [if_pos hf] at h; exact absurd h hf
  · unfold rdPs
    simp only [if_neg c1, if_neg c4, if_neg c5]
    refine ⟨m, ?_, fun _ => rfl⟩
    clear hs hp h0
    refine fnm_intro Tryz.func50 rfl (by kernel_rfl) Tryz.ntmps50 (Nat.le_of_ble_eq_true rfl) ?_
    (refine w0 ?_; (repeat' (first | refine W2.mk ?_ ?_ | refine W1.mk fun hc => ?_)))
    (refine ⟨(by first | exact .inl rfl | exact .inr rfl), resM1 [(1000, 1000)] rfl rfl ?_ ?_⟩; (focus (repeat (first | exact AllX.nil | (refine AllX.cons rfl ?_ ?_; (focus first | rfl | skip))))))
    exact rvm_int rfl rfl
end
end Go.Proofs.YtoiaegbmbhgdpaaGreat
namespace Go.Proofs.YtoiaegbmbhgdpaaGreat
open Go.RowKit
theorem hd_ok {l : List UInt8} (h : (rdHd l).2.2 = 0) : 1 ≤ (rdHd l).1.kind ∧ (rdHd l).1.kind ≤ 6 ∧ 1 ≤ (rdHd l).1.ses ∧ isNum (rdHd l).1.ses = true ∧ isNum (rdHd l).1.num = true := by
  unfold rdHd at h ⊢
  dsimp only at h ⊢
  obtain ⟨a1, a2, _⟩ := num_back h
  obtain ⟨b1, b2, b3, _, _⟩ := within_back a1
  obtain ⟨_, _, c3, c4, _⟩ := within_back b1
  exact ⟨c3, c4, b3, ok_isNum b2, ok_isNum a2⟩
theorem ns_ok {m : Msg} {l : List UInt8} {e : Int} (h : (rdNs m l e).2.2 = 0) (h1 : isNum m.kind = true) (h2 : isNum m.ses = true) (h3 : isNum m.num = true) : (msNums (rdNs m l e).1).all isNum = true := by
  unfold rdNs at h ⊢
  unfold msNums
  by_cases c1 : m.kind = 1
  · simp only [if_pos c1] at h ⊢
    obtain ⟨d1, d2, _⟩ := within_back h
    obtain ⟨e1, e2, _⟩ := within_back d1
    obtain ⟨f1, f2, _⟩ := num_back e1
    obtain ⟨g1, g2, _⟩ := num_back f1
    simp [h1, h2, h3, ok_isNum g2, ok_isNum f2, ok_isNum e2, isNum_bit]
  simp only [if_neg c1] at h ⊢
  by_cases c2 : m.kind = 2
  · simp only [if_pos c2] at h ⊢
    simp [c1, h1, h2, h3, isNum_bit]
  simp only [if_neg c2] at h ⊢
  by_cases c3 : m.kind = 3
  · simp only [if_pos c3] at h ⊢
    obtain ⟨g1, g2, _⟩ := num_back h
    simp [c1, c2, h1, h2, h3, ok_isNum g2]
  simp only [if_neg c3] at h ⊢
  by_cases c5 : m.kind = 5
  · simp only [if_pos c5] at h ⊢
    obtain ⟨d1, d2, _⟩ := within_back h
    obtain ⟨g1, g2, _⟩ := num_back d1
    simp [c1, c2, c3, h1, h2, h3, ok_isNum g2, isNum_bit]
  simp only [if_neg c5] at h ⊢
  by_cases c6 : m.kind = 6
  · simp only [if_pos c6] at h ⊢
    obtain ⟨d1, d2, _⟩ := within_back h
    simp [c1, c2, c3, c5, h1, h2, h3, ok_isNum d2]
  simp [if_neg c1, if_neg c2, if_neg c3, if_neg c5, if_neg c6, h1, h2, h3]
theorem ns_same (m : Msg) (l : List UInt8) (e : Int) : (rdNs m l e).1.kind = m.kind ∧ (rdNs m l e).1.ses = m.ses ∧ (rdNs m l e).1.its = m.its ∧ (rdNs m l e).1.flt = m.flt ∧ (rdNs m l e).1.know = m.know ∧ (rdNs m l e).1.there = m.there ∧ (rdNs m l e).1.sum = m.sum ∧ (rdNs m l e).1.rg = m.rg := by
  unfold rdNs
  dsimp only
  split
  · exact ⟨rfl, rfl, rfl, rfl, rfl, rfl, rfl, rfl⟩
  split
  · exact ⟨rfl, rfl, rfl, rfl, rfl, rfl, rfl, rfl⟩
  split
  · exact ⟨rfl, rfl, rfl, rfl, rfl, rfl, rfl, rfl⟩
  split
  · exact ⟨rfl, rfl, rfl, rfl, rfl, rfl, rfl, rfl⟩
  split
  · exact ⟨rfl, rfl, rfl, rfl, rfl, rfl, rfl, rfl⟩
  · exact ⟨rfl, rfl, rfl, rfl, rfl, rfl, rfl, rfl⟩
theorem ps_ok {m : Msg} {p : List (List UInt8)} (h0 : m.its = []) (h : (rdPs m p).2 = 0) : (prtP (rdPs m p).1).2 = true ∧ (rdPs m p).1.ses = m.ses ∧ (rdPs m p).1.its.length ≤ 4096 := by
  unfold rdPs at h ⊢
  unfold prtP
  by_cases c1 : m.kind = 1
  · simp only [if_pos c1] at h ⊢
    by_cases a : (rdRgs (p.getD 0 [])).2 ≠ 0
    · rw [if_pos a] at h; exact absurd h a
    simp only [if_neg a] at h ⊢
    by_cases b : (rdKnow (p.getD 1 [])).2 ≠ 0
    · rw [if_pos b] at h; exact absurd h b
    simp only [if_neg b] at h ⊢
    have q1 := (rdRgs_back (Decidable.not_not.1 a)).1
    have q2 := (rdKnow_back (Decidable.not_not.1 b)).1
    simp only [if_pos c1]
    rw [decide_eq_true q1, decide_eq_true q2, h0]
    simp
  simp only [if_neg c1] at h ⊢
  by_cases c4 : m.kind = 4
  · simp only [if_pos c4] at h ⊢
    by_cases a : (rdRgs (p.getD 0 [])).2 ≠ 0
    · rw [if_pos a] at h; exact absurd h a
    simp only [if_neg a] at h ⊢
    by_cases b : (rdRgs (p.getD 0 [])).1.length = 1 ∧ (p.getD 1 []).length = 8
    · simp only [if_pos b] at h ⊢
      have q1 := (rdRgs_back (Decidable.not_not.1 a)).1
      obtain ⟨r, hr⟩ : ∃ r, (rdRgs (p.getD 0 [])).1 = [r] := by
        match (rdRgs (p.getD 0 [])).1, b.1 with
        | [r], _ => exact ⟨r, rfl⟩
      rw [hr] at q1
      simp only [if_neg c1, if_pos c4, hr, List.getD_cons_zero]
      rw [decide_eq_true q1, h0]
      simp
    · rw [if_neg b] at h; simp at h
  simp only [if_neg c4] at h ⊢
  by_cases c5 : m.kind = 5
  · simp only [if_pos c5] at h ⊢
    by_cases a : (rdItems (p.getD 0 [])).2 ≠ 0
    · rw [if_pos a] at h; exact absurd h a
    simp only [if_neg a] at h ⊢
    by_cases b : (rdKnow (p.getD 1 [])).2 ≠ 0
    · rw [if_pos b] at h; exact absurd h b
    simp only [if_neg b] at h ⊢
    have q1 := rdItems_back (b := p.getD 0 []) (Decidable.not_not.1 a)
    have q2 := (rdKnow_back (Decidable.not_not.1 b)).1
    simp only [if_neg c1, if_neg c4, if_pos c5]
    rw [decide_eq_true q2, q1.1]
    exact ⟨rfl, by trivial, q1.2.1⟩
  simp only [if_neg c5] at h ⊢
  simp only [if_neg c1, if_neg c4, h0]
  simp
/-- what the program looks at when all was read, is all -/
theorem rd_right {l : List UInt8} (h1 : endSt (rdTs (ptsN (rdNs (rdHd l).1 (rdHd l).2.1 (rdHd l).2.2).1.kind) (rdNs (rdHd l).1 (rdHd l).2.1 (rdHd l).2.2).2.1 (rdNs (rdHd l).1 (rdHd l).2.1 (rdHd l).2.2).2.2).2.1 (rdTs (ptsN (rdNs (rdHd l).1 (rdHd l).2.1 (rdHd l).2.2).1.kind) (rdNs (rdHd l).1 (rdHd l).2.1 (rdHd l).2.2).2.1 (rdNs (rdHd l).1 (rdHd l).2.1 (rdHd l).2.2).2.2).2.2 = 0)
    (h2 : (rdPs (rdNs (rdHd l).1 (rdHd l).2.1 (rdHd l).2.2).1 (rdTs (ptsN (rdNs (rdHd l).1 (rdHd l).2.1 (rdHd l).2.2).1.kind) (rdNs (rdHd l).1 (rdHd l).2.1 (rdHd l).2.2).2.1 (rdNs (rdHd l).1 (rdHd l).2.1 (rdHd l).2.2).2.2).1).2 = 0) :
    msR (rdPs (rdNs (rdHd l).1 (rdHd l).2.1 (rdHd l).2.2).1 (rdTs (ptsN (rdNs (rdHd l).1 (rdHd l).2.1 (rdHd l).2.2).1.kind) (rdNs (rdHd l).1 (rdHd l).2.1 (rdHd l).2.2).2.1 (rdNs (rdHd l).1 (rdHd l).2.1 (rdHd l).2.2).2.2).1).1
    = rgtP (rdPs (rdNs (rdHd l).1 (rdHd l).2.1 (rdHd l).2.2).1 (rdTs (ptsN (rdNs (rdHd l).1 (rdHd l).2.1 (rdHd l).2.2).1.kind) (rdNs (rdHd l).1 (rdHd l).2.1 (rdHd l).2.2).2.1 (rdNs (rdHd l).1 (rdHd l).2.1 (rdHd l).2.2).2.2).1).1 := by
  have hits : (rdHd l).1.its = [] := rfl
  generalize ha : rdHd l = a at *
  have hns := ns_same a.1 a.2.1 a.2.2
  generalize hb : rdNs a.1 a.2.1 a.2.2 = b at *
  generalize hc : rdTs (ptsN b.1.kind) b.2.1 b.2.2 = c at *
  obtain ⟨e1, e2⟩ := end_back h1
  have t := ts_back (ptsN b.1.kind) b.2.1 b.2.2 (by rw [hc]; exact e2)
  rw [hc] at t
  obtain ⟨t1, t2, t3⟩ := t
  have n := ns_back (m := a.1) (l := a.2.1) (e := a.2.2) (by rw [hb]; exact t1)
  rw [hb] at n
  obtain ⟨n1, _⟩ := n
  have g := hd_ok (l := l) (by rw [ha]; exact n1)
  rw [ha] at g
  obtain ⟨g1, g2, g3, g4, g5⟩ := g
  have hno := ns_ok (m := a.1) (l := a.2.1) (e := a.2.2) (by rw [hb]; exact t1) (ok_isNum ⟨by omega, by omega⟩) g4 g5
  rw [hb] at hno
  obtain ⟨p1, p2, p3⟩ := ps_ok (m := b.1) (p := c.1) (by rw [hns.2.2.1]; exact hits) h2
  have p4 := (ps_back (m := b.1) (p := c.1) t3 h2).2
  rw [msR_iff _ p3, p4, hno, p1, decide_eq_true (by rw [p2, hns.2.1]; exact g3)]
  simp
end Go.Proofs.YtoiaegbmbhgdpaaGreat
namespace Go.Proofs.YtoiaegbmbhgdpaaGreat
open Go.RowKit
theorem openF_len (b : List UInt8) : (openF b).1.length ≤ b.length := by
  have h : (nextF b).1.length ≤ b.length := by
    unfold nextF
    split
    · simp
    split
    · simp
    split
    · simp
    split
    · simp only [List.length_take, List.length_drop]; omega
    · simp
  unfold openF
  split
  · simp
  · exact h
theorem rdTs_len : ∀ (n : Nat) (l : List UInt8) (e : Int), (rdTs n l e).1.length = n ∧ (∀ p ∈ (rdTs n l e).1, p.length ≤ l.length) ∧ (rdTs n l e).2.1.length ≤ l.length := by
  intro n
  induction n with
  | zero => intro l e; exact ⟨rfl, fun p hp => by simp [rdTs] at hp, Nat.le_refl _⟩
  | succ n ih =>
    intro l e
    rw [rdTs]
    dsimp only
    have h1 := textSt_len maxN l e
    have h2 := (textSt_suf maxN l e).length_le
    obtain ⟨i1, i2, i3⟩ := ih (textSt maxN l e).2.1 (textSt maxN l e).2.2
    refine ⟨by rw [List.length_cons, i1], fun p hp => ?_, by omega⟩
    rcases List.mem_cons.1 hp with q | q
    · subst q; exact h1
    · have := i2 p q; omega
theorem rdHd_len (l : List UInt8) : (rdHd l).2.1.length ≤ l.length := by
  unfold rdHd
  dsimp only
  have h1 := (withinSt_suf 1 6 l 0).length_le
  have h2 := (withinSt_suf 1 maxN (withinSt 1 6 l 0).2.1 (withinSt 1 6 l 0).2.2).length_le
  have h3 := (numSt_suf (withinSt 1 maxN (withinSt 1 6 l 0).2.1 (withinSt 1 6 l 0).2.2).2.1 (withinSt 1 maxN (withinSt 1 6 l 0).2.1 (withinSt 1 6 l 0).2.2).2.2).length_le
  omega
theorem rdNs_len (m : Msg) (l : List UInt8) (e : Int) : (rdNs m l e).2.1.length ≤ l.length := by
  unfold rdNs
  dsimp only
  split
  · have h1 := (numSt_suf l e).length_le
    have h2 := (numSt_suf (numSt l e).2.1 (numSt l e).2.2).length_le
    generalize numSt (numSt l e).2.1 (numSt l e).2.2 = q at *
    have h3 := (withinSt_suf 0 64 q.2.1 q.2.2).length_le
    have h4 := (withinSt_suf 0 1 (withinSt 0 64 q.2.1 q.2.2).2.1 (withinSt 0 64 q.2.1 q.2.2).2.2).length_le
    simp only
    omega
  split
  · exact (withinSt_suf 0 1 l e).length_le
  split
  · exact (numSt_suf l e).length_le
  split
  · have h1 := (numSt_suf l e).length_le
    have h2 := (withinSt_suf 0 1 (numSt l e).2.1 (numSt l e).2.2).length_le
    simp only
    omega
  split
  · exact (withinSt_suf 1 maxN l e).length_le
  · exact Nat.le_refl _
theorem ps_there (m : Msg) (p : List (List UInt8)) (n : Nat) (h0 : m.there.length ≤ n) (hp : ∀ q ∈ p, q.length ≤ n) (h0' : m.its.length ≤ 4096) : (rdPs m p).1.there.length ≤ n ∧ (rdPs m p).1.its.length ≤ 4096 := by
  have hg : ∀ i, (p.getD i []).length ≤ n := fun i => by
    rw [List.getD_eq_getElem?_getD]
    cases hi : p[i]? with
    | none => simp
    | some q => exact hp q (List.mem_of_getElem? hi)
  unfold rdPs
  dsimp only
  split
  · split
    · exact ⟨h0, h0'⟩
    · split
      · exact ⟨h0, h0'⟩
      · exact ⟨hg 2, h0'⟩
  · split
    · split
      · exact ⟨h0, h0'⟩
      · split
        · exact ⟨h0, h0'⟩
        · exact ⟨h0, h0'⟩
    · split
      · split
        · exact ⟨h0, h0'⟩
        · split
          · exact ⟨h0, h0'⟩
          · rename_i a b
            exact ⟨h0, (rdItems_back (Decidable.not_not.1 a)).2.1⟩
      · exact ⟨h0, h0'⟩
theorem rdL_eq (l : List UInt8) : rdL l = (if endSt (rdHL l).2.2.1 (rdHL l).2.2.2 ≠ 0 then ({}, endSt (rdHL l).2.2.1 (rdHL l).2.2.2) else if (rdPs (rdHL l).1 (rdHL l).2.1).2 ≠ 0 then ({}, (rdPs (rdHL l).1 (rdHL l).2.1).2) else if msR (rdPs (rdHL l).1 (rdHL l).2.1).1 then ((rdPs (rdHL l).1 (rdHL l).2.1).1, 0) else ({}, 11)) := rfl
section
set_option maxRecDepth 10000
set_option maxHeartbeats 8000000
theorem ms_Read (b : List UInt8) (hb : b.length ≤ 1000000) : Fn Tryz.prog 14 [.per (bysP b)] (.tup2 (.per (msP (rdM b).1)) (inR (rdM b).2)) := by
  have a1 := fr_Open b (by omega)
  have hL := openF_len b
  unfold rdM
  generalize openF b = q at *
  obtain ⟨L, e⟩ := q
  simp only at a1 hL ⊢
  by_cases he : e ≠ 0
  · rw [if_pos he]
    refine fn_intro Tryz.func14 rfl (by kernel_rfl) Tryz.ntmps14 (Nat.le_of_ble_eq_true rfl) ?_
    (have kc1 := a1; refine w0 ?_; (repeat' (first | refine W2.mk ?_ ?_ | refine W1.mk fun hc => ?_)); all_goals clear kc1)
    (refine ⟨(by first | exact .inl rfl | exact .inr rfl), res2 rfl ?_ ?_⟩)
    · exact rv_wk (rv_cA inferInstance inferInstance rfl rfl rfl rfl rfl rfl) (agg_imp (by (repeat (first | exact PW.nil | (refine PW.cons (by first | exact Imp.refl | exact nil_imp) ?_)))))
    · exact rv_int rfl rfl
  rw [if_neg he]
  have he : e = 0 := Decidable.not_not.1 he
  subst he
  have a2 := v_New L (by omega)
  have a3 := mr_message L (by omega)
  have a4 := r_End (rdHL L).2.2.1 (rdHL L).2.2.2
  rw [rdL_eq]
  have hps : (rdHL L).2.1.length = ptsN (rdHL L).1.kind := (rdTs_len _ _ _).1
  have hn := ns_same (rdHd L).1 (rdHd L).2.1 (rdHd L).2.2
  have hpl : ∀ p ∈ (rdHL L).2.1, p.length ≤ 1000000 := fun p hp => by
    have h1 := (rdTs_len _ _ _).2.1 p hp
    have h2 := rdNs_len (rdHd L).1 (rdHd L).2.1 (rdHd L).2.2
    have h3 := rdHd_len L
    omega
  have hit : (rdHL L).1.its.length ≤ 4096 := by
    show (rdNs (rdHd L).1 (rdHd L).2.1 (rdHd L).2.2).1.its.length ≤ 4096
    rw [hn.2.2.1]; exact Nat.zero_le _
  have hth : (rdHL L).1.there.length ≤ 1000000 := by
    show (rdNs (rdHd L).1 (rdHd L).2.1 (rdHd L).2.2).1.there.length ≤ 1000000
    rw [hn.2.2.2.2.2.1]; exact Nat.zero_le _
  have hsm : (rdHL L).1.sum = 0 := hn.2.2.2.2.2.2.1
  have hrr : endSt (rdHL L).2.2.1 (rdHL L).2.2.2 = 0 → (rdPs (rdHL L).1 (rdHL L).2.1).2 = 0 → msR (rdPs (rdHL L).1 (rdHL L).2.1).1 = rgtP (rdPs (rdHL L).1 (rdHL L).2.1).1 := rd_right
  obtain ⟨m', a5, hm'⟩ := ms_fill (rdHL L).1 (rdHL L).2.1 hps (fun p hp => by have := hpl p hp; omega) hsm
  have hB := ps_there (rdHL L).1 (rdHL L).2.1 1000000 hth hpl hit
  clear hps hn hpl hit hth hsm
  generalize rdHL L = H at *
  obtain ⟨m, ps, l', e'⟩ := H
  simp only at a3 a4 a5 hm' hrr hB ⊢
  generalize endSt l' e' = v at *
  generalize rdPs m ps = D at *
  obtain ⟨d, f⟩ := D
  simp only at a5 hm' hrr hB ⊢
  by_cases hv : v ≠ 0
  · rw [if_pos hv]
    clear hrr hm' hB
    refine fn_intro Tryz.func14 rfl (by kernel_rfl) Tryz.ntmps14 (Nat.le_of_ble_eq_true rfl) ?_
    (have kc1 := a1; have kn1 := a2; have km1 := (show FnMs [(1000, 19)] _ _ _ _ _ _ from a3); have kr1 := a4; have km2 := (show FnMs [(1000, 7)] _ _ _ _ _ _ from a5); refine w0 ?_; (repeat' (first | refine W2.mk ?_ ?_ | refine W1.mk fun hc => ?_)); all_goals clear km2 kr1 km1 kn1 kc1)
    (refine ⟨(by first | exact .inl rfl | exact .inr rfl), res2 rfl ?_ ?_⟩)
    · exact rv_wk (rv_cA inferInstance inferInstance rfl rfl rfl rfl rfl rfl) (agg_imp (by (repeat (first | exact PW.nil | (refine PW.cons (by first | exact Imp.refl | exact nil_imp) ?_)))))
    · exact rv_int rfl rfl
  rw [if_neg hv]
  have hv : v = 0 := Decidable.not_not.1 hv
  subst hv
  by_cases hf : f ≠ 0
  · rw [if_pos hf]
    clear hrr hm' hB
    refine fn_intro Tryz.func14 rfl (by kernel_rfl) Tryz.ntmps14 (Nat.le_of_ble_eq_true rfl) ?_
    (have kc1 := a1; have kn1 := a2; have km1 := (show FnMs [(1000, 19)] _ _ _ _ _ _ from a3); have kr1 := a4; have km2 := (show FnMs [(1000, 7)] _ _ _ _ _ _ from a5); refine w0 ?_; (repeat' (first | refine W2.mk ?_ ?_ | refine W1.mk fun hc => ?_)); all_goals clear km2 kr1 km1 kn1 kc1)
    (refine ⟨(by first | exact .inl rfl | exact .inr rfl), res2 rfl ?_ ?_⟩)
    · exact rv_wk (rv_cA inferInstance inferInstance rfl rfl rfl rfl rfl rfl) (agg_imp (by (repeat (first | exact PW.nil | (refine PW.cons (by first | exact Imp.refl | exact nil_imp) ?_)))))
    · exact rv_int rfl rfl
  rw [if_neg hf]
  have hf : f = 0 := Decidable.not_not.1 hf
  subst hf
  obtain rfl := hm' rfl
  rw [hrr rfl rfl]
  obtain ⟨b1, b2⟩ := hB
  have a6 := ms_right m' b1 b2
  clear hrr hm' b1 b2
  cases hr : rgtP m' with
  | false =>
    rw [hr] at a6
    rw [if_neg (by simp)]
    refine fn_intro Tryz.func14 rfl (by kernel_rfl) Tryz.ntmps14 (Nat.le_of_ble_eq_true rfl) ?_
    (have kc1 := a1; have kn1 := a2; have km1 := (show FnMs [(1000, 19)] _ _ _ _ _ _ from a3); have kr1 := a4; have km2 := (show FnMs [(1000, 7)] _ _ _ _ _ _ from a5); have kc2 := a6; refine w0 ?_; (repeat' (first | refine W2.mk ?_ ?_ | refine W1.mk fun hc => ?_)); all_goals clear kc2 km2 kr1 km1 kn1 kc1)
    (refine ⟨(by first | exact .inl rfl | exact .inr rfl), res2 rfl ?_ ?_⟩)
    · exact rv_wk (rv_cA inferInstance inferInstance rfl rfl rfl rfl rfl rfl) (agg_imp (by (repeat (first | exact PW.nil | (refine PW.cons (by first | exact Imp.refl | exact nil_imp) ?_)))))
    · exact rv_int rfl rfl
  | true =>
    rw [hr] at a6
    rw [if_pos rfl]
    refine fn_intro Tryz.func14 rfl (by kernel_rfl) Tryz.ntmps14 (Nat.le_of_ble_eq_true rfl) ?_
    (have kc1 := a1; have kn1 := a2; have km1 := (show FnMs [(1000, 19)] _ _ _ _ _ _ from a3); have kr1 := a4; have km2 := (show FnMs [(1000, 7)] _ _ _ _ _ _ from a5); have kc2 := a6; refine w0 ?_; (repeat' (first | refine W2.mk ?_ ?_ | refine W1.mk fun hc => ?_)); all_goals clear kc2 km2 kr1 km1 kn1 kc1)
    (refine ⟨(by first | exact .inl rfl | exact .inr rfl), res2 rfl ?_ ?_⟩)
    · exact rv_wk (rv_cA inferInstance inferInstance rfl rfl rfl rfl rfl rfl) (agg_imp (by (repeat (first | exact PW.nil | (refine PW.cons (by first | exact Imp.refl | exact nil_imp) ?_)))))
    · exact rv_int rfl rfl
end
end Go.Proofs.YtoiaegbmbhgdpaaGreat
