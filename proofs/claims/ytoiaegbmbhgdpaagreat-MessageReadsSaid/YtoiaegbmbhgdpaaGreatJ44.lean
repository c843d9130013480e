/- Texts joined: Law16K MsS MsV OpenP. -/
import Derived.Test.YtoiaegbmbhgdpaaGreatJ28
import Derived.Test.YtoiaegbmbhgdpaaGreatJ43
import Derived.Test.YtoiaegbmbhgdpaaGreatJ16
import Derived.Test.YtoiaegbmbhgdpaaGreatJ42
import Derived.Test.YtoiaegbmbhgdpaaGreatJ39
namespace Go.Proofs.YtoiaegbmbhgdpaaGreat
open Go.RowKit
theorem longPcs_pcsSz {k : List Pc} {most : Int} (h : longPcs k most = false) (hm : most ≤ 1000000) : pcsSz k ∧ fewK k := by
  obtain ⟨h1, h2⟩ := longPcs_sz h
  have hq : ∀ p ∈ k, knsTot p.set ∧ fewS p.set := fun p hp => by
    obtain ⟨_, _, h3⟩ := h2 p hp
    obtain ⟨g1, g2⟩ := longKns_sz h3
    refine ⟨⟨by omega, ?_⟩, fun x hx => by have := g2 x hx; omega⟩
    have : ∀ l : List Kn, (∀ k ∈ l, (k.runs.length : Int) ≤ 16) → (l.flatMap Kn.runs).length ≤ 16 * l.length := by
      intro l
      induction l with
      | nil => intro _; simp
      | cons x l ih =>
        intro h
        have h1 := h x List.mem_cons_self
        have h2 := ih (fun y hy => h y (List.mem_cons_of_mem _ hy))
        rw [List.flatMap_cons, List.length_append, List.length_cons]; omega
    have := this _ g2
    omega
  exact ⟨⟨by omega, fun p hp => (hq p hp).1⟩, fun p hp => (hq p hp).2⟩
theorem knowB_len {k : List Pc} (h : pcsOk k) (hf : fewK k) (hl : k.length ≤ 30) : (knowB k).length ≤ 50000000 := by
  have h1 := flat_lenC (B := pcB) 1500040 k (fun p hp => by
    have hfp := hf p hp
    obtain ⟨i, hi, rfl⟩ := List.getElem_of_mem hp
    obtain ⟨a, b⟩ := pcsOk_get h hi
    exact pcB_len a b hfp)
  have h3 := numI_len (k.length : Int) (by omega)
  unfold knowB
  rw [List.length_append]; omega
section
set_option maxRecDepth 10000
set_option maxHeartbeats 8000000
theorem rdKnow_sz (b : List UInt8) : pcsSz (rdKnow b).1 ∧ fewK (rdKnow b).1 := by
  have h := lis_pcSz b 0
  unfold rdKnow finL
  split
  · exact ⟨⟨by simp, by simp⟩, fun k hk => by simp at hk⟩
  · split
    · exact h
    · exact ⟨⟨by simp, by simp⟩, fun k hk => by simp at hk⟩
end
end Go.Proofs.YtoiaegbmbhgdpaaGreat
namespace Go.Proofs.YtoiaegbmbhgdpaaGreat
open Go.RowKit
def longM (m : Msg) : Bool := longRgs m.flt 12 || (longPcs m.know 24 || (decide ((m.there.length : Int) > 600) || (longB m.its 24 || (decide ((m.rg.lo.size : Int) > 60) || decide ((m.rg.hi.size : Int) > 60)))))
section
set_option maxRecDepth 10000
set_option maxHeartbeats 8000000
theorem rm_Plain (m : Msg) : Fn Tryz.prog 16 [msC m] (.per (msP (plainM m))) := by
  unfold plainM
  by_cases c1 : m.kind = 1
  · rw [if_pos c1]
    refine fn_intro Tryz.func16 rfl (by kernel_rfl) Tryz.ntmps16 (Nat.le_of_ble_eq_true rfl) ?_
    (refine w0 ?_; (repeat' (first | refine W2.mk ?_ ?_ | refine W1.mk fun hc => ?_)))
    (refine ⟨(by first | exact .inl rfl | exact .inr rfl), res1 rfl ?_⟩)
    rw [c1]
    exact rv_wk (rv_cA inferInstance inferInstance rfl rfl rfl rfl rfl rfl) (agg_imp (by (repeat (first | exact PW.nil | (refine PW.cons (by first | exact Imp.refl | exact nil_imp) ?_)))))
  rw [if_neg c1]
  by_cases c2 : m.kind = 2
  · rw [if_pos c2]
    refine fn_intro Tryz.func16 rfl (by kernel_rfl) Tryz.ntmps16 (Nat.le_of_ble_eq_true rfl) ?_
    (refine w0 ?_; (repeat' (first | refine W2.mk ?_ ?_ | refine W1.mk fun hc => ?_)))
    (refine ⟨(by first | exact .inl rfl | exact .inr rfl), res1 rfl ?_⟩)
    rw [c2]
    exact rv_wk (rv_cA inferInstance inferInstance rfl rfl rfl rfl rfl rfl) (agg_imp (by (repeat (first | exact PW.nil | (refine PW.cons (by first | exact Imp.refl | exact nil_imp) ?_)))))
  rw [if_neg c2]
  by_cases c3 : m.kind = 3
  · rw [if_pos c3]
    refine fn_intro Tryz.func16 rfl (by kernel_rfl) Tryz.ntmps16 (Nat.le_of_ble_eq_true rfl) ?_
    (refine w0 ?_; (repeat' (first | refine W2.mk ?_ ?_ | refine W1.mk fun hc => ?_)))
    (refine ⟨(by first | exact .inl rfl | exact .inr rfl), res1 rfl ?_⟩)
    rw [c3]
    exact rv_wk (rv_cA inferInstance inferInstance rfl rfl rfl rfl rfl rfl) (agg_imp (by (repeat (first | exact PW.nil | (refine PW.cons (by first | exact Imp.refl | exact nil_imp) ?_)))))
  rw [if_neg c3]
  by_cases c4 : m.kind = 4
  · rw [if_pos c4]
    refine fn_intro Tryz.func16 rfl (by kernel_rfl) Tryz.ntmps16 (Nat.le_of_ble_eq_true rfl) ?_
    (refine w0 ?_; (repeat' (first | refine W2.mk ?_ ?_ | refine W1.mk fun hc => ?_)))
    (refine ⟨(by first | exact .inl rfl | exact .inr rfl), res1 rfl ?_⟩)
    rw [c4]
    exact rv_wk (rv_cA inferInstance inferInstance rfl rfl rfl rfl rfl rfl) (agg_imp (by (repeat (first | exact PW.nil | (refine PW.cons (by first | exact Imp.refl | exact nil_imp) ?_)))))
  rw [if_neg c4]
  by_cases c5 : m.kind = 5
  · rw [if_pos c5]
    refine fn_intro Tryz.func16 rfl (by kernel_rfl) Tryz.ntmps16 (Nat.le_of_ble_eq_true rfl) ?_
    (refine w0 ?_; (repeat' (first | refine W2.mk ?_ ?_ | refine W1.mk fun hc => ?_)))
    (refine ⟨(by first | exact .inl rfl | exact .inr rfl), res1 rfl ?_⟩)
    rw [c5]
    exact rv_wk (rv_cA inferInstance inferInstance rfl rfl rfl rfl rfl rfl) (agg_imp (by (repeat (first | exact PW.nil | (refine PW.cons (by first | exact Imp.refl | exact nil_imp) ?_)))))
  rw [if_neg c5]
  by_cases c6 : m.kind = 6
  · rw [if_pos c6]
    refine fn_intro Tryz.func16 rfl (by kernel_rfl) Tryz.ntmps16 (Nat.le_of_ble_eq_true rfl) ?_
    (refine w0 ?_; (repeat' (first | refine W2.mk ?_ ?_ | refine W1.mk fun hc => ?_)))
    (refine ⟨(by first | exact .inl rfl | exact .inr rfl), res1 rfl ?_⟩)
    rw [c6]
    exact rv_wk (rv_cA inferInstance inferInstance rfl rfl rfl rfl rfl rfl) (agg_imp (by (repeat (first | exact PW.nil | (refine PW.cons (by first | exact Imp.refl | exact nil_imp) ?_)))))
  rw [if_neg c6]
  refine fn_intro Tryz.func16 rfl (by kernel_rfl) Tryz.ntmps16 (Nat.le_of_ble_eq_true rfl) ?_
  (refine w0 ?_; (repeat' (first | refine W2.mk ?_ ?_ | refine W1.mk fun hc => ?_)))
  (refine ⟨(by first | exact .inl rfl | exact .inr rfl), res1 rfl ?_⟩)
  exact rv_wk (rv_cA inferInstance inferInstance rfl rfl rfl rfl rfl rfl) (agg_imp (by (repeat (first | exact PW.nil | (refine PW.cons (by first | exact Imp.refl | exact nil_imp) ?_)))))
theorem rm_Same (m : Msg) (h1 : m.flt.length ≤ 1000000000) (h2 : pcsSz m.know) (h3 : m.its.length ≤ 1000000000) : Fn Tryz.prog 15 [msC m, msC m] (boR true) := by
  have a1 := rgs_Same m.flt m.flt h1
  have a2 := rknow_Same m.know m.know h2
  have a3 := item_Same m.its m.its h3
  rw [decide_eq_true rfl] at a1 a2 a3
  have hEo := rgE_o m.rg m.rg
  rw [(rgE_iff _ _).2 rfl] at hEo
  clear h2
  refine fn_intro Tryz.func15 rfl (by kernel_rfl) Tryz.ntmps15 (Nat.le_of_ble_eq_true rfl) ?_
  (have kc1 := a1; have kc2 := a2; have kc3 := a3; refine w0 ?_; (repeat' (first | refine W2.mk ?_ ?_ | refine W1.mk fun hc => ?_ | ((first | apply AL_t rfl | apply AL_0 rfl | apply AD_t rfl | apply AD_0 rfl); (focus (first | (exact op_eqA (us := encRg m.rg) (vs := encRg m.rg) ⟨rfl, rfl, rfl⟩ rfl rfl rfl (by first | exact .inl ⟨rfl, rfl⟩ | exact .inr ⟨rfl, rfl⟩) rgG rfl hEo) | ((apply u_k 8; (focus rfl); exact op_eqC ⟨rfl, rfl, rfl⟩ rfl inferInstance rfl rfl (by first | exact .inl ⟨rfl, rfl⟩ | exact .inr ⟨rfl, rfl⟩))) | (apply u_g; (focus rfl); apply op_gyes rfl rfl rfl rfl rfl; first | (exact op_eqA (us := encRg m.rg) (vs := encRg m.rg) ⟨rfl, rfl, rfl⟩ rfl rfl rfl (by first | exact .inl ⟨rfl, rfl⟩ | exact .inr ⟨rfl, rfl⟩) rgG rfl hEo) | ((apply u_k 8; (focus rfl); exact op_eqC ⟨rfl, rfl, rfl⟩ rfl inferInstance rfl rfl (by first | exact .inl ⟨rfl, rfl⟩ | exact .inr ⟨rfl, rfl⟩)))))); refine w0 ?_))); all_goals clear kc3 kc2 kc1)
  all_goals
    (refine ⟨(by first | exact .inl rfl | exact .inr rfl), res1 rfl ?_⟩)
    refine rv_bool rfl ?_
    first | rfl | (simp; done)
theorem rm_Long (m : Msg) : Fn Tryz.prog 10 [msC m] (boR (longM m)) := by
  have a1 := rgs_Long m.flt 12 (by decide)
  have a2 := rknow_Long m.know 24 (by decide)
  have a3 := item_Long m.its 24 (by decide)
  unfold longM
  generalize longRgs m.flt 12 = d1 at *
  generalize longPcs m.know 24 = d2 at *
  generalize longB m.its 24 = d3 at *
  refine fn_intro Tryz.func10 rfl (by kernel_rfl) Tryz.ntmps10 (Nat.le_of_ble_eq_true rfl) ?_
  (have kc1 := a1; have kc2 := a2; have kc3 := a3; refine w0 ?_; (repeat' (first | refine W2.mk ?_ ?_ | refine W1.mk fun hc => ?_)); all_goals clear kc3 kc2 kc1)
  all_goals
    (refine ⟨(by first | exact .inl rfl | exact .inr rfl), res1 rfl ?_⟩)
    refine rv_bool rfl ?_
    first | (simp [*]; done) | (rw [Bool.eq_iff_iff]; simp [*]; done) | (rw [Bool.eq_iff_iff]; simp [*]; omega)
end
end Go.Proofs.YtoiaegbmbhgdpaaGreat
namespace Go.Proofs.YtoiaegbmbhgdpaaGreat
open Go.RowKit
theorem itemsT_len : ∀ (l : List It) (was : ByteArray), l.all itR = true → (itemsT was l).length ≤ 200 * l.length := by
  intro l
  induction l with
  | nil => intro was _; simp [itemsT]
  | cons x l ih =>
    intro was h
    rw [List.all_cons, Bool.and_eq_true] at h
    have h1 := itR_nums h.1
    have h2 := alike_le was x.key
    have q1 := numI_len ((alike was x.key : Nat) : Int) (by omega)
    have q2 := textB_len (cutS x.key (alike was x.key)) (by rw [cutS_size]; omega)
    have q3 := restB_len h.1
    have q4 := ih x.key h.2
    rw [cutS_size] at q2
    rw [itemsT, List.length_append, List.length_append, List.length_append, List.length_cons]
    omega
theorem itemsB_len {l : List It} (h : l.all itR = true) (hl : l.length ≤ 4096) : (itemsB l).length ≤ 9 + 200 * l.length := by
  have q1 := numI_len (l.length : Int) (by omega)
  have q2 := itemsT_len l s0 h
  unfold itemsB
  rw [List.length_append]; omega
theorem longM_B {m : Msg} (h : longM m = false) : MsB m ∧ m.know.length ≤ 24 := by
  unfold longM at h
  simp only [Bool.or_eq_false_iff] at h
  obtain ⟨h1, h2, h3, h4, _⟩ := h
  have hk := longPcs_pcsSz h2 (by decide)
  have hkl := (longPcs_sz h2).1
  have hf : m.flt.length ≤ 12 := by
    unfold longRgs at h1
    rw [Bool.or_eq_false_iff, decide_eq_false_iff_not] at h1
    omega
  have hi : m.its.length ≤ 24 := by
    unfold longB at h4
    rw [Bool.or_eq_false_iff, decide_eq_false_iff_not] at h4
    omega
  have ht : m.there.length ≤ 600 := by
    rw [decide_eq_false_iff_not] at h3
    omega
  refine ⟨⟨by omega, hk.1, hk.2, by omega, by omega, by omega, fun p hp => ?_⟩, by omega⟩
  have hkb : (if decide (pcsOk m.know) then knowB m.know else []).length ≤ 100000000 := by
    by_cases c : pcsOk m.know
    · rw [if_pos (decide_eq_true c)]
      have := knowB_len c hk.2 (by omega); omega
    · rw [if_neg (by simp [c])]; simp
  unfold prtP at hp
  by_cases c1 : m.kind = 1
  · simp only [if_pos c1, List.mem_cons, List.not_mem_nil, or_false] at hp
    rcases hp with rfl | rfl | rfl
    · by_cases c : rgsOk m.flt
      · rw [if_pos (decide_eq_true c)]
        have := rgsBy_len c (by omega); omega
      · rw [if_neg (by simp [c])]; simp
    · exact hkb
    · omega
  simp only [if_neg c1] at hp
  by_cases c4 : m.kind = 4
  · simp only [if_pos c4, List.mem_cons, List.not_mem_nil, or_false] at hp
    rcases hp with rfl | rfl
    · by_cases c : rgsOk [m.rg]
      · rw [if_pos (decide_eq_true c)]
        have := rgsBy_len c (by simp); simp at this; omega
      · rw [if_neg (by simp [c])]; simp
    · simp [oct]
  simp only [if_neg c4] at hp
  by_cases c5 : m.kind = 5
  · simp only [if_pos c5, List.mem_cons, List.not_mem_nil, or_false] at hp
    rcases hp with rfl | rfl
    · by_cases c : m.its.all itR = true
      · rw [if_pos c]
        have := itemsB_len c (by omega); omega
      · rw [if_neg c]; simp
    · exact hkb
  · simp only [if_neg c5, List.not_mem_nil] at hp
/-- how big a message may be to be held against another -/
structure MsE (m : Msg) : Prop where
  flt : m.flt.length ≤ 1000000
  ksz : pcsSz m.know
  its : m.its.length ≤ 1000000
theorem MsB.e {m : Msg} (h : MsB m) : MsE m := ⟨by have := h.flt; omega, h.ksz, by have := h.its; omega⟩
theorem pcsSz_e : pcsSz [] := ⟨by simp, fun p hp => by simp at hp⟩
theorem msE_zero : MsE {} := ⟨by simp, pcsSz_e, by simp⟩
theorem plain_E {m : Msg} (h : MsE m) : MsE (plainM m) := by
  obtain ⟨h1, h2, h3⟩ := h
  unfold plainM
  split
  · exact ⟨h1, h2, by simp⟩
  split
  · exact ⟨by simp, pcsSz_e, by simp⟩
  split
  · exact ⟨by simp, pcsSz_e, by simp⟩
  split
  · exact ⟨by simp, pcsSz_e, by simp⟩
  split
  · exact ⟨by simp, h2, h3⟩
  split
  · exact ⟨by simp, pcsSz_e, by simp⟩
  · exact ⟨by simp, pcsSz_e, by simp⟩
theorem ps_sz {m : Msg} {p : List (List UInt8)} (n1 : m.flt = []) (n2 : m.know = []) (n3 : m.its = []) (n4 : m.sum = 0) (h : (rdPs m p).2 = 0) :
    (rdPs m p).1.flt.length ≤ 4096 ∧ pcsSz (rdPs m p).1.know ∧ fewK (rdPs m p).1.know ∧ (rdPs m p).1.know.length ≤ 4096 ∧ (rdPs m p).1.its.length ≤ 4096 ∧ (rdPs m p).1.sum < 18446744073709551616 := by
  have few0 : fewK [] := fun p hp => by simp at hp
  unfold rdPs at h ⊢
  by_cases c1 : m.kind = 1
  · simp only [if_pos c1] at h ⊢
    by_cases a : (rdRgs (p.getD 0 [])).2 ≠ 0
    · rw [if_pos a] at h; exact absurd h a
    simp only [if_neg a] at h ⊢
    by_cases b : (rdKnow (p.getD 1 [])).2 ≠ 0
    · rw [if_pos b] at h; exact absurd h b
    simp only [if_neg b] at h ⊢
    have q1 := (rdRgs_back (Decidable.not_not.1 a)).2.1
    have q2 := (rdKnow_back (Decidable.not_not.1 b)).2.1
    have q3 := rdKnow_sz (p.getD 1 [])
    exact ⟨by omega, q3.1, q3.2, by omega, by rw [n3]; simp, by rw [n4]; decide⟩
  simp only [if_neg c1] at h ⊢
  by_cases c4 : m.kind = 4
  · simp only [if_pos c4] at h ⊢
    by_cases a : (rdRgs (p.getD 0 [])).2 ≠ 0
    · rw [if_pos a] at h; exact absurd h a
    simp only [if_neg a] at h ⊢
    by_cases b : (rdRgs (p.getD 0 [])).1.length = 1 ∧ (p.getD 1 []).length = 8
    · simp only [if_pos b] at h ⊢
      have := numL_lt (p.getD 1 [])
      rw [b.2] at this
      exact ⟨by rw [n1]; simp, by rw [n2]; exact pcsSz_e, by rw [n2]; exact few0, by rw [n2]; simp, by rw [n3]; simp, this⟩
    · rw [if_neg b] at h; simp at h
  simp only [if_neg c4] at h ⊢
  by_cases c5 : m.kind = 5
  · simp only [if_pos c5] at h ⊢
    by_cases a : (rdItems (p.getD 0 [])).2 ≠ 0
    · rw [if_pos a] at h; exact absurd h a
    simp only [if_neg a] at h ⊢
    by_cases b : (rdKnow (p.getD 1 [])).2 ≠ 0
    · rw [if_pos b] at h; exact absurd h b
    simp only [if_neg b] at h ⊢
    have q1 := (rdItems_back (Decidable.not_not.1 a)).2.1
    have q2 := (rdKnow_back (Decidable.not_not.1 b)).2.1
    have q3 := rdKnow_sz (p.getD 1 [])
    exact ⟨by rw [n1]; simp, q3.1, q3.2, by omega, q1, by rw [n4]; decide⟩
  simp only [if_neg c5]
  exact ⟨by rw [n1]; simp, by rw [n2]; exact pcsSz_e, by rw [n2]; exact few0, by rw [n2]; simp, by rw [n3]; simp, by rw [n4]; decide⟩
theorem part_load {m : Msg} {p : List UInt8} (h : p ∈ msParts m) : p.length ≤ (loadB m).length := by
  have key : ∀ l : List (List UInt8), p ∈ l → p.length ≤ (l.flatMap txB).length := by
    intro l
    induction l with
    | nil => intro h; simp at h
    | cons x l ih =>
      intro h
      rw [List.flatMap_cons, List.length_append]
      rcases List.mem_cons.1 h with e | e
      · subst e
        have : (txB p).length = (numB p.length).length + p.length := by
          unfold txB textB
          rw [List.length_append, show (⟨p.toArray⟩ : ByteArray).size = p.length by simp [ByteArray.size]]
        omega
      · have := ih e; omega
  have := key _ h
  unfold loadB
  rw [List.length_append]; omega
/-- a message that was read is in bounds -/
theorem rdM_B {b : List UInt8} (hb : b.length ≤ 1000000) (h : (rdM b).2 = 0) : MsB (rdM b).1 ∧ (rdM b).1.sum < 18446744073709551616 := by
  have hL := openF_len b
  unfold rdM at h ⊢
  by_cases c : (openF b).2 ≠ 0
  · rw [if_pos c] at h; exact absurd h c
  rw [if_neg c] at h ⊢
  generalize (openF b).1 = L at *
  obtain ⟨r1, r2⟩ := load_back h
  rw [rdL_eq] at h r1 r2 ⊢
  have hn := ns_same (rdHd L).1 (rdHd L).2.1 (rdHd L).2.2
  have hth : (rdHL L).1.there.length ≤ 1000000 := by
    show (rdNs (rdHd L).1 (rdHd L).2.1 (rdHd L).2.2).1.there.length ≤ 1000000
    rw [hn.2.2.2.2.2.1]; exact Nat.zero_le _
  have n1 : (rdHL L).1.flt = [] := hn.2.2.2.1
  have n2 : (rdHL L).1.know = [] := hn.2.2.2.2.1
  have n3 : (rdHL L).1.its = [] := hn.2.2.1
  have n4 : (rdHL L).1.sum = 0 := hn.2.2.2.2.2.2.1
  have hpl : ∀ p ∈ (rdHL L).2.1, p.length ≤ 1000000 := fun p hp => by
    have h1 := (rdTs_len _ _ _).2.1 p hp
    have h2 := rdNs_len (rdHd L).1 (rdHd L).2.1 (rdHd L).2.2
    have h3 := rdHd_len L
    omega
  by_cases c1 : endSt (rdHL L).2.2.1 (rdHL L).2.2.2 ≠ 0
  · rw [if_pos c1] at h; exact absurd h c1
  rw [if_neg c1] at h r1 r2 ⊢
  by_cases c2 : (rdPs (rdHL L).1 (rdHL L).2.1).2 ≠ 0
  · rw [if_pos c2] at h; exact absurd h c2
  rw [if_neg c2] at h r1 r2 ⊢
  by_cases c3 : ¬ msR (rdPs (rdHL L).1 (rdHL L).2.1).1 = true
  · rw [if_neg c3] at h; simp at h
  replace c3 := Decidable.not_not.1 c3
  rw [if_pos c3] at r1 r2 ⊢
  obtain ⟨s1, s2, s3, s4, s5, s6⟩ := ps_sz n1 n2 n3 n4 (Decidable.not_not.1 c2)
  have st := (ps_there (rdHL L).1 (rdHL L).2.1 1000000 hth hpl (by rw [n3]; simp)).1
  refine ⟨⟨s1, s2, s3, s4, st, s5, fun p hp => ?_⟩, s6⟩
  have hI := msR_iff (rdPs (rdHL L).1 (rdHL L).2.1).1 s5
  rw [c3] at hI
  have hI := hI.symm
  simp only [Bool.and_eq_true] at hI
  rw [prt_ok hI.1.1.2] at hp
  have := part_load hp
  rw [r1] at this
  omega
theorem rdM_E {b : List UInt8} (hb : b.length ≤ 1000000) : MsE (rdM b).1 := by
  by_cases h : (rdM b).2 = 0
  · exact (rdM_B hb h).1.e
  · have : (rdM b).1 = {} := by
      unfold rdM at h ⊢
      by_cases c : (openF b).2 ≠ 0
      · rw [if_pos c]
      rw [if_neg c] at h ⊢
      rw [rdL_eq] at h ⊢
      by_cases c1 : endSt (rdHL (openF b).1).2.2.1 (rdHL (openF b).1).2.2.2 ≠ 0
      · rw [if_pos c1]
      rw [if_neg c1] at h ⊢
      by_cases c2 : (rdPs (rdHL (openF b).1).1 (rdHL (openF b).1).2.1).2 ≠ 0
      · rw [if_pos c2]
      rw [if_neg c2] at h ⊢
      by_cases c3 : msR (rdPs (rdHL (openF b).1).1 (rdHL (openF b).1).2.1).1 = true
      · rw [if_pos c3] at h; exact absurd rfl h
      · rw [if_neg c3]
    rw [this]; exact msE_zero
end Go.Proofs.YtoiaegbmbhgdpaaGreat
namespace Go.Proofs.YtoiaegbmbhgdpaaGreat
open Go.RowKit
abbrev NIn (w : World) : BP := g0.N (cx w)
/-- cells that read as y is written -/
def Wr {β : Type} (w : World) (k : Nat) (f : β → List PV) (cs : List Value) (y : β) : Prop :=
  cs.length = k ∧ (f y).length = k ∧ ∀ (j : Nat) (A : PV) (u : Value), (f y)[j]? = some A → cs[j]? = some u → u.oneCell' = true ∧ A.p (NIn w) w u
def RdP {β : Type} (P : Program) (w : World) (t : TypeId) (k : Nat) (f : β → List PV) (Q : β → Prop) : Prop := Rd P w t (fun cs => ∃ y : β, Q y ∧ Wr w k f cs y)
section
variable {P : Program} {w : World} {t e : TypeId} {β : Type} {k : Nat} {f : β → List PV} {Q : β → Prop}
theorem Wr.ones {cs : List Value} {y : β} (h : Wr w k f cs y) : ∀ u ∈ cs, u.oneCell' = true := fun u hu => by
  obtain ⟨j, hj, rfl⟩ := List.getElem_of_mem hu
  have hj' : j < (f y).length := by have := h.1; have := h.2.1; omega
  exact (h.2.2 j _ _ (List.getElem?_eq_getElem hj') (List.getElem?_eq_getElem hj)).1
theorem RdP.slice (h : RdP P w e k f Q) (ht : P.underlying t = some (.slice e)) (hk : P.cellsOf e = k) (hk0 : 0 < k) :
    Rd P w t (fun cs => ∃ (v : Value) (l : List β), cs = [v] ∧ (lstP k (l.map f)).p (NIn w) w v ∧ ∀ y ∈ l, Q y) := by
  refine (Rd.slice (α := { cs : List Value // cs.length = k ∧ ∀ u ∈ cs, u.oneCell' = true }) (enc := fun x => x.1) (G := fun x => ∃ y : β, Q y ∧ Wr w k f x.1 y) ht hk hk0 h fun cs ⟨y, h1, h2⟩ => ⟨⟨cs, h2.1, h2.ones⟩, rfl, y, h1, h2⟩).mono ?_
  rintro cs ⟨v, lv, rfl, ⟨a, c, b, o, rfl, h1, h2, h3, h0, h4⟩, hG⟩
  obtain ⟨l, hl, hg⟩ := list_of_each (G := fun i y => ∀ (h : i < lv.length), Q y ∧ Wr w k f lv[i].1 y) lv.length (fun i hi => by
    obtain ⟨y, q1, q2⟩ := hG lv[i] (List.getElem_mem hi)
    exact ⟨y, fun _ => ⟨q1, q2⟩⟩)
  refine ⟨_, l, rfl, ⟨a, c, b, o, by rw [List.length_map, hl], by rw [List.length_map, hl]; exact h1, h2, h0, fun hn => ?_, fun i cs hi => ?_⟩, fun y hy => ?_⟩
  · rw [List.length_map, hl] at hn
    refine ⟨h3 hn, ?_, fun hb => hb.elim id (fun h => h rfl)⟩
    have hp := lv[0].2.1
    have := h4 0 lv[0] (by simp [hn]) 0 (lv[0].1[0]'(by omega)) (by simp)
    rcases Nat.lt_or_ge b w.heap.size with hb | hb
    · exact hb
    · simp [World.cell?, Array.getElem?_eq_none hb] at this
  · rw [List.getElem?_map] at hi
    cases hx : l[i]? with
    | none => rw [hx] at hi; cases hi
    | some y =>
      rw [hx] at hi; cases hi
      have hil : i < lv.length := by
        have := (List.getElem?_eq_some_iff.1 hx).1; omega
      obtain ⟨_, q1, q2, q3⟩ := hg i y hx hil
      refine ⟨q2, fun j A hj => ?_⟩
      have hjk : j < lv[i].1.length := by
        have := (List.getElem?_eq_some_iff.1 hj).1; omega
      obtain ⟨r1, r2⟩ := q3 j A _ hj (List.getElem?_eq_getElem hjk)
      exact ⟨_, h4 i lv[i] (List.getElem?_eq_getElem hil) j _ (List.getElem?_eq_getElem hjk), r1, r2⟩
  · obtain ⟨i, hi, rfl⟩ := List.getElem_of_mem hy
    exact (hg i _ (List.getElem?_eq_getElem hi) (by omega)).1
/-- flat things -/
theorem RdP.flat {enc : β → List Value} (hE : Enc k enc) (h : Rd P w e (fun cs => ∃ y, cs = enc y ∧ Q y)) : RdP P w e k (rawsE enc) Q :=
  h.mono fun cs ⟨y, h1, h2⟩ => ⟨y, h2, by rw [h1, hE.len], by unfold rawsE; rw [List.length_map, hE.len], fun j A u hj hu => by
    unfold rawsE at hj
    rw [List.getElem?_map] at hj
    rw [h1] at hu
    rw [hu] at hj; cases hj
    exact ⟨hE.one y u (List.mem_of_getElem? hu), rfl⟩⟩
end
end Go.Proofs.YtoiaegbmbhgdpaaGreat
