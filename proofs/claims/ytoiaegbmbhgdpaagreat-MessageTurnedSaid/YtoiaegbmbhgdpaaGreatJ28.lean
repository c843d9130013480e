/- Texts joined: Law16 Kk KkR. -/
import Derived.Test.YtoiaegbmbhgdpaaGreatJ24
import Derived.Test.YtoiaegbmbhgdpaaGreatJ10
import Derived.Test.YtoiaegbmbhgdpaaGreatJ27
namespace Go.Proofs.YtoiaegbmbhgdpaaGreat
open Go.RowKit
theorem runsB_len : ∀ (l : List Rn) (was : Int), 0 ≤ was → (∀ r ∈ l, rnR r = true) → (runsB was l).length ≤ 20 * l.length := by
  intro l
  induction l with
  | nil => intro was _ _; simp [runsB]
  | cons x l ih =>
    intro was h0 h
    have hx := (rnR_iff x).1 (h x List.mem_cons_self)
    have h1 := numI_len (x.fr - was) (by omega)
    have h2 := numI_len (x.to - x.fr) (by omega)
    have h3 := ih x.to (by omega) (fun r hr => h r (List.mem_cons_of_mem _ hr))
    rw [runsB, List.length_append, List.length_append, List.length_cons]
    omega
theorem knB_len {k : Kn} (h1 : 1 ≤ k.rep) (h2 : k.rep ≤ 16) (h3 : rnsOk k.runs) (hf : k.runs.length ≤ 4096) : (knB k).length ≤ 90000 := by
  have q1 := numI_len k.rep (by omega)
  have q2 := numI_len (k.runs.length : Int) (by omega)
  have q3 := runsB_len k.runs 0 (by omega) (fun r hr => by
    obtain ⟨i, hi, rfl⟩ := List.getElem_of_mem hr
    exact (h3 i hi hi).1)
  unfold knB
  rw [List.length_append, List.length_append]; omega
theorem flat_lenC {α : Type} {B : α → List UInt8} (c : Nat) : ∀ l : List α, (∀ x ∈ l, (B x).length ≤ c) → (l.flatMap B).length ≤ c * l.length := by
  intro l
  induction l with
  | nil => intro _; simp
  | cons x l ih =>
    intro h
    have h1 := h x List.mem_cons_self
    have h2 := ih (fun y hy => h y (List.mem_cons_of_mem _ hy))
    rw [List.flatMap_cons, List.length_append, List.length_cons, Nat.mul_add]; omega
theorem setB_len {s : List Kn} (h : knsOk s) (hf : fewS s) : (setB s).length ≤ 1500000 := by
  have h1 := flat_lenC (B := knB) 90000 s (fun k hk => by
    have hfk := hf k hk
    obtain ⟨i, hi, rfl⟩ := List.getElem_of_mem hk
    obtain ⟨a, b, _, d⟩ := knsOk_get h hi
    exact knB_len a b d hfk)
  have h2 := knsOk_len h
  have h3 := numI_len (s.length : Int) (by omega)
  unfold setB
  rw [List.length_append]; omega
section
set_option maxRecDepth 10000
set_option maxHeartbeats 8000000
end
end Go.Proofs.YtoiaegbmbhgdpaaGreat
namespace Go.Proofs.YtoiaegbmbhgdpaaGreat
open Go.RowKit
theorem pcB_len {p : Pc} (h1 : rgR p.rg = true) (h2 : knsOk p.set) (h3 : fewS p.set) : (pcB p).length ≤ 1500040 := by
  have q1 := rgB_len h1
  have q2 := setB_len h2 h3
  unfold pcB
  rw [List.length_append]; omega
theorem pcsOk_get {k : List Pc} (h : pcsOk k) {i : Nat} (hi : i < k.length) : rgR k[i].rg = true ∧ knsOk k[i].set := let ⟨a, _, c, _⟩ := h i hi hi; ⟨a, c⟩
def fewK (k : List Pc) : Prop := ∀ p ∈ k, fewS p.set
theorem lis_tot (l : List UInt8) (e : Int) : knsTot (lisSt knSt 16 l e).1 := by
  have h1 := lisSt_len (st := knSt) (most := 16) (by omega) l e
  have h2 := (lis_knSz l e).2
  have : ∀ l : List Kn, (∀ k ∈ l, k.runs.length ≤ 4096) → (l.flatMap Kn.runs).length ≤ 4096 * l.length := by
    intro l
    induction l with
    | nil => intro _; simp
    | cons x l ih =>
      intro h
      have h1 := h x List.mem_cons_self
      have h2 := ih (fun y hy => h y (List.mem_cons_of_mem _ hy))
      rw [List.flatMap_cons, List.length_append, List.length_cons]; omega
  have := this _ h2
  exact ⟨by omega, by omega⟩
theorem pcSt_good (l : List UInt8) (e : Int) : knsTot (pcSt l e).1.set ∧ fewS (pcSt l e).1.set := ⟨lis_tot _ _, (lis_knSz _ _).2⟩
theorem lis_pcSz (l : List UInt8) (e : Int) : pcsSz (lisSt pcSt 4096 l e).1 ∧ fewK (lisSt pcSt 4096 l e).1 := by
  have h1 := lisSt_len (st := pcSt) (most := 4096) (by omega) l e
  have h2 := lisSt_all (p := fun p : Pc => knsTot p.set ∧ fewS p.set) pcSt_good 4096 l e
  exact ⟨⟨by omega, fun p hp => (h2 p hp).1⟩, fun p hp => (h2 p hp).2⟩
section
set_option maxRecDepth 10000
set_option maxHeartbeats 8000000
theorem kc_Know (k : List Pc) (hk : pcsSz k) (hf : fewK k) (hl : k.length ≤ 4096) (b : Bool) (hb : b = true ↔ pcsOk k) : Fn Tryz.prog 104 [pcsB k] (.tup2 (ownB (if b then knowB k else [])) (inR (if b then 0 else 2))) := by
  have h0 := know_Right k hk b hb
  cases b with
  | false =>
    show Fn _ _ _ (.tup2 (ownB []) (inR 2))
    clear hb
    refine fn_intro Tryz.func104 rfl (by kernel_rfl) Tryz.ntmps104 (Nat.le_of_ble_eq_true rfl) ?_
    (have kc1 := h0; refine w0 ?_; (repeat' (first | refine W2.mk ?_ ?_ | refine W1.mk fun hc => ?_)); all_goals clear kc1)
    all_goals (refine ⟨(by first | exact .inl rfl | exact .inr rfl), res2 rfl ?_ ?_⟩)
    all_goals first | exact rv_nil rfl | exact rv_int rfl rfl
  | true =>
    show Fn _ _ _ (.tup2 (ownB (knowB k)) (inR 0))
    have hok := hb.1 rfl
    clear hb
    have hp0 := kc_put [] [(k.length : Int)] (by simp) (ok_small (by omega) (by omega))
    have hn0 := numI_len (k.length : Int) (by omega)
    refine fn_intro Tryz.func104 rfl (by kernel_rfl) Tryz.ntmps104 (Nat.le_of_ble_eq_true rfl) ?_
    (have kc1 := h0; have kc2 := hp0; refine w0 ?_; (repeat' (first | refine W2.mk ?_ ?_ | refine W1.mk fun hc => ?_)); all_goals clear kc2 kc1)
    refine AW_le (Le_mv 18 600) ?_
    refine AW_loopP (X := Nat × List UInt8) (fun x => x.1 ≤ k.length ∧ x.2.length ≤ 10 + 1500040 * x.1 ∧ x.2 ++ (k.drop x.1).flatMap pcB = knowB k)
      (fun x => mkSt [(4, .row 600 0), (19, pcsB k), (20, iC .i64 (k.length : Nat)), (21, iC .i64 (x.1 : Nat))] [(600, .row 5 1 (x.2.map byteP))]) (fun x => k.length - x.1) (0, [(k.length : Int)].flatMap numI) ⟨Nat.zero_le _, by simp; omega, by simp [knowB]⟩ ?_ ?_
    · exact le_auto
    · clear h0 hp0
      rintro ⟨i, acc⟩ ⟨h1, h2, h3⟩
      simp only at h1 h2 h3 ⊢
      by_cases hlt : i < k.length
      · obtain ⟨hr, hs⟩ := pcsOk_get hok hlt
        have hfi := hf _ (List.getElem_mem hlt)
        have hbl := pcB_len hr hs hfi
        have hrl := rgB_len hr
        have hsz := (rgR_iff _).1 hr
        have t1 := textB_len k[i].rg.lo (by omega)
        have t2 := textB_len k[i].rg.hi (by omega)
        have n0 := numI_one (n := 0) (by omega) (by omega)
        rw [List.drop_eq_getElem_cons hlt, List.flatMap_cons] at h3
        have c0 := kc_few k[i].set (hk.at hlt).1 hfi
        have c1 := varint_Text acc [k[i].rg.lo] (by simp; omega)
        clear hok hk hf
        by_cases ho : k[i].rg.op = true
        · have e : pcB k[i] = textB k[i].rg.lo ++ numI 1 ++ setB k[i].set := by unfold pcB rgB; rw [if_pos ho]
          have n1 := numI_one (n := 1) (by omega) (by omega)
          rw [e] at h3 hbl
          have c2 := kc_put (acc ++ [k[i].rg.lo].flatMap textB) [1] (by simp; omega) (ok_small (by omega) (by omega))
          have c4 := kc_set (acc ++ [k[i].rg.lo].flatMap textB ++ [(1 : Int)].flatMap numI) k[i].set (by simp; omega) hs hfi
          clear hs hfi hr
          (have kc1 := c0; have kc2 := c1; have kc3 := c2; have kc4 := c4; refine w0 ?_; (repeat' (first | refine W2.mk ?_ ?_ | refine W1.mk fun hc => ?_)); all_goals clear kc4 kc3 kc2 kc1)
          all_goals first | (exfalso; simp_all; done) | skip
          refine ⟨(i + 1, acc ++ [k[i].rg.lo].flatMap textB ++ [(1 : Int)].flatMap numI ++ setB k[i].set), ⟨by simp only; omega, by simp at hbl ⊢; omega, by rw [← h3]; simp⟩, by simp only; omega, Le_trans (Le_mv 52 600) ?_⟩
          exact le_auto
        · have e : pcB k[i] = textB k[i].rg.lo ++ (numI 0 ++ textB k[i].rg.hi) ++ setB k[i].set := by unfold pcB rgB; rw [if_neg ho]
          rw [e] at h3 hbl
          rw [Bool.not_eq_true] at ho
          have c2 := kc_put (acc ++ [k[i].rg.lo].flatMap textB) [0] (by simp; omega) (ok_small (by omega) (by omega))
          have c3 := varint_Text (acc ++ [k[i].rg.lo].flatMap textB ++ [(0 : Int)].flatMap numI) [k[i].rg.hi] (by simp; omega)
          have c4 := kc_set (acc ++ [k[i].rg.lo].flatMap textB ++ [(0 : Int)].flatMap numI ++ [k[i].rg.hi].flatMap textB) k[i].set (by simp; omega) hs hfi
          clear hs hfi hr
          (have kc1 := c0; have kc2 := c1; have kc3 := c2; have kc4 := c3; have kc5 := c4; refine w0 ?_; (repeat' (first | refine W2.mk ?_ ?_ | refine W1.mk fun hc => ?_)); all_goals clear kc5 kc4 kc3 kc2 kc1)
          all_goals first | (exfalso; simp_all; done) | skip
          refine ⟨(i + 1, acc ++ [k[i].rg.lo].flatMap textB ++ [(0 : Int)].flatMap numI ++ [k[i].rg.hi].flatMap textB ++ setB k[i].set), ⟨by simp only; omega, by simp at hbl ⊢; omega, by rw [← h3]; simp⟩, by simp only; omega, Le_trans (Le_mv 52 600) ?_⟩
          exact le_auto
      · rw [List.drop_of_length_le (by omega), List.flatMap_nil, List.append_nil] at h3
        (refine w0 ?_; (repeat' (first | refine W2.mk ?_ ?_ | refine W1.mk fun hc => ?_)))
        (refine ⟨(by first | exact .inl rfl | exact .inr rfl), res2 rfl ?_ ?_⟩)
        · exact rv_ownM rfl rfl rfl h3
        · exact rv_int rfl rfl
theorem rkc_Know (k : List Pc) (hf : fewK k) (hl : k.length ≤ 4096) (hok : pcsOk k) : Fn Tryz.prog 92 [pcsB k] (ownB (knowB k)) := by
  have hp0 := ref_Bytes (k.length : Int) (by unfold okNum; omega)
  have hn0 := numI_len (k.length : Int) (by omega)
  refine fn_intro Tryz.func92 rfl (by kernel_rfl) Tryz.ntmps92 (Nat.le_of_ble_eq_true rfl) ?_
  (have kc1 := hp0; refine w0 ?_; (repeat' (first | refine W2.mk ?_ ?_ | refine W1.mk fun hc => ?_)); all_goals clear kc1)
  refine AW_le (Le_mv 8 600) ?_
  refine AW_loopP (X := Nat × List UInt8) (fun x => x.1 ≤ k.length ∧ x.2.length ≤ 10 + 1500040 * x.1 ∧ x.2 ++ (k.drop x.1).flatMap pcB = knowB k)
    (fun x => mkSt [(0, pcsB k), (3, .row 600 0), (4, iC .i64 (x.1 : Nat))] [(600, .row 5 1 (x.2.map byteP))]) (fun x => k.length - x.1) (0, numI (k.length : Int)) ⟨Nat.zero_le _, by simp only; omega, by simp [knowB]⟩ ?_ ?_
  · exact le_auto
  · clear hp0
    rintro ⟨i, acc⟩ ⟨h1, h2, h3⟩
    simp only at h1 h2 h3 ⊢
    by_cases hlt : i < k.length
    · obtain ⟨hr, hs⟩ := pcsOk_get hok hlt
      have hfi := hf _ (List.getElem_mem hlt)
      have hbl := pcB_len hr hs hfi
      have hrl := rgB_len hr
      have hsz := (rgR_iff _).1 hr
      have t1 := textB_len k[i].rg.lo (by omega)
      have t2 := textB_len k[i].rg.hi (by omega)
      have n0 := numI_one (n := 0) (by omega) (by omega)
      have n1 := numI_one (n := 1) (by omega) (by omega)
      rw [List.drop_eq_getElem_cons hlt, List.flatMap_cons] at h3
      have c1 := ref_Text k[i].rg.lo (by omega)
      have c2 := ref_Text k[i].rg.hi (by omega)
      have c4 := rkc_Set k[i].set hs hfi
      have hsl := setB_len hs hfi
      clear hok hf hs hfi hr
      by_cases ho : k[i].rg.op = true
      · have e : pcB k[i] = textB k[i].rg.lo ++ numI 1 ++ setB k[i].set := by unfold pcB rgB; rw [if_pos ho]
        rw [e] at h3 hbl
        (have ko1 := c1; have ko2 := c2; have kc1 := c4; refine w0 ?_; (repeat' (first | refine W2.mk ?_ ?_ | refine W1.mk fun hc => ?_ | ((first | apply AL_t rfl | apply AL_0 rfl | apply AD_t rfl | apply AD_0 rfl); (focus (first | ((apply u_k 5; (focus rfl); first | exact u_load_bpT ⟨rfl, rfl, rfl⟩ rfl inferInstance inferInstance rfl rfl rfl rfl | exact u_load_rpT ⟨rfl, rfl, rfl⟩ rfl inferInstance inferInstance rfl rfl rfl rfl)) | (apply u_g; (focus rfl); apply op_gyes rfl rfl rfl rfl rfl; first | ((apply u_k 5; (focus rfl); first | exact u_load_bpT ⟨rfl, rfl, rfl⟩ rfl inferInstance inferInstance rfl rfl rfl rfl | exact u_load_rpT ⟨rfl, rfl, rfl⟩ rfl inferInstance inferInstance rfl rfl rfl rfl))))); refine w0 ?_))); all_goals clear kc1 ko2 ko1)
        all_goals first | (exfalso; simp_all; done) | skip
        refine ⟨(i + 1, acc ++ textB k[i].rg.lo ++ numI 1 ++ setB k[i].set), ⟨by simp only; omega, by simp at hbl ⊢; omega, by rw [← h3]; simp⟩, by simp only; omega, ?_⟩
        (refine Le_mk ?_ ?_; (focus ((repeat (first | exact AllG.nil | (refine AllG.cons ?_ ?_; rotate_left))); (all_goals try (first | rfl | (refine eqI ?_; first | omega | (simp; done) | (simp; omega)) | (refine eqBo ?_; first | (simp; done) | (simp [*]; done)))))); (focus ((repeat (first | exact AllB.nil | (refine AllB.cons ?_ ?_; rotate_left))); (all_goals try (first | rfl | (refine eqRw ?_; (rw [List.map_append] <;> rfl); done) | (refine eqMix ?_; (rw [List.map_append] <;> rfl); done))))))
        show Blk.row _ _ (((acc.map byteP ++ _) ++ [[rawP (.int .u8 1)]]) ++ _) = _
        rw [← numI_1, ← List.map_append, ← List.map_append, ← List.map_append]
      · have e : pcB k[i] = textB k[i].rg.lo ++ (numI 0 ++ textB k[i].rg.hi) ++ setB k[i].set := by unfold pcB rgB; rw [if_neg ho]
        rw [e] at h3 hbl
        rw [Bool.not_eq_true] at ho
        (have ko1 := c1; have ko2 := c2; have kc1 := c4; refine w0 ?_; (repeat' (first | refine W2.mk ?_ ?_ | refine W1.mk fun hc => ?_ | ((first | apply AL_t rfl | apply AL_0 rfl | apply AD_t rfl | apply AD_0 rfl); (focus (first | ((apply u_k 5; (focus rfl); first | exact u_load_bpT ⟨rfl, rfl, rfl⟩ rfl inferInstance inferInstance rfl rfl rfl rfl | exact u_load_rpT ⟨rfl, rfl, rfl⟩ rfl inferInstance inferInstance rfl rfl rfl rfl)) | (apply u_g; (focus rfl); apply op_gyes rfl rfl rfl rfl rfl; first | ((apply u_k 5; (focus rfl); first | exact u_load_bpT ⟨rfl, rfl, rfl⟩ rfl inferInstance inferInstance rfl rfl rfl rfl | exact u_load_rpT ⟨rfl, rfl, rfl⟩ rfl inferInstance inferInstance rfl rfl rfl rfl))))); refine w0 ?_))); all_goals clear kc1 ko2 ko1)
        all_goals first | (exfalso; simp_all; done) | skip
        refine ⟨(i + 1, acc ++ textB k[i].rg.lo ++ numI 0 ++ textB k[i].rg.hi ++ setB k[i].set), ⟨by simp only; omega, by simp at hbl ⊢; omega, by rw [← h3]; simp⟩, by simp only; omega, ?_⟩
        (refine Le_mk ?_ ?_; (focus ((repeat (first | exact AllG.nil | (refine AllG.cons ?_ ?_; rotate_left))); (all_goals try (first | rfl | (refine eqI ?_; first | omega | (simp; done) | (simp; omega)) | (refine eqBo ?_; first | (simp; done) | (simp [*]; done)))))); (focus ((repeat (first | exact AllB.nil | (refine AllB.cons ?_ ?_; rotate_left))); (all_goals try (first | rfl | (refine eqRw ?_; (rw [List.map_append] <;> rfl); done) | (refine eqMix ?_; (rw [List.map_append] <;> rfl); done))))))
        show Blk.row _ _ ((((acc.map byteP ++ _) ++ [[rawP (.int .u8 0)]]) ++ _) ++ _) = _
        rw [← numI_0, ← List.map_append, ← List.map_append, ← List.map_append, ← List.map_append]
    · rw [List.drop_of_length_le (by omega), List.flatMap_nil, List.append_nil] at h3
      (refine w0 ?_; (repeat' (first | refine W2.mk ?_ ?_ | refine W1.mk fun hc => ?_)))
      (refine ⟨(by first | exact .inl rfl | exact .inr rfl), res1 rfl ?_⟩)
      exact rv_ownM rfl rfl rfl h3
theorem kc_piece (l : List UInt8) (e : Int) : FnM Tryz.prog 148 [.aggK rdC .aggN] [(1000, rdBox l e)] (pcC (pcSt l e).1) [(1000, rdBox (pcSt l e).2.1 (pcSt l e).2.2)] := by
  dsimp only [pcSt, rgSt]
  have h1 := r_Text l e 17
  generalize textSt 17 l e = t at *
  have h2 := r_Bool t.2.1 t.2.2
  generalize withinSt 0 1 t.2.1 t.2.2 = o at *
  by_cases ho : (o.1 == 1) = true
  · rw [if_pos ho]
    rw [ho] at h2
    dsimp only
    have h4 := (kc_rset o.2.1 o.2.2).frz3
    generalize lisSt knSt 16 o.2.1 o.2.2 = s at *
    refine fnm_intro Tryz.func148 rfl (by kernel_rfl) Tryz.ntmps148 (Nat.le_of_ble_eq_true rfl) ?_
    (have kr1 := h1; have kr2 := h2; have km1 := (show FnMs [(1000, 1000)] _ _ _ _ _ _ from h4); refine w0 ?_; (repeat' (first | refine W2.mk ?_ ?_ | refine W1.mk fun hc => ?_)); all_goals clear km1 kr2 kr1)
    (refine ⟨(by first | exact .inl rfl | exact .inr rfl), resM1 [(1000, 1000)] rfl rfl ?_ ?_⟩; (focus (repeat (first | exact AllX.nil | (refine AllX.cons rfl ?_ ?_; (focus first | rfl | skip))))))
    exact rvm_cellA inferInstance inferInstance rfl rfl rfl rfl rfl rfl
  · rw [if_neg ho]
    rw [show (o.1 == 1) = false by simpa using ho] at h2
    dsimp only
    have h3 := r_Text o.2.1 o.2.2 17
    generalize textSt 17 o.2.1 o.2.2 = h at *
    have h4 := (kc_rset h.2.1 h.2.2).frz3
    generalize lisSt knSt 16 h.2.1 h.2.2 = s at *
    refine fnm_intro Tryz.func148 rfl (by kernel_rfl) Tryz.ntmps148 (Nat.le_of_ble_eq_true rfl) ?_
    (have kr1 := h1; have kr2 := h2; have kr3 := h3; have km1 := (show FnMs [(1000, 1000)] _ _ _ _ _ _ from h4); refine w0 ?_; (repeat' (first | refine W2.mk ?_ ?_ | refine W1.mk fun hc => ?_)); all_goals clear km1 kr3 kr2 kr1)
    (refine ⟨(by first | exact .inl rfl | exact .inr rfl), resM1 [(1000, 1000)] rfl rfl ?_ ?_⟩; (focus (repeat (first | exact AllX.nil | (refine AllX.cons rfl ?_ ?_; (focus first | rfl | skip))))))
    exact rvm_cellA inferInstance inferInstance rfl rfl rfl rfl rfl rfl
end
end Go.Proofs.YtoiaegbmbhgdpaaGreat
namespace Go.Proofs.YtoiaegbmbhgdpaaGreat
open Go.RowKit
section
set_option maxRecDepth 10000
set_option maxHeartbeats 8000000
theorem kc_ReadKnow (b : List UInt8) (hb : b.length ≤ 1000000000) : Fn Tryz.prog 87 [bytesB b] (.tup2 (.own 158 4 ((rdKnow b).1.map pcP)) (inR (rdKnow b).2)) := by
  have hgood := (lis_pcSz b 0).1
  generalize hQ : rdKnow b = Q at *
  dsimp only [rdKnow, lisSt] at hQ hgood
  have h1 := r_Within b 0 0 4096
  have hn := within_rng0 (most := 4096) (by omega) b 0
  generalize withinSt 0 4096 b 0 = s at *
  obtain ⟨n, l0, e0'⟩ := s
  simp only at h1 hn hQ hgood
  obtain ⟨hn0, hn1⟩ := hn
  obtain ⟨n, rfl⟩ := Int.eq_ofNat_of_zero_le hn0
  rw [Int.toNat_natCast] at hQ hgood
  generalize hR : lsSt pcSt n [] l0 e0' = R at *
  refine fn_intro Tryz.func87 rfl (by kernel_rfl) Tryz.ntmps87 (Nat.le_of_ble_eq_true rfl) ?_
  (have kn1 := v_New b hb; have kr1 := h1; refine w0 ?_; (repeat' (first | refine W2.mk ?_ ?_ | refine W1.mk fun hc => ?_)); all_goals clear kr1 kn1)
  refine AW_le (Le_nil 6 600 158 4 rfl rfl) ?_
  refine AW_loopP (X := Nat × List Pc × List UInt8 × Int) (fun x => x.1 ≤ n ∧ x.2.1.length ≤ x.1 ∧ lsSt pcSt (n - x.1) x.2.1 x.2.2.1 x.2.2.2 = R)
    (fun x => mkSt [(4, .ptr 4 0 0), (5, iC .i64 (n : Nat)), (6, .row 600 0), (7, iC .i64 (x.1 : Nat))] [(4, .box 209 [.ptr 10 0 0]), (10, rdBox x.2.2.1 x.2.2.2), (600, .row 158 4 (x.2.1.map pcP))]) (fun x => n - x.1) (0, [], l0, e0') ⟨Nat.zero_le _, Nat.le_refl _, hR⟩ ?_ ?_
  · exact le_auto
  · clear h1 hR
    rintro ⟨i, acc, l, e⟩ ⟨hi, hacc, hR⟩
    simp only at hi hacc hR ⊢
    have hE := r_Err l e
    by_cases hst : i < n ∧ e = 0
    · obtain ⟨hlt, he⟩ := hst
      subst he
      obtain ⟨m, hm⟩ : ∃ m, n - i = m + 1 := ⟨n - i - 1, by omega⟩
      rw [hm, lsSt, if_neg (by simp)] at hR
      have h2 := kc_piece l 0
      generalize pcSt l 0 = q at *
      clear hQ hgood
      (have kr1 := hE; have km1 := (show FnMs [(1000, 10)] _ _ _ _ _ _ from h2); refine w0 ?_; (repeat' (first | refine W2.mk ?_ ?_ | refine W1.mk fun hc => ?_)); all_goals clear km1 kr1)
      refine ⟨(i + 1, acc ++ [q.1], q.2.1, q.2.2), ⟨by simp only; omega, by simp; omega, by simp only; rw [show n - (i + 1) = m by omega]; exact hR⟩, by simp only; omega, ?_⟩
      exact le_auto
    · have hR2 : R = (acc, l, e) := by
        rw [← hR]
        by_cases he : e = 0
        · rw [show n - i = 0 by omega]; rfl
        · cases n - i with
          | zero => rfl
          | succ m => rw [lsSt, if_pos he]
      subst hR2
      simp only at hQ hgood
      have h2 := r_End l e
      have h3 := know_Right acc hgood (decide (pcsOk acc)) (by simp)
      clear hgood hR
      by_cases hlt : i < n
      · have he : e ≠ 0 := fun q => hst ⟨hlt, q⟩
        have hen : endSt l e ≠ 0 := by unfold endSt; rw [if_neg (fun q => he q.1)]; exact he
        rw [finL, if_pos hen] at hQ
        subst hQ
        clear hst
        (have kr1 := hE; have kr2 := h2; have kc1 := h3; refine w0 ?_; (repeat' (first | refine W2.mk ?_ ?_ | refine W1.mk fun hc => ?_)); all_goals clear kc1 kr2 kr1)
        (refine ⟨(by first | exact .inl rfl | exact .inr rfl), res2 rfl ?_ ?_⟩)
        · exact rv_nil rfl
        · exact rv_int rfl rfl
      · clear hst
        (have kr1 := hE; have kr2 := h2; have kc1 := h3; refine w0 ?_; (repeat' (first | refine W2.mk ?_ ?_ | refine W1.mk fun hc => ?_)); all_goals clear kc1 kr2 kr1)
        · rw [finL, if_pos (by assumption)] at hQ
          subst hQ
          (refine ⟨(by first | exact .inl rfl | exact .inr rfl), res2 rfl ?_ ?_⟩)
          · exact rv_nil rfl
          · exact rv_int rfl rfl
        · rw [finL, if_neg (by simp [*]), if_neg (by simp_all)] at hQ
          subst hQ
          (refine ⟨(by first | exact .inl rfl | exact .inr rfl), res2 rfl ?_ ?_⟩)
          · exact rv_nil rfl
          · exact rv_int rfl rfl
        · rw [finL, if_neg (by simp [*]), if_pos (by simp_all)] at hQ
          subst hQ
          (refine ⟨(by first | exact .inl rfl | exact .inr rfl), res2 rfl ?_ ?_⟩)
          · exact rv_own rfl rfl rfl
          · exact rv_int rfl rfl
theorem rkc_ReadKnow (b : List UInt8) (hb : b.length ≤ 1000000000) : Fn Tryz.prog 64 [.per (bysP b)] (.tup2 (.own 158 4 ((rdKnow b).1.map pcP)) (inR (rdKnow b).2)) := by
  have hgood := (lis_pcSz b 0).1
  have hs : b <:+ b := List.suffix_refl b
  have hb' : b.length ≤ 1000000000000 := by omega
  generalize hQ : rdKnow b = Q at *
  dsimp only [rdKnow, lisSt] at hQ hgood
  have h1 := rr_Within b b 0 hs hb' 0 4096
  have hn := within_rng0 (most := 4096) (by omega) b 0
  replace hs := (withinSt_suf 0 4096 b 0).trans hs
  generalize withinSt 0 4096 b 0 = s at *
  obtain ⟨n, l0, e0'⟩ := s
  simp only at h1 hn hs hQ hgood
  obtain ⟨hn0, hn1⟩ := hn
  obtain ⟨n, rfl⟩ := Int.eq_ofNat_of_zero_le hn0
  rw [Int.toNat_natCast] at hQ hgood
  generalize hR : lsSt pcSt n [] l0 e0' = R at *
  have e0 : ((b.length - b.length : Nat) : Int) = 0 := by omega
  unfold rrBox at h1
  rw [e0] at h1
  refine fn_intro Tryz.func64 rfl (by kernel_rfl) Tryz.ntmps64 (Nat.le_of_ble_eq_true rfl) ?_
  (have kr1 := h1; refine w0 ?_; (repeat' (first | refine W2.mk ?_ ?_ | refine W1.mk fun hc => ?_)); all_goals clear kr1)
  refine AW_le (Le_nil 6 600 158 4 rfl rfl) ?_
  refine AW_loopP (X := Nat × List Pc × List UInt8 × Int) (fun x => x.1 ≤ n ∧ x.2.1.length ≤ x.1 ∧ x.2.2.1 <:+ b ∧ lsSt pcSt (n - x.1) x.2.1 x.2.2.1 x.2.2.2 = R)
    (fun x => mkSt [(4, .ptr 11 0 0), (5, iC .i64 (n : Nat)), (6, .row 600 0), (7, iC .i64 (x.1 : Nat))] [(11, rrBox b x.2.2.1 x.2.2.2), (600, .row 158 4 (x.2.1.map pcP))]) (fun x => n - x.1) (0, [], l0, e0') ⟨Nat.zero_le _, Nat.le_refl _, hs, hR⟩ ?_ ?_
  · exact le_auto
  · clear h1 hR hs
    rintro ⟨i, acc, l, e⟩ ⟨hi, hacc, hs, hR⟩
    simp only at hi hacc hs hR ⊢
    by_cases hst : i < n ∧ e = 0
    · obtain ⟨hlt, he⟩ := hst
      subst he
      obtain ⟨m, hm⟩ : ∃ m, n - i = m + 1 := ⟨n - i - 1, by omega⟩
      rw [hm, lsSt, if_neg (by simp)] at hR
      clear hQ hgood
      dsimp only [pcSt, rgSt] at hR
      have h2 := rr_Text b l 0 hs hb' 17
      replace hs := (textSt_suf 17 l 0).trans hs
      generalize textSt 17 l 0 = t at *
      have h3 := rr_Within b t.2.1 t.2.2 hs hb' 0 1
      replace hs := (withinSt_suf 0 1 t.2.1 t.2.2).trans hs
      generalize withinSt 0 1 t.2.1 t.2.2 = o at *
      by_cases ho : o.1 = 1
      · rw [if_pos (by simp [ho])] at hR
        rw [ho] at h3
        dsimp only at hR
        have h5 := (rkc_ReadIn b o.2.1 o.2.2 hs hb').frz3
        replace hs := (lisSt_suf knSt_suf 16 o.2.1 o.2.2).trans hs
        generalize lisSt knSt 16 o.2.1 o.2.2 = s at *
        (have kr1 := h2; have kr2 := h3; have kr3 := h5; refine w0 ?_; (repeat' (first | refine W2.mk ?_ ?_ | refine W1.mk fun hc => ?_)); all_goals clear kr3 kr2 kr1)
        refine ⟨(i + 1, acc ++ [⟨⟨ba t.1, ByteArray.mk #[], true⟩, s.1⟩], s.2.1, s.2.2), ⟨by simp only; omega, by simp; omega, hs, by simp only; rw [show n - (i + 1) = m by omega]; exact hR⟩, by simp only; omega, ?_⟩
        exact le_auto
      · rw [if_neg (by simp [ho])] at hR
        dsimp only at hR
        have h4 := rr_Text b o.2.1 o.2.2 hs hb' 17
        replace hs := (textSt_suf 17 o.2.1 o.2.2).trans hs
        generalize textSt 17 o.2.1 o.2.2 = h at *
        have h5 := (rkc_ReadIn b h.2.1 h.2.2 hs hb').frz3
        replace hs := (lisSt_suf knSt_suf 16 h.2.1 h.2.2).trans hs
        generalize lisSt knSt 16 h.2.1 h.2.2 = s at *
        (have kr1 := h2; have kr2 := h3; have kr3 := h4; have kr4 := h5; refine w0 ?_; (repeat' (first | refine W2.mk ?_ ?_ | refine W1.mk fun hc => ?_)); all_goals clear kr4 kr3 kr2 kr1)
        refine ⟨(i + 1, acc ++ [⟨⟨ba t.1, ba h.1, false⟩, s.1⟩], s.2.1, s.2.2), ⟨by simp only; omega, by simp; omega, hs, by simp only; rw [show n - (i + 1) = m by omega]; exact hR⟩, by simp only; omega, ?_⟩
        (refine Le_mk ?_ ?_; (focus ((repeat (first | exact AllG.nil | (refine AllG.cons ?_ ?_; rotate_left))); (all_goals try (first | rfl | (refine eqI ?_; first | omega | (simp; done) | (simp; omega)) | (refine eqBo ?_; first | (simp; done) | (simp [*]; done)))))); (focus ((repeat (first | exact AllB.nil | (refine AllB.cons ?_ ?_; rotate_left))); (all_goals try (first | rfl | (refine eqRw ?_; (rw [List.map_append] <;> rfl); done) | (refine eqMix ?_; (rw [List.map_append] <;> rfl); done))))))
        show Blk.row _ _ (acc.map pcP ++ [[_, _, rawP (.bool (o.1 == 1)), _]]) = _
        rw [show (o.1 == 1) = false by simpa using ho, List.map_append]
        rfl
    · have hR2 : R = (acc, l, e) := by
        rw [← hR]
        by_cases he : e = 0
        · rw [show n - i = 0 by omega]; rfl
        · cases n - i with
          | zero => rfl
          | succ m => rw [lsSt, if_pos he]
      subst hR2
      simp only at hQ hgood
      have hD := rr_End b l e hs
      have h3 := rknow_Right acc hgood (decide (pcsOk acc)) (by simp)
      clear hgood hR
      by_cases hlt : i < n
      · have he : e ≠ 0 := fun q => hst ⟨hlt, q⟩
        have hen : endSt l e ≠ 0 := by unfold endSt; rw [if_neg (fun q => he q.1)]; exact he
        rw [finL, if_pos hen] at hQ
        subst hQ
        clear hst
        (have kr1 := hD; have kc1 := h3; refine w0 ?_; (repeat' (first | refine W2.mk ?_ ?_ | refine W1.mk fun hc => ?_)); all_goals clear kc1 kr1)
        (refine ⟨(by first | exact .inl rfl | exact .inr rfl), res2 rfl ?_ ?_⟩)
        · exact rv_nil rfl
        · exact rv_int rfl rfl
      · clear hst
        (have kr1 := hD; have kc1 := h3; refine w0 ?_; (repeat' (first | refine W2.mk ?_ ?_ | refine W1.mk fun hc => ?_)); all_goals clear kc1 kr1)
        · rw [finL, if_pos (by assumption)] at hQ
          subst hQ
          (refine ⟨(by first | exact .inl rfl | exact .inr rfl), res2 rfl ?_ ?_⟩)
          · exact rv_nil rfl
          · exact rv_int rfl rfl
        · rw [finL, if_neg (by simp [*]), if_neg (by simp_all)] at hQ
          subst hQ
          (refine ⟨(by first | exact .inl rfl | exact .inr rfl), res2 rfl ?_ ?_⟩)
          · exact rv_nil rfl
          · exact rv_int rfl rfl
        · rw [finL, if_neg (by simp [*]), if_pos (by simp_all)] at hQ
          subst hQ
          (refine ⟨(by first | exact .inl rfl | exact .inr rfl), res2 rfl ?_ ?_⟩)
          · exact rv_own rfl rfl rfl
          · exact rv_int rfl rfl
end
end Go.Proofs.YtoiaegbmbhgdpaaGreat
