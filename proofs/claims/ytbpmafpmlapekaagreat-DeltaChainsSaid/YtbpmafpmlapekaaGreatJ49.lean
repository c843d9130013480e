/- Texts joined: ChW ChL. -/
import Derived.Test.YtbpmafpmlapekaaGreatJ45
import Derived.Test.YtbpmafpmlapekaaGreatJ48
namespace Go.Proofs.YtbpmafpmlapekaaGreat
open Go.RowKit
abbrev pcsQ (k : List Pc) : List PV := [pcsP k]
abbrev bysQ (d : List UInt8) : List PV := [bysP d]
theorem chain_mid : ∀ (ds : List (List UInt8)) (a : List Pc), midC a ds → (chainK a ds).2 = 0 → pcsMid (chainK a ds).1 := by
  intro ds
  induction ds with
  | nil => intro a h _; exact h
  | cons d ds ih =>
    intro a h e
    rw [chainK] at e ⊢
    by_cases c : (applyK a d).2 = 0
    · rw [if_pos c] at e ⊢
      exact ih _ (h.2.2.2 c) e
    · rw [if_neg c] at e; exact absurd e c
section
set_option maxRecDepth 10000
set_option maxHeartbeats 8000000
theorem kd_Chain (a : List Pc) (ds : List (List UInt8)) (h : midC a ds) (hl : ds.length ≤ 1000) :
    Fn Tryz.prog 16 [pcsC a, .bor 1 (ds.map bysQ)] (.tup2 (.per (pcsP (if (chainK a ds).2 = 0 then ofK (chainK a ds).1 else []))) (inR (chainK a ds).2)) := by
  generalize hR : chainK a ds = R
  obtain ⟨K, E⟩ := R
  refine fn_intro Tryz.func16 rfl (by kernel_rfl) Tryz.ntmps16 (Nat.le_of_ble_eq_true rfl) ?_
  (refine w0 ?_; (repeat' (first | refine W2.mk ?_ ?_ | refine W1.mk fun hc => ?_)))
  refine AW_loopP (X := List Pc × Nat) (fun z => z.2 ≤ ds.length ∧ midC z.1 (ds.drop z.2) ∧ chainK z.1 (ds.drop z.2) = (K, E))
    (fun z => mkSt [(6, pcsC z.1), (12, .bor 1 (ds.map bysQ)), (13, iC .i64 (ds.length : Nat)), (14, iC .i64 ((z.2 : Nat) : Int))] []) (fun z => ds.length - z.2) (a, 0) ⟨Nat.zero_le _, h, hR⟩ ?_ ?_
  · exact le_auto
  · rintro ⟨c, i⟩ ⟨h1, h2, h3⟩
    simp only at h1 h2 h3 ⊢
    by_cases hlt : i < ds.length
    · rw [List.drop_eq_getElem_cons hlt] at h2 h3
      obtain ⟨g1, g2, g3, g4⟩ := h2
      have c1 := kd_Apply c ds[i] g1 g2 g3
      rw [chainK] at h3
      by_cases e : (applyK c ds[i]).2 = 0
      · rw [if_pos e] at h3
        have g4 := g4 e
        rw [e] at c1
        generalize (applyK c ds[i]).1 = c' at *
        clear h hR g3 e
        (have kc1 := c1; refine w0 ?_; (repeat' (first | refine W2.mk ?_ ?_ | refine W1.mk fun hc => ?_)); all_goals clear kc1)
        refine ⟨(c', i + 1), ⟨by simp only; omega, g4, h3⟩, by simp only; omega, ?_⟩
        exact le_auto
      · rw [if_neg e] at h3
        have q := apply_no e
        rw [h3] at c1 e q
        simp only at c1 e q
        subst q
        clear h hR g3 g4 h3
        (have kc1 := c1; refine w0 ?_; (repeat' (first | refine W2.mk ?_ ?_ | refine W1.mk fun hc => ?_)); all_goals clear kc1)
        (refine ⟨(by first | exact .inl rfl | exact .inr rfl), res2 rfl ?_ ?_⟩)
        · rw [if_neg e]; exact rv_nill rfl
        · exact rv_int rfl rfl
    · rw [List.drop_of_length_le (by omega)] at h2 h3
      cases h3
      have c1 := (kn_Of K h2).frz
      generalize ofK K = Q at *
      clear h hR h2
      (have kc1 := c1; refine w0 ?_; (repeat' (first | refine W2.mk ?_ ?_ | refine W1.mk fun hc => ?_)); all_goals clear kc1)
      (refine ⟨(by first | exact .inl rfl | exact .inr rfl), res2 rfl ?_ ?_⟩)
      · exact rv_lstM rfl rfl
      · exact rv_int rfl rfl
end
end Go.Proofs.YtbpmafpmlapekaaGreat
namespace Go.Proofs.YtbpmafpmlapekaaGreat
open Go.RowKit
/-- the law's own loop over the deltas: what is there, and what is wrong, goes on -/
def goC (z : List Pc × Int) (ds : List (List UInt8)) : List Pc × Int := if z.2 = 0 then chainK z.1 ds else z
theorem goC_cons (z : List Pc × Int) (d : List UInt8) (ds : List (List UInt8)) : goC z (d :: ds) = if z.2 = 0 then goC (applyK z.1 d) ds else goC z ds := by
  unfold goC
  by_cases h : z.2 = 0
  · rw [if_pos h, if_pos h, chainK]
  · rw [if_neg h, if_neg h, if_neg h]
theorem steps_chain : ∀ (r : List (List Pc)) (i : Nat) (A p : List Pc), szL i A → pcsOk p → longPcs p 8 = false → cov A p → (∀ x ∈ r, pcsOk x ∧ longPcs x 8 = false) → i + r.length ≤ 4 →
    midC A (stpK p r) ∧ chainK A (stpK p r) = (allK A r, 0) ∧ szL (i + r.length) (allK A r) := by
  intro r
  induction r with
  | nil =>
    intro i A p h _ _ _ _ hi
    have := h.mid (by omega)
    exact ⟨⟨by omega, by omega, by omega⟩, rfl, h⟩
  | cons x r ih =>
    intro i A p h hp lp hc hr hi
    rw [List.length_cons] at hi
    obtain ⟨hx, lx⟩ := hr x (by simp)
    have sx := long_short lx
    have sp := long_short lp
    have zx := (longPcs_sz lx).1
    have zp := (longPcs_sz lp).1
    have hs := lessKn_set hx hp sx sp
    have hm := lessKn_mid hx hp sx sp (by omega) (by omega)
    have hf : fewK (lessKn x p) := fun q hq => (hs q hq).2.2
    have hok := (lessKn_ok x p).1
    have hb := knowB_len2 hok hf (by omega)
    have hA := h.mid (by omega)
    have e1 : applyK A (knowB (lessKn x p)) = (ofK (A ++ x), 0) := by rw [applyK_put h.1 hok hf (by omega), cov_join hc]
    have e2 := rdKnow_put hok hf (by omega)
    obtain ⟨g1, g2, g3⟩ := ih (i + 1) (ofK (A ++ x)) x (h.next hx lx) hx lx (cov_next A x) (fun y hy => hr y (List.mem_cons_of_mem _ hy)) (by omega)
    refine ⟨⟨⟨by omega, by omega, by omega⟩, by omega, by rw [e2]; exact mid_app (by simp only; omega) (by simp only; omega) (by simp only; omega), fun _ => by rw [e1]; exact g1⟩, ?_, ?_⟩
    · show chainK A (knowB (lessKn x p) :: stpK x r) = _
      rw [chainK, e1, if_pos rfl]; exact g2
    · rw [List.length_cons, show i + (r.length + 1) = i + 1 + r.length by omega]; exact g3
theorem stpK_sz : ∀ (r : List (List Pc)) (p : List Pc), (stpK p r).length = r.length := by
  intro r
  induction r with
  | nil => intro p; rfl
  | cons x r ih => intro p; simp [stpK, ih]
theorem getD_at {α : Type} (l : List α) (i : Nat) (d : α) (h : i < l.length) : l.getD i d = l[i] := by rw [List.getD_eq_getElem?_getD, List.getElem?_eq_getElem h]; rfl
theorem right_all {l : List (List Pc)} (h0 : 0 < l.length) (hr : ∀ j (h : j < l.length), pcsOk l[j]) (hlong : ∀ x ∈ l, longPcs x 8 = false) (h5 : l.length ≤ 5) :
    midC l[0] (stpK l[0] (l.drop 1)) ∧ chainK l[0] (stpK l[0] (l.drop 1)) = (allK l[0] (l.drop 1), 0) ∧ pcsMid (allK l[0] (l.drop 1)) ∧ (allK l[0] (l.drop 1)).length ≤ 100 := by
  have hl := hlong l[0] (List.getElem_mem h0)
  obtain ⟨h1, h2, h3⟩ := steps_chain (l.drop 1) 0 l[0] l[0] (long_szL (hr 0 h0) hl) (hr 0 h0) hl (fun _ _ _ _ h => h) (fun x hx => by
    have hx := List.mem_of_mem_drop hx
    obtain ⟨j, hj, rfl⟩ := List.getElem_of_mem hx
    exact ⟨hr j hj, hlong _ hx⟩) (by rw [List.length_drop]; omega)
  have := h3.mid (by rw [List.length_drop]; omega)
  exact ⟨h1, h2, ⟨by omega, by omega, by omega⟩, this.1⟩
section
set_option maxRecDepth 10000
set_option maxHeartbeats 8000000
theorem lawDe_chains (l : List (List Pc)) (d : List (List UInt8)) : Fn Tryz.prog 5 [.per (lstP 1 (l.map pcsQ)), .per (lstP 1 (d.map bysQ))] (boR true) := by
  have h0 := awake17
  by_cases hs : ¬ (l.length ≤ 5 ∧ d.length ≤ 5 ∧ 0 < l.length)
  · refine fn_intro Tryz.func5 rfl (by kernel_rfl) Tryz.ntmps5 (Nat.le_of_ble_eq_true rfl) ?_
    (have kc1 := h0; refine w0 ?_; (repeat' (first | refine W2.mk ?_ ?_ | refine W1.mk fun hc => ?_)); all_goals clear kc1)
    all_goals first
      | ((refine ⟨(by first | exact .inl rfl | exact .inr rfl), res1 rfl ?_⟩); exact rv_bool rfl rfl; done)
      | (exfalso; omega)
  obtain ⟨hl5, hd5, hl0⟩ := Decidable.not_not.1 hs
  refine fn_intro Tryz.func5 rfl (by kernel_rfl) Tryz.ntmps5 (Nat.le_of_ble_eq_true rfl) ?_
  (have kc1 := h0; refine w0 ?_; (repeat' (first | refine W2.mk ?_ ?_ | refine W1.mk fun hc => ?_)); all_goals clear kc1)
  clear h0
  refine AW_loopP (X := Nat) (fun z => z ≤ l.length ∧ ∀ j (h : j < l.length), j < z → longPcs l[j] 8 = false)
    (fun z => mkSt [(0, .per (lstP 1 (l.map pcsQ))), (1, .per (lstP 1 (d.map bysQ))), (34, .per (lstP 1 (l.map pcsQ))), (35, iC .i64 (l.length : Nat)), (36, iC .i64 ((z : Nat) : Int))] []) (fun z => l.length - z) 0 ⟨Nat.zero_le _, fun _ _ h => by omega⟩ ?_ ?_
  · exact le_auto
  rintro z ⟨hz, hlong⟩
  by_cases hlt : z < l.length
  · have c1 := rknow_Long l[z] 8 (by decide)
    cases hlg : longPcs l[z] 8 with
    | true =>
      rw [hlg] at c1
      (have kc1 := c1; refine w0 ?_; (repeat' (first | refine W2.mk ?_ ?_ | refine W1.mk fun hc => ?_)); all_goals clear kc1)
      (refine ⟨(by first | exact .inl rfl | exact .inr rfl), res1 rfl ?_⟩)
      exact rv_bool rfl rfl
    | false =>
      rw [hlg] at c1
      (have kc1 := c1; refine w0 ?_; (repeat' (first | refine W2.mk ?_ ?_ | refine W1.mk fun hc => ?_)); all_goals clear kc1)
      refine ⟨z + 1, ⟨hlt, fun j h hj => ?_⟩, by omega, ?_⟩
      · rcases Nat.lt_or_ge j z with q | q
        · exact hlong j h q
        · have e : j = z := by omega
          subst e; exact hlg
      · exact le_auto
  replace hlong : ∀ x ∈ l, longPcs x 8 = false := fun x hx => by
    obtain ⟨j, hj, rfl⟩ := List.getElem_of_mem hx
    exact hlong j hj (by omega)
  have ra := long_ready (hlong l[0] (List.getElem_mem hl0))
  (refine w0 ?_; (repeat' (first | refine W2.mk ?_ ?_ | refine W1.mk fun hc => ?_)))
  refine AW_loopP (X := (List Pc × Int) × Nat) (fun z => z.2 ≤ d.length ∧ (∀ x ∈ d.take z.2, x.length ≤ 400) ∧ (z.1.2 = 0 → ready (200 * z.2) z.1.1) ∧ goC z.1 (d.drop z.2) = chainK l[0] d)
    (fun z => mkSt [(0, .per (lstP 1 (l.map pcsQ))), (1, .per (lstP 1 (d.map bysQ))), (7, pcsC z.1.1), (8, iC .i64 z.1.2), (46, .per (lstP 1 (d.map bysQ))), (47, iC .i64 (d.length : Nat)), (48, iC .i64 ((z.2 : Nat) : Int))] []) (fun z => d.length - z.2) ((l[0], 0), 0) ⟨Nat.zero_le _, by simp, fun _ => ra, rfl⟩ ?_ ?_
  · exact le_auto
  rintro ⟨⟨K, e⟩, i⟩ ⟨h1, h2, h3, h4⟩
  simp only at h1 h2 h3 h4 ⊢
  by_cases hlt2 : i < d.length
  · by_cases hb : d[i].length ≤ 400
    · rw [List.drop_eq_getElem_cons hlt2, goC_cons] at h4
      simp only at h4
      have h2' : ∀ x ∈ d.take (i + 1), x.length ≤ 400 := fun x hx => by
        rw [List.take_succ_eq_append_getElem hlt2, List.mem_append] at hx
        rcases hx with hx | hx
        · exact h2 x hx
        · have : x = d[i] := by simpa using hx
          rw [this]; exact hb
      by_cases he : e = 0
      · subst he
        rw [if_pos rfl] at h4
        have h3 := h3 rfl
        have hr := rdKnow_mid d[i]
        have c1 := rkd_Apply K d[i] h3.mid (by omega) (h3.app hb) ⟨by omega, by omega, by omega⟩ (by have := h3.1.1; omega) (by omega)
        have hn := fun q => (h3.next hb (by omega) q).2
        generalize applyK K d[i] = Z at *
        obtain ⟨Z1, Z2⟩ := Z
        simp only at c1 hn
        clear h2 h3 hr ra hlong
        (have kc1 := c1; refine w0 ?_; (repeat' (first | refine W2.mk ?_ ?_ | refine W1.mk fun hc => ?_)); all_goals clear kc1)
        refine ⟨((Z1, Z2), i + 1), ⟨by simp only; omega, h2', fun q => by have := hn q; rwa [show 200 * (i + 1) = 200 * i + 200 by omega], h4⟩, by simp only; omega, ?_⟩
        exact le_auto
      · rw [if_neg he] at h4
        clear h2 h3 ra hlong
        (refine w0 ?_; (repeat' (first | refine W2.mk ?_ ?_ | refine W1.mk fun hc => ?_)))
        refine ⟨((K, e), i + 1), ⟨by simp only; omega, h2', fun q => absurd q he, h4⟩, by simp only; omega, ?_⟩
        exact le_auto
    · clear h2 h3 h4 ra hlong
      (refine w0 ?_; (repeat' (first | refine W2.mk ?_ ?_ | refine W1.mk fun hc => ?_)))
      (refine ⟨(by first | exact .inl rfl | exact .inr rfl), res1 rfl ?_⟩)
      exact rv_bool rfl rfl
  rw [List.take_of_length_le (by omega)] at h2
  rw [List.drop_of_length_le (by omega)] at h4
  have hKe : chainK l[0] d = (K, e) := by
    rw [← h4]
    unfold goC
    simp only
    split
    · rename_i q; rw [q]; rfl
    · rfl
  obtain ⟨m1, m2, m3, m4⟩ := ra.chain d 0 l[0] h2 (by omega)
  have c1 := kd_Chain l[0] d m1 (by omega)
  rw [hKe] at c1 m2 m3 m4
  simp only at c1 m2 m3 m4
  clear h1 h2 h3 h4 m1 hKe
  have c2 := rkn_Of K m2 (by omega)
  have c3 := rknow_Same (ofK K) (ofK K) (ofK_pcsSz m2)
  rw [decide_eq_true rfl] at c3
  apply joinG
  case' k =>
    intro rest
    by_cases he : e = 0
    · rw [if_pos he] at c1
      (have kf1 := c1; have ko1 := c2; have kc1 := c3; refine w0 ?_; (repeat' (first | refine W2.mk ?_ ?_ | refine W1.mk fun hc => ?_)); all_goals clear kc1 ko1 kf1)
      refine AW_le (S' := mkSt [(0, .per (lstP 1 (l.map pcsQ))), (13, .per (rawP (.slice none 0 0))), (14, pcsC l[0]), (98, .per (lstP 1 (l.map pcsQ))), (99, iC .i64 (l.length : Nat)), (100, iC .i64 ((0 : Nat) : Int))] []) ?_ rest.h
      exact le_auto
    · rw [if_neg he] at c1
      (have kf1 := c1; refine w0 ?_; (repeat' (first | refine W2.mk ?_ ?_ | refine W1.mk fun hc => ?_)); all_goals clear kf1)
      refine AW_le (S' := mkSt [(0, .per (lstP 1 (l.map pcsQ))), (13, .per (rawP (.slice none 0 0))), (14, pcsC l[0]), (98, .per (lstP 1 (l.map pcsQ))), (99, iC .i64 (l.length : Nat)), (100, iC .i64 ((0 : Nat) : Int))] []) ?_ rest.h
      exact le_auto
  clear c1 c2 c3 m2 m3 m4 ra
  refine AW_le (Le_nil 13 700 25 1 rfl rfl) ?_
  refine AW_loopP (X := Nat × List Pc × List (List UInt8)) (fun z => z.1 ≤ l.length ∧ (∀ j (h : j < l.length), j < z.1 → pcsOk l[j]) ∧ (1 ≤ z.1 → szL (z.1 - 1) z.2.1) ∧ z.2.2.length ≤ z.1 ∧
      z.2.2 ++ stpK (l.getD (z.1 - 1) []) (l.drop (z.1 - 1 + 1)) = stpK l[0] (l.drop 1) ∧ allK z.2.1 (l.drop (z.1 - 1 + 1)) = allK l[0] (l.drop 1) ∧ (z.1 = 0 → z.2.1 = l[0]))
    (fun z => mkSt [(0, .per (lstP 1 (l.map pcsQ))), (13, .row 700 0), (14, pcsC z.2.1), (98, .per (lstP 1 (l.map pcsQ))), (99, iC .i64 (l.length : Nat)), (100, iC .i64 ((z.1 : Nat) : Int))] [(700, .row 25 1 (z.2.2.map bysQ))])
    (fun z => l.length - z.1) (0, l[0], []) ⟨Nat.zero_le _, fun _ _ h => by simp at h, fun h => by simp at h, by simp, by show [] ++ stpK (l.getD 0 []) (l.drop 1) = _; rw [getD_at _ _ _ hl0]; rfl, rfl, fun _ => rfl⟩ ?_ ?_
  · exact le_auto
  rintro ⟨i, A, st⟩ ⟨p1, p2, p3, p4, p5, p6, p7⟩
  simp only at p1 p2 p3 p4 p5 p6 p7 ⊢
  by_cases hi : i < l.length
  · have hx := hlong l[i] (List.getElem_mem hi)
    have mx := long_mid hx (by omega)
    cases hr : decide (pcsOk l[i]) with
    | false =>
      have c1 := rknow_Right l[i] (pcsMid_sz mx) false (by simpa using hr)
      clear p2 p3 p5 p6 p7 mx hx hr hlong
      (have kc1 := c1; refine w0 ?_; (repeat' (first | refine W2.mk ?_ ?_ | refine W1.mk fun hc => ?_)); all_goals clear kc1)
      (refine ⟨(by first | exact .inl rfl | exact .inr rfl), res1 rfl ?_⟩)
      exact rv_bool rfl rfl
    | true =>
      have c1 := rknow_Right l[i] (pcsMid_sz mx) true (by simpa using hr)
      have rx : pcsOk l[i] := by simpa using hr
      have p2' : ∀ j (h : j < l.length), j < i + 1 → pcsOk l[j] := fun j h hj => by
        rcases Nat.lt_or_ge j i with q | q
        · exact p2 j h q
        · have e : j = i := by omega
          subst e; exact rx
      by_cases h0 : i = 0
      · subst h0
        have e := p7 rfl
        subst e
        have st0 : st = [] := List.eq_nil_of_length_eq_zero (by omega)
        subst st0
        have sz0 := long_szL rx hx
        have p2' := Lib.hid p2'
        clear p2 p3 p7 hr hx mx rx hlong
        (have kc1 := c1; refine w0 ?_; (repeat' (first | refine W2.mk ?_ ?_ | refine W1.mk fun hc => ?_)); all_goals clear kc1)
        refine ⟨(1, l[0], []), ⟨by simp only; omega, p2'.out, fun _ => sz0, by simp, p5, p6, fun h => by simp at h⟩, by simp only; omega, ?_⟩
        exact le_auto
      · have hi1 : ((i : Int) - 1).toNat < l.length := by omega
        have ei : ((i : Int) - 1).toNat = i - 1 := by omega
        have hp := hlong l[((i : Int) - 1).toNat] (List.getElem_mem hi1)
        have mp := long_mid hp (by omega)
        have rp := p2 ((i : Int) - 1).toNat hi1 (by omega)
        have zx := (longPcs_sz hx).1
        have zp := (longPcs_sz hp).1
        have sA := p3 (by omega)
        have mA := sA.mid (by omega)
        have ng := sA.next rx hx
        have c2 := (rkd_Delta l[((i : Int) - 1).toNat] l[i] mp mx rp rx (long_short hp) (long_short hx) (by omega) (by omega)).frz
        have c3 := (rkn_Join A l[i] ⟨by omega, by omega, by omega⟩ mx (by
          have q1 := flat_bnd Pc.set 16 l[i] (fun p hp => by have := (longKns_sz ((longPcs_sz hx).2 p hp).2.2).1; omega)
          have q2 := flat2_bnd 256 l[i] (long_short hx)
          exact mid_app (by omega) (by omega) (by omega)) (by omega) (by omega)).frz
        rw [show i - 1 + 1 = i by omega, List.drop_eq_getElem_cons hi] at p5 p6
        rw [show l.getD (i - 1) [] = l[((i : Int) - 1).toNat] by rw [getD_at _ _ _ (show i - 1 < l.length by omega)]; congr 1; omega, stpK] at p5
        rw [allK, List.foldl_cons] at p6
        rw [show i - 1 + 1 = i + 1 - 1 by omega] at ng
        have p5' : (st ++ [knowB (lessKn l[i] l[((i : Int) - 1).toNat])]) ++ stpK (l.getD (i + 1 - 1) []) (l.drop (i + 1 - 1 + 1)) = stpK l[0] (l.drop 1) := by
          rw [List.append_assoc, ← p5, getD_at _ _ _ (show i + 1 - 1 < l.length by omega)]; rfl
        have p6' : allK (ofK (A ++ l[i])) (l.drop (i + 1 - 1 + 1)) = allK l[0] (l.drop 1) := p6
        clear p5 p6 p7 p3 p2 mx hx rx hr hp mp rp sA mA zx zp hlong ei
        have p5' := Lib.hid p5'
        have p6' := Lib.hid p6'
        have p2' := Lib.hid p2'
        generalize ofK (A ++ l[i]) = A' at *
        generalize knowB (lessKn l[i] l[((i : Int) - 1).toNat]) = D at *
        (have kf1 := c1; have kf2 := c2; have kf3 := c3; refine w0 ?_; (repeat' (first | refine W2.mk ?_ ?_ | refine W1.mk fun hc => ?_)); all_goals clear kf3 kf2 kf1)
        refine ⟨(i + 1, A', st ++ [D]), ⟨by simp only; omega, p2'.out, fun _ => ng, by simp; omega, p5'.out, p6'.out, fun h => by simp at h⟩, by simp only; omega, Le_trans (Le_mv 700 701) (Le_trans (Le_mv 701 700) ?_)⟩
        exact le_auto
  · have hi : i = l.length := by omega
    subst hi
    rw [List.drop_of_length_le (by omega)] at p5 p6
    have p5 : st = stpK l[0] (l.drop 1) := by rw [← p5]; simp [stpK]
    have p6 : A = allK l[0] (l.drop 1) := p6
    obtain ⟨q1, q2, q3, q4⟩ := right_all hl0 (fun j h => p2 j h h) hlong hl5
    rw [← p5, ← p6] at q2
    rw [← p5] at q1
    rw [← p6] at q3 q4
    have c1 := kd_Chain l[0] st q1 (by omega)
    rw [q2] at c1
    simp only [if_true] at c1
    have c2 := rkn_Of A q3 (by omega)
    have c3 := rknow_Same (ofK A) (ofK A) (ofK_pcsSz q3)
    rw [decide_eq_true rfl] at c3
    clear p2 p3 p5 p6 p7 q1 q2 q3 q4 hlong
    generalize ofK A = R at *
    (refine w0 ?_; (repeat' (first | refine W2.mk ?_ ?_ | refine W1.mk fun hc => ?_)))
    refine AL_le (Le_fz 700 _ 25 1 rfl rfl) ?_
    (have kf1 := c1; have ko1 := c2; have kc1 := c3; refine w0 ?_; (repeat' (first | refine W2.mk ?_ ?_ | refine W1.mk fun hc => ?_)); all_goals clear kc1 ko1 kf1)
    (refine ⟨(by first | exact .inl rfl | exact .inr rfl), res1 rfl ?_⟩)
    exact rv_bool rfl rfl
end
end Go.Proofs.YtbpmafpmlapekaaGreat
