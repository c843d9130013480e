/- Texts joined: Kc KcR. -/
import Derived.Test.YtoiaegbmbhgdpaaGreatJ23
namespace Go.Proofs.YtoiaegbmbhgdpaaGreat
open Go.RowKit
theorem ok2 {a b : Int} (h : okNum a) (h' : okNum b) : ∀ n ∈ [a, b], okNum n := fun n hn => by
  simp only [List.mem_cons, List.not_mem_nil, or_false] at hn
  rcases hn with rfl | rfl <;> assumption
theorem fm2 (a b : Int) : [a, b].flatMap numI = numI a ++ numI b := by simp
theorem runs_rise {l : List Rn} (h : rnsOk l) {j : Nat} (hj : j + 1 < l.length) : l[j].to ≤ l[j + 1].fr := by
  have := (h (j + 1) hj hj).2 (by omega)
  simp only [Nat.add_sub_cancel] at this
  omega
section
set_option maxRecDepth 10000
set_option maxHeartbeats 8000000
theorem kc_put (l : List UInt8) (ns : List Int) (hb : l.length + 9 * ns.length ≤ 1000000000000) (hok : ∀ n ∈ ns, okNum n) : Fn Tryz.prog 154 [bytesB l, intsB ns] (ownB (l ++ ns.flatMap numI)) := by
  have h := varint_Put l ns hb hok
  refine fn_intro Tryz.func154 rfl (by kernel_rfl) Tryz.ntmps154 (Nat.le_of_ble_eq_true rfl) ?_
  (have kc1 := h; refine w0 ?_; (repeat' (first | refine W2.mk ?_ ?_ | refine W1.mk fun hc => ?_)); all_goals clear kc1)
  (refine ⟨(by first | exact .inl rfl | exact .inr rfl), res1 rfl ?_⟩)
  exact rv_own rfl rfl rfl
theorem kc_few (s : List Kn) (hs : s.length ≤ 1000000000) (hf : fewS s) : Fn Tryz.prog 155 [knsB s] (boR true) := by
  refine fn_intro Tryz.func155 rfl (by kernel_rfl) Tryz.ntmps155 (Nat.le_of_ble_eq_true rfl) ?_
  (refine w0 ?_; (repeat' (first | refine W2.mk ?_ ?_ | refine W1.mk fun hc => ?_)))
  refine AW_loopP (X := Nat) (fun z => z ≤ s.length) (fun z => mkSt [(5, knsB s), (6, iC .i64 (s.length : Nat)), (7, iC .i64 (z : Nat))] []) (fun z => s.length - z) 0 (Nat.zero_le _) ?_ ?_
  · exact le_auto
  · intro z hz
    by_cases hlt : z < s.length
    · have h1 := hf _ (List.getElem_mem hlt)
      (refine w0 ?_; (repeat' (first | refine W2.mk ?_ ?_ | refine W1.mk fun hc => ?_)))
      refine ⟨z + 1, by omega, by omega, ?_⟩
      exact le_auto
    · (refine w0 ?_; (repeat' (first | refine W2.mk ?_ ?_ | refine W1.mk fun hc => ?_)))
      (refine ⟨(by first | exact .inl rfl | exact .inr rfl), res1 rfl ?_⟩)
      exact rv_bool rfl rfl
theorem kc_set (b : List UInt8) (s : List Kn) (hb : b.length ≤ 100000000000) (hok : knsOk s) (hf : fewS s) : Fn Tryz.prog 156 [bytesB b, knsB s] (ownB (b ++ setB s)) := by
  have hs16 := knsOk_len hok
  have c0 := kc_put b [(s.length : Int)] (by simp; omega) (ok_small (by omega) (by omega))
  have hn0 := numI_len (s.length : Int) (by omega)
  refine fn_intro Tryz.func156 rfl (by kernel_rfl) Tryz.ntmps156 (Nat.le_of_ble_eq_true rfl) ?_
  (have kc1 := c0; refine w0 ?_; (repeat' (first | refine W2.mk ?_ ?_ | refine W1.mk fun hc => ?_)); all_goals clear kc1)
  refine AW_le (Le_mv 14 600) ?_
  refine AW_loopP (X := Nat × List UInt8) (fun x => x.1 ≤ s.length ∧ x.2.length ≤ b.length + 10 + 90000 * x.1 ∧ x.2 ++ (s.drop x.1).flatMap knB = b ++ setB s)
    (fun x => mkSt [(0, .row 600 0), (15, knsB s), (16, iC .i64 (s.length : Nat)), (17, iC .i64 (x.1 : Nat))] [(600, .row 5 1 (x.2.map byteP))]) (fun x => s.length - x.1) (0, b ++ [(s.length : Int)].flatMap numI) ⟨Nat.zero_le _, by simp; omega, by simp [setB]⟩ ?_ ?_
  · exact le_auto
  · clear c0
    rintro ⟨k, acc⟩ ⟨h1, h2, h3⟩
    simp only at h1 h2 h3 ⊢
    by_cases hlt : k < s.length
    · obtain ⟨a1, a2, a3, a4⟩ := knsOk_get hok hlt
      have hfk := hf _ (List.getElem_mem hlt)
      rw [List.drop_eq_getElem_cons hlt, List.flatMap_cons] at h3
      have c1 := kc_put acc [s[k].rep, (s[k].runs.length : Int)] (by simp; omega) (ok2 (by unfold okNum; omega) (by unfold okNum; omega))
      have n1 := numI_len s[k].rep (by omega)
      have n2 := numI_len (s[k].runs.length : Int) (by omega)
      clear hok hf
      (have kc1 := c1; refine w0 ?_; (repeat' (first | refine W2.mk ?_ ?_ | refine W1.mk fun hc => ?_)); all_goals clear kc1)
      refine AW_le (Le_mv 28 600) ?_
      refine AW_loopP (X := Nat × Int × List UInt8) (fun x => x.1 ≤ s[k].runs.length ∧ 0 ≤ x.2.1 ∧ x.2.1 ≤ 1099511627776 ∧ (∀ h : x.1 < s[k].runs.length, x.2.1 ≤ s[k].runs[x.1].fr) ∧ x.2.2.length ≤ acc.length + 20 + 20 * x.1 ∧ x.2.2 ++ (runsB x.2.1 (s[k].runs.drop x.1) ++ (s.drop (k + 1)).flatMap knB) = b ++ setB s)
        (fun x => mkSt [(0, .row 600 0), (7, iC .i64 x.2.1), (15, knsB s), (16, iC .i64 (s.length : Nat)), (17, iC .i64 (k : Nat)), (30, .per (rnsP s[k].runs)), (31, iC .i64 (s[k].runs.length : Nat)), (32, iC .i64 (x.1 : Nat))] [(600, .row 5 1 (x.2.2.map byteP))])
        (fun x => s[k].runs.length - x.1) (0, 0, acc ++ [s[k].rep, (s[k].runs.length : Int)].flatMap numI) ⟨Nat.zero_le _, by simp, by simp, fun (h : 0 < s[k].runs.length) => show (0 : Int) ≤ s[k].runs[0].fr from by have := (rnsOk_get a4 h).1; omega, by simp only [fm2, List.length_append]; omega, by rw [← h3]; simp [knB]⟩ ?_ ?_
      · exact le_auto
      · clear h3 c1
        rintro ⟨j, was, acc'⟩ ⟨g1, g2, g3, g4, g5, g6⟩
        simp only at g1 g2 g3 g4 g5 g6 ⊢
        by_cases hj : j < s[k].runs.length
        · have hr := rnsOk_get a4 hj
          have hw := g4 hj
          have hrise : ∀ h : j + 1 < s[k].runs.length, s[k].runs[j].to ≤ s[k].runs[j + 1].fr := fun h => runs_rise a4 h
          rw [List.drop_eq_getElem_cons hj, runsB] at g6
          have c2 := kc_put acc' [s[k].runs[j].fr - was, s[k].runs[j].to - s[k].runs[j].fr] (by simp; omega) (ok2 (by unfold okNum; omega) (by unfold okNum; omega))
          have n3 := numI_len (s[k].runs[j].fr - was) (by omega)
          have n4 := numI_len (s[k].runs[j].to - s[k].runs[j].fr) (by omega)
          clear a4 g4
          (have kc1 := c2; refine w0 ?_; (repeat' (first | refine W2.mk ?_ ?_ | refine W1.mk fun hc => ?_)); all_goals clear kc1)
          refine ⟨(j + 1, s[k].runs[j].to, acc' ++ [s[k].runs[j].fr - was, s[k].runs[j].to - s[k].runs[j].fr].flatMap numI), ⟨by simp only; omega, by simp only; omega, by simp only; omega, hrise, by simp only [fm2, List.length_append]; omega, by rw [← g6]; simp⟩, by simp only; omega, Le_trans (Le_mv 47 600) ?_⟩
          exact le_auto
        · rw [List.drop_of_length_le (by omega), runsB, List.nil_append] at g6
          clear a4 g4
          (refine w0 ?_; (repeat' (first | refine W2.mk ?_ ?_ | refine W1.mk fun hc => ?_)))
          refine ⟨(k + 1, acc'), ⟨by simp only; omega, by simp only; omega, g6⟩, by simp only; omega, ?_⟩
          exact le_auto
    · rw [List.drop_of_length_le (by omega), List.flatMap_nil, List.append_nil] at h3
      (refine w0 ?_; (repeat' (first | refine W2.mk ?_ ?_ | refine W1.mk fun hc => ?_)))
      (refine ⟨(by first | exact .inl rfl | exact .inr rfl), res1 rfl ?_⟩)
      exact rv_ownM rfl rfl rfl h3
theorem rkc_Set (s : List Kn) (hok : knsOk s) (hf : fewS s) : Fn Tryz.prog 151 [knsB s] (ownB (setB s)) := by
  have hs16 := knsOk_len hok
  have c0 := ref_Bytes (s.length : Int) (by unfold okNum; omega)
  have hn0 := numI_len (s.length : Int) (by omega)
  refine fn_intro Tryz.func151 rfl (by kernel_rfl) Tryz.ntmps151 (Nat.le_of_ble_eq_true rfl) ?_
  (have kc1 := c0; refine w0 ?_; (repeat' (first | refine W2.mk ?_ ?_ | refine W1.mk fun hc => ?_)); all_goals clear kc1)
  refine AW_le (Le_mv 10 600) ?_
  refine AW_loopP (X := Nat × List UInt8) (fun x => x.1 ≤ s.length ∧ x.2.length ≤ 10 + 90000 * x.1 ∧ x.2 ++ (s.drop x.1).flatMap knB = setB s)
    (fun x => mkSt [(0, knsB s), (3, .row 600 0), (4, iC .i64 (x.1 : Nat))] [(600, .row 5 1 (x.2.map byteP))]) (fun x => s.length - x.1) (0, numI (s.length : Int)) ⟨Nat.zero_le _, by simp only; omega, by simp [setB]⟩ ?_ ?_
  · exact le_auto
  · clear c0
    rintro ⟨k, acc⟩ ⟨h1, h2, h3⟩
    simp only at h1 h2 h3 ⊢
    by_cases hlt : k < s.length
    · obtain ⟨a1, a2, a3, a4⟩ := knsOk_get hok hlt
      have hfk := hf _ (List.getElem_mem hlt)
      rw [List.drop_eq_getElem_cons hlt, List.flatMap_cons] at h3
      have c1 := ref_Put [s[k].rep, (s[k].runs.length : Int)] (by simp) (ok2 (by unfold okNum; omega) (by unfold okNum; omega))
      have n1 := numI_len s[k].rep (by omega)
      have n2 := numI_len (s[k].runs.length : Int) (by omega)
      clear hok hf
      (have kc1 := c1; refine w0 ?_; (repeat' (first | refine W2.mk ?_ ?_ | refine W1.mk fun hc => ?_)); all_goals clear kc1)
      refine AW_loopP (X := Nat × Int × List UInt8) (fun x => x.1 ≤ s[k].runs.length ∧ 0 ≤ x.2.1 ∧ x.2.1 ≤ 1099511627776 ∧ (∀ h : x.1 < s[k].runs.length, x.2.1 ≤ s[k].runs[x.1].fr) ∧ x.2.2.length ≤ acc.length + 20 + 20 * x.1 ∧ x.2.2 ++ (runsB x.2.1 (s[k].runs.drop x.1) ++ (s.drop (k + 1)).flatMap knB) = setB s)
        (fun x => mkSt [(0, knsB s), (3, .row 600 0), (4, iC .i64 (k : Nat)), (5, iC .i64 x.2.1), (6, iC .i64 (x.1 : Nat))] [(600, .row 5 1 (x.2.2.map byteP))])
        (fun x => s[k].runs.length - x.1) (0, 0, acc ++ [s[k].rep, (s[k].runs.length : Int)].flatMap numI) ⟨Nat.zero_le _, by simp, by simp, fun (h : 0 < s[k].runs.length) => show (0 : Int) ≤ s[k].runs[0].fr from by have := (rnsOk_get a4 h).1; omega, by simp only [fm2, List.length_append]; omega, by rw [← h3]; simp [knB]⟩ ?_ ?_
      · exact le_auto
      · clear h3 c1
        rintro ⟨j, was, acc'⟩ ⟨g1, g2, g3, g4, g5, g6⟩
        simp only at g1 g2 g3 g4 g5 g6 ⊢
        by_cases hj : j < s[k].runs.length
        · have hr := rnsOk_get a4 hj
          have hw := g4 hj
          have hrise : ∀ h : j + 1 < s[k].runs.length, s[k].runs[j].to ≤ s[k].runs[j + 1].fr := fun h => runs_rise a4 h
          rw [List.drop_eq_getElem_cons hj, runsB] at g6
          have c2 := ref_Put [s[k].runs[j].fr - was, s[k].runs[j].to - s[k].runs[j].fr] (by simp) (ok2 (by unfold okNum; omega) (by unfold okNum; omega))
          have n3 := numI_len (s[k].runs[j].fr - was) (by omega)
          have n4 := numI_len (s[k].runs[j].to - s[k].runs[j].fr) (by omega)
          clear a4 g4
          (have kc1 := c2; refine w0 ?_; (repeat' (first | refine W2.mk ?_ ?_ | refine W1.mk fun hc => ?_)); all_goals clear kc1)
          refine ⟨(j + 1, s[k].runs[j].to, acc' ++ [s[k].runs[j].fr - was, s[k].runs[j].to - s[k].runs[j].fr].flatMap numI), ⟨by simp only; omega, by simp only; omega, by simp only; omega, hrise, by simp only [fm2, List.length_append]; omega, by rw [← g6]; simp⟩, by simp only; omega, ?_⟩
          exact le_auto
        · rw [List.drop_of_length_le (by omega), runsB, List.nil_append] at g6
          clear a4 g4
          (refine w0 ?_; (repeat' (first | refine W2.mk ?_ ?_ | refine W1.mk fun hc => ?_)))
          refine ⟨(k + 1, acc'), ⟨by simp only; omega, by simp only; omega, g6⟩, by simp only; omega, ?_⟩
          exact le_auto
    · rw [List.drop_of_length_le (by omega), List.flatMap_nil, List.append_nil] at h3
      (refine w0 ?_; (repeat' (first | refine W2.mk ?_ ?_ | refine W1.mk fun hc => ?_)))
      (refine ⟨(by first | exact .inl rfl | exact .inr rfl), res1 rfl ?_⟩)
      exact rv_ownM rfl rfl rfl h3
end
end Go.Proofs.YtoiaegbmbhgdpaaGreat
namespace Go.Proofs.YtoiaegbmbhgdpaaGreat
open Go.RowKit
theorem lsSt_all {α : Type} {st : List UInt8 → Int → α × List UInt8 × Int} {p : α → Prop} (h : ∀ l e, p (st l e).1) : ∀ (n : Nat) (acc : List α) (l : List UInt8) (e : Int), (∀ x ∈ acc, p x) → ∀ x ∈ (lsSt st n acc l e).1, p x := by
  intro n
  induction n with
  | zero => intro acc l e ha; exact ha
  | succ n ih =>
    intro acc l e ha
    unfold lsSt
    split
    · exact ha
    · refine ih _ _ _ (fun x hx => ?_)
      rcases List.mem_append.1 hx with q | q
      · exact ha x q
      · simp at q; subst q; exact h l e
theorem lisSt_all {α : Type} {st : List UInt8 → Int → α × List UInt8 × Int} {p : α → Prop} (h : ∀ l e, p (st l e).1) (most : Int) (l : List UInt8) (e : Int) : ∀ x ∈ (lisSt st most l e).1, p x := lsSt_all h _ _ _ _ (by simp)
theorem knSt_few (l : List UInt8) (e : Int) : (knSt l e).1.runs.length ≤ 4096 := by
  dsimp only [knSt]
  have h1 := rnsSt_len (withinSt 0 4096 (withinSt 1 16 l e).2.1 (withinSt 1 16 l e).2.2).1.toNat [] 0 (withinSt 0 4096 (withinSt 1 16 l e).2.1 (withinSt 1 16 l e).2.2).2.1 (withinSt 0 4096 (withinSt 1 16 l e).2.1 (withinSt 1 16 l e).2.2).2.2
  have h2 := within_rng0 (most := 4096) (by omega) (withinSt 1 16 l e).2.1 (withinSt 1 16 l e).2.2
  simp at h1
  omega
theorem lis_knSz (l : List UInt8) (e : Int) : knsSz (lisSt knSt 16 l e).1 ∧ fewS (lisSt knSt 16 l e).1 := by
  have h1 := lisSt_len (st := knSt) (most := 16) (by omega) l e
  have h2 := lisSt_all (p := fun k : Kn => k.runs.length ≤ 4096) knSt_few 16 l e
  exact ⟨⟨by omega, fun k hk => by have := h2 k hk; omega⟩, h2⟩
section
set_option maxRecDepth 10000
set_option maxHeartbeats 8000000
theorem kc_known (l : List UInt8) (e : Int) : FnM Tryz.prog 227 [.aggK rdC .aggN] [(1000, rdBox l e)] (knC (knSt l e).1) [(1000, rdBox (knSt l e).2.1 (knSt l e).2.2)] := by
  dsimp only [knSt]
  have h1 := r_Within l e 1 16
  generalize withinSt 1 16 l e = a at *
  obtain ⟨rep, l1, e1⟩ := a
  simp only at h1 ⊢
  have h2 := r_Within l1 e1 0 4096
  have hn := within_rng0 (most := 4096) (by omega) l1 e1
  generalize withinSt 0 4096 l1 e1 = s at *
  obtain ⟨n, l2, e2⟩ := s
  simp only at h2 hn ⊢
  obtain ⟨hn0, hn1⟩ := hn
  obtain ⟨n, rfl⟩ := Int.eq_ofNat_of_zero_le hn0
  rw [Int.toNat_natCast]
  generalize hR : rnsSt n [] 0 l2 e2 = R at *
  refine fnm_intro Tryz.func227 rfl (by kernel_rfl) Tryz.ntmps227 (Nat.le_of_ble_eq_true rfl) ?_
  (have kr1 := h1; have kr2 := h2; refine w0 ?_; (repeat' (first | refine W2.mk ?_ ?_ | refine W1.mk fun hc => ?_)); all_goals clear kr2 kr1)
  refine AW_le (Le_nilB 3 1 600 195 197 2 rfl rfl) ?_
  refine AW_loopP (X := Nat × List Rn × Int × List UInt8 × Int) (fun x => x.1 ≤ n ∧ x.2.1.length ≤ x.1 ∧ 0 ≤ x.2.2.1 ∧ x.2.2.1 ≤ 562949953421312 * (x.1 : Int) ∧ rnsSt (n - x.1) x.2.1 x.2.2.1 x.2.2.2.1 x.2.2.2.2 = R)
    (fun x => mkSt [(1, .ptr 1 0 0), (2, .ptr 2 0 0), (3, .ptr 3 0 0), (4, iC .i64 (n : Nat)), (5, iC .i64 x.2.2.1), (6, iC .i64 (x.1 : Nat))]
      [(1, .box 209 [rdC]), (2, .box 195 [iC .i64 0, .per (rawP (.slice none 0 0))]), (3, .box 195 [iC .i64 rep, .row 600 0]), (1000, rdBox x.2.2.2.1 x.2.2.2.2), (600, .row 197 2 (x.2.1.map rnP))]) (fun x => n - x.1) (0, [], 0, l2, e2) ⟨Nat.zero_le _, Nat.le_refl _, by simp, by simp, hR⟩ ?_ ?_
  · exact le_auto
  · clear h1 h2 hR
    rintro ⟨i, acc, was, l, e⟩ ⟨hi, hacc, hw0, hw1, hR⟩
    simp only at hi hacc hw0 hw1 hR ⊢
    have hE := r_Err l e
    by_cases hst : i < n ∧ e = 0
    · obtain ⟨hlt, he⟩ := hst
      subst he
      obtain ⟨m, hm⟩ : ∃ m, n - i = m + 1 := ⟨n - i - 1, by omega⟩
      rw [hm, rnsSt, if_neg (by simp)] at hR
      dsimp only at hR
      have h3 := r_Number l 0
      have q3 := numSt_rng l 0
      generalize numSt l 0 = x at *
      have h4 := r_Number x.2.1 x.2.2
      have q4 := numSt_rng x.2.1 x.2.2
      generalize numSt x.2.1 x.2.2 = y at *
      (have kr1 := hE; have kr2 := h3; have kr3 := h4; refine w0 ?_; (repeat' (first | refine W2.mk ?_ ?_ | refine W1.mk fun hc => ?_)); all_goals clear kr3 kr2 kr1)
      refine ⟨(i + 1, acc ++ [⟨was + x.1, was + x.1 + y.1⟩], was + x.1 + y.1, y.2.1, y.2.2), ⟨by simp only; omega, by simp; omega, by simp only; omega, by simp only; omega, by simp only; rw [show n - (i + 1) = m by omega]; exact hR⟩, by simp only; omega, ?_⟩
      exact le_auto
    · have hR2 : R = (acc, l, e) := by
        rw [← hR]
        by_cases he : e = 0
        · rw [show n - i = 0 by omega]; rfl
        · cases n - i with
          | zero => rfl
          | succ m => rw [rnsSt, if_pos he]
      subst hR2
      refine AW_le (Le_fz 600 _ 197 2 rfl rfl) ?_
      by_cases hlt : i < n
      · have he : e ≠ 0 := fun q => hst ⟨hlt, q⟩
        clear hst
        (have kr1 := hE; refine w0 ?_; (repeat' (first | refine W2.mk ?_ ?_ | refine W1.mk fun hc => ?_)); all_goals clear kr1)
        (refine ⟨(by first | exact .inl rfl | exact .inr rfl), resM1 [(1000, 1000)] rfl rfl ?_ ?_⟩; (focus (repeat (first | exact AllX.nil | (refine AllX.cons rfl ?_ ?_; (focus first | rfl | skip))))))
        exact rvm_cellA inferInstance inferInstance rfl rfl rfl rfl rfl rfl
      · clear hst
        (have kr1 := hE; refine w0 ?_; (repeat' (first | refine W2.mk ?_ ?_ | refine W1.mk fun hc => ?_)); all_goals clear kr1)
        (refine ⟨(by first | exact .inl rfl | exact .inr rfl), resM1 [(1000, 1000)] rfl rfl ?_ ?_⟩; (focus (repeat (first | exact AllX.nil | (refine AllX.cons rfl ?_ ?_; (focus first | rfl | skip))))))
        exact rvm_cellA inferInstance inferInstance rfl rfl rfl rfl rfl rfl
theorem kc_rset (l : List UInt8) (e : Int) : FnM Tryz.prog 200 [.aggK rdC .aggN] [(1000, rdBox l e)] (.row 3000 0) [(1000, rdBox (lisSt knSt 16 l e).2.1 (lisSt knSt 16 l e).2.2), (3000, .row 195 2 ((lisSt knSt 16 l e).1.map knP))] := by
  dsimp only [lisSt]
  have h1 := r_Within l e 0 16
  have hn := within_rng0 (most := 16) (by omega) l e
  generalize withinSt 0 16 l e = s at *
  obtain ⟨n, l0, e0⟩ := s
  simp only at h1 hn ⊢
  obtain ⟨hn0, hn1⟩ := hn
  obtain ⟨n, rfl⟩ := Int.eq_ofNat_of_zero_le hn0
  rw [Int.toNat_natCast]
  generalize hR : lsSt knSt n [] l0 e0 = R at *
  refine fnm_intro Tryz.func200 rfl (by kernel_rfl) Tryz.ntmps200 (Nat.le_of_ble_eq_true rfl) ?_
  (have kr1 := h1; refine w0 ?_; (repeat' (first | refine W2.mk ?_ ?_ | refine W1.mk fun hc => ?_)); all_goals clear kr1)
  refine AW_le (Le_nil 4 600 195 2 rfl rfl) ?_
  refine AW_loopP (X := Nat × List Kn × List UInt8 × Int) (fun x => x.1 ≤ n ∧ x.2.1.length ≤ x.1 ∧ lsSt knSt (n - x.1) x.2.1 x.2.2.1 x.2.2.2 = R)
    (fun x => mkSt [(1, .ptr 1 0 0), (3, iC .i64 (n : Nat)), (4, .row 600 0), (5, iC .i64 (x.1 : Nat))] [(1, .box 209 [rdC]), (1000, rdBox x.2.2.1 x.2.2.2), (600, .row 195 2 (x.2.1.map knP))]) (fun x => n - x.1) (0, [], l0, e0) ⟨Nat.zero_le _, Nat.le_refl _, hR⟩ ?_ ?_
  · exact le_auto
  · clear h1 hR
    rintro ⟨i, acc, l, e⟩ ⟨hi, hacc, hR⟩
    simp only at hi hacc hR ⊢
    have hE := r_Err l e
    by_cases hst : i < n ∧ e = 0
    · obtain ⟨hlt, he⟩ := hst
      subst he
      obtain ⟨m, hm⟩ : ∃ m, n - i = m + 1 := ⟨n - i - 1, by omega⟩
      rw [hm, lsSt, if_neg (by simp)] at hR
      have h2 := kc_known l 0
      generalize knSt l 0 = q at *
      (have kr1 := hE; have km1 := (show FnMs [(1000, 1000)] _ _ _ _ _ _ from h2); refine w0 ?_; (repeat' (first | refine W2.mk ?_ ?_ | refine W1.mk fun hc => ?_)); all_goals clear km1 kr1)
      refine ⟨(i + 1, acc ++ [q.1], q.2.1, q.2.2), ⟨by simp only; omega, by simp; omega, by simp only; rw [show n - (i + 1) = m by omega]; exact hR⟩, by simp only; omega, ?_⟩
      exact le_auto
    · have hR2 : R = (acc, l, e) := by
        rw [← hR]
        by_cases he : e = 0
        · rw [show n - i = 0 by omega]; rfl
        · cases n - i with
          | zero => rfl
          | succ m => rw [lsSt, if_pos he]
      subst hR2
      by_cases hlt : i < n
      · have he : e ≠ 0 := fun q => hst ⟨hlt, q⟩
        clear hst
        (have kr1 := hE; refine w0 ?_; (repeat' (first | refine W2.mk ?_ ?_ | refine W1.mk fun hc => ?_)); all_goals clear kr1)
        refine ⟨.inl rfl, resM1 [(1000, 1000), (600, 3000)] rfl rfl ?_ (rvm rfl rfl)⟩
        (repeat (first | exact AllX.nil | (refine AllX.cons rfl ?_ ?_; (focus first | rfl | skip))))
      · clear hst
        (have kr1 := hE; refine w0 ?_; (repeat' (first | refine W2.mk ?_ ?_ | refine W1.mk fun hc => ?_)); all_goals clear kr1)
        refine ⟨.inl rfl, resM1 [(1000, 1000), (600, 3000)] rfl rfl ?_ (rvm rfl rfl)⟩
        (repeat (first | exact AllX.nil | (refine AllX.cons rfl ?_ ?_; (focus first | rfl | skip))))
theorem rr_Number (b l : List UInt8) (e : Int) (hs : l <:+ b) (hb : b.length ≤ 1000000000000) : FnM Tryz.prog 59 [rdC] [(1000, rrBox b l e)] (iC .i64 (numSt l e).1) [(1000, rrBox b (numSt l e).2.1 (numSt l e).2.2)] := by
  have h := rr_Within b l e hs hb 0 281474976710656
  rw [numSt_within] at h
  refine fnm_intro Tryz.func59 rfl (by kernel_rfl) Tryz.ntmps59 (Nat.le_of_ble_eq_true rfl) ?_
  (have kr1 := h; refine w0 ?_; (repeat' (first | refine W2.mk ?_ ?_ | refine W1.mk fun hc => ?_)); all_goals clear kr1)
  (refine ⟨(by first | exact .inl rfl | exact .inr rfl), resM1 [(1000, 1000)] rfl rfl ?_ ?_⟩; (focus (repeat (first | exact AllX.nil | (refine AllX.cons rfl ?_ ?_; (focus first | rfl | skip))))))
  exact rvm_int rfl rfl
theorem rkc_ReadIn (b l : List UInt8) (e : Int) (hs : l <:+ b) (hb : b.length ≤ 1000000000000) : FnM Tryz.prog 124 [rdC] [(1000, rrBox b l e)] (.row 3000 0) [(1000, rrBox b (lisSt knSt 16 l e).2.1 (lisSt knSt 16 l e).2.2), (3000, .row 195 2 ((lisSt knSt 16 l e).1.map knP))] := by
  dsimp only [lisSt]
  have h1 := rr_Within b l e hs hb 0 16
  have hn := within_rng0 (most := 16) (by omega) l e
  replace hs := (withinSt_suf 0 16 l e).trans hs
  generalize withinSt 0 16 l e = s at *
  obtain ⟨n, l0, e0'⟩ := s
  simp only at h1 hn hs ⊢
  obtain ⟨hn0, hn1⟩ := hn
  obtain ⟨n, rfl⟩ := Int.eq_ofNat_of_zero_le hn0
  rw [Int.toNat_natCast]
  generalize hR : lsSt knSt n [] l0 e0' = R at *
  refine fnm_intro Tryz.func124 rfl (by kernel_rfl) Tryz.ntmps124 (Nat.le_of_ble_eq_true rfl) ?_
  (have kr1 := h1; refine w0 ?_; (repeat' (first | refine W2.mk ?_ ?_ | refine W1.mk fun hc => ?_)); all_goals clear kr1)
  refine AW_le (Le_nil 3 600 195 2 rfl rfl) ?_
  refine AW_loopP (X := Nat × List Kn × List UInt8 × Int) (fun x => x.1 ≤ n ∧ x.2.1.length ≤ x.1 ∧ x.2.2.1 <:+ b ∧ lsSt knSt (n - x.1) x.2.1 x.2.2.1 x.2.2.2 = R)
    (fun x => mkSt [(0, .ptr 1000 0 0), (3, .row 600 0), (4, iC .i64 (n : Nat)), (5, iC .i64 (x.1 : Nat))] [(1000, rrBox b x.2.2.1 x.2.2.2), (600, .row 195 2 (x.2.1.map knP))]) (fun x => n - x.1) (0, [], l0, e0') ⟨Nat.zero_le _, Nat.le_refl _, hs, hR⟩ ?_ ?_
  · exact le_auto
  · clear h1 hR hs
    rintro ⟨i, acc, l, e⟩ ⟨hi, hacc, hs, hR⟩
    simp only at hi hacc hs hR ⊢
    by_cases hst : i < n ∧ e = 0
    · obtain ⟨hlt, he⟩ := hst
      subst he
      obtain ⟨m, hm⟩ : ∃ m, n - i = m + 1 := ⟨n - i - 1, by omega⟩
      rw [hm, lsSt, if_neg (by simp)] at hR
      dsimp only [knSt] at hR
      have h2 := rr_Within b l 0 hs hb 1 16
      replace hs := (withinSt_suf 1 16 l 0).trans hs
      generalize withinSt 1 16 l 0 = a at *
      obtain ⟨rep, l1, e1⟩ := a
      simp only at h2 hs hR
      have h3 := rr_Within b l1 e1 hs hb 0 4096
      have hk := within_rng0 (most := 4096) (by omega) l1 e1
      replace hs := (withinSt_suf 0 4096 l1 e1).trans hs
      generalize withinSt 0 4096 l1 e1 = s at *
      obtain ⟨k, l2, e2⟩ := s
      simp only at h3 hk hs hR
      obtain ⟨hk0, hk1⟩ := hk
      obtain ⟨k, rfl⟩ := Int.eq_ofNat_of_zero_le hk0
      rw [Int.toNat_natCast] at hR
      generalize hR2 : rnsSt k [] 0 l2 e2 = R2 at *
      (have kr1 := h2; have kr2 := h3; refine w0 ?_; (repeat' (first | refine W2.mk ?_ ?_ | refine W1.mk fun hc => ?_)); all_goals clear kr2 kr1)
      refine AW_le (Le_nilB 6 1 601 195 197 2 rfl rfl) ?_
      refine AW_loopP (X := Nat × List Rn × Int × List UInt8 × Int) (fun x => x.1 ≤ k ∧ x.2.1.length ≤ x.1 ∧ 0 ≤ x.2.2.1 ∧ x.2.2.1 ≤ 562949953421312 * (x.1 : Int) ∧ x.2.2.2.1 <:+ b ∧ rnsSt (k - x.1) x.2.1 x.2.2.1 x.2.2.2.1 x.2.2.2.2 = R2)
        (fun x => mkSt [(0, .ptr 1000 0 0), (3, .row 600 0), (4, iC .i64 (n : Nat)), (5, iC .i64 (i : Nat)), (6, .ptr 6 0 0), (7, iC .i64 (k : Nat)), (8, iC .i64 x.2.2.1), (9, iC .i64 (x.1 : Nat))]
          [(1000, rrBox b x.2.2.2.1 x.2.2.2.2), (600, .row 195 2 (acc.map knP)), (6, .box 195 [iC .i64 rep, .row 601 0]), (601, .row 197 2 (x.2.1.map rnP))]) (fun x => k - x.1) (0, [], 0, l2, e2) ⟨Nat.zero_le _, Nat.le_refl _, by simp, by simp, hs, hR2⟩ ?_ ?_
      · exact le_auto
      · clear h2 h3 hR2 hs
        rintro ⟨j, acc2, was, l, e⟩ ⟨hj, hacc2, hw0, hw1, hs, hR2⟩
        simp only at hj hacc2 hw0 hw1 hs hR2 ⊢
        by_cases hst : j < k ∧ e = 0
        · obtain ⟨hltj, he⟩ := hst
          subst he
          obtain ⟨m2, hm2⟩ : ∃ m, k - j = m + 1 := ⟨k - j - 1, by omega⟩
          rw [hm2, rnsSt, if_neg (by simp)] at hR2
          dsimp only at hR2
          have h4 := rr_Number b l 0 hs hb
          have q4 := numSt_rng l 0
          replace hs := (numSt_suf l 0).trans hs
          generalize numSt l 0 = x at *
          have h5 := rr_Number b x.2.1 x.2.2 hs hb
          have q5 := numSt_rng x.2.1 x.2.2
          replace hs := (numSt_suf x.2.1 x.2.2).trans hs
          generalize numSt x.2.1 x.2.2 = y at *
          (have kr1 := h4; have kr2 := h5; refine w0 ?_; (repeat' (first | refine W2.mk ?_ ?_ | refine W1.mk fun hc => ?_)); all_goals clear kr2 kr1)
          refine ⟨(j + 1, acc2 ++ [⟨was + x.1, was + x.1 + y.1⟩], was + x.1 + y.1, y.2.1, y.2.2), ⟨by simp only; omega, by simp; omega, by simp only; omega, by simp only; omega, hs, by simp only; rw [show k - (j + 1) = m2 by omega]; exact hR2⟩, by simp only; omega, ?_⟩
          exact le_auto
        · have hR3 : R2 = (acc2, l, e) := by
            rw [← hR2]
            by_cases he : e = 0
            · rw [show k - j = 0 by omega]; rfl
            · cases k - j with
              | zero => rfl
              | succ m => rw [rnsSt, if_pos he]
          subst hR3
          simp only at hR
          refine AW_le (Le_fz 601 _ 197 2 rfl rfl) ?_
          by_cases hltj : j < k
          · have he : e ≠ 0 := fun q => hst ⟨hltj, q⟩
            clear hst
            (refine w0 ?_; (repeat' (first | refine W2.mk ?_ ?_ | refine W1.mk fun hc => ?_)))
            refine ⟨(i + 1, acc ++ [⟨rep, acc2⟩], l, e), ⟨by simp only; omega, by simp; omega, hs, by simp only; rw [show n - (i + 1) = m by omega]; exact hR⟩, by simp only; omega, ?_⟩
            exact le_auto
          · clear hst
            (refine w0 ?_; (repeat' (first | refine W2.mk ?_ ?_ | refine W1.mk fun hc => ?_)))
            refine ⟨(i + 1, acc ++ [⟨rep, acc2⟩], l, e), ⟨by simp only; omega, by simp; omega, hs, by simp only; rw [show n - (i + 1) = m by omega]; exact hR⟩, by simp only; omega, ?_⟩
            exact le_auto
    · have hR2 : R = (acc, l, e) := by
        rw [← hR]
        by_cases he : e = 0
        · rw [show n - i = 0 by omega]; rfl
        · cases n - i with
          | zero => rfl
          | succ m => rw [lsSt, if_pos he]
      subst hR2
      by_cases hlt : i < n
      · have he : e ≠ 0 := fun q => hst ⟨hlt, q⟩
        clear hst
        (refine w0 ?_; (repeat' (first | refine W2.mk ?_ ?_ | refine W1.mk fun hc => ?_)))
        refine ⟨.inl rfl, resM1 [(1000, 1000), (600, 3000)] rfl rfl ?_ (rvm rfl rfl)⟩
        (repeat (first | exact AllX.nil | (refine AllX.cons rfl ?_ ?_; (focus first | rfl | skip))))
      · clear hst
        (refine w0 ?_; (repeat' (first | refine W2.mk ?_ ?_ | refine W1.mk fun hc => ?_)))
        refine ⟨.inl rfl, resM1 [(1000, 1000), (600, 3000)] rfl rfl ?_ (rvm rfl rfl)⟩
        (repeat (first | exact AllX.nil | (refine AllX.cons rfl ?_ ?_; (focus first | rfl | skip))))
end
end Go.Proofs.YtoiaegbmbhgdpaaGreat
