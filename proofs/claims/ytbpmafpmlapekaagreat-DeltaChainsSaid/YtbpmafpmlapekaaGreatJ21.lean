/- Texts joined: Kc. -/
import Derived.Test.YtbpmafpmlapekaaGreatJ20
namespace Go.Proofs.YtbpmafpmlapekaaGreat
open Go.RowKit
theorem ok2 {a b : Int} (h : okNum a) (h' : okNum b) : ∀ n ∈ [a, b], okNum n := fun n hn => by
  simp only [List.mem_cons, List.not_mem_nil, or_false] at hn
  rcases hn with rfl | rfl <;> assumption
theorem fm2 (a b : Int) : [a, b].flatMap numI = numI a ++ numI b := by simp
theorem runs_rise {l : List Rn} (h : rnsOk l) {j : Nat} (hj : j + 1 < l.length) : l[j].to ≤ l[j + 1].fr := by
  have := (h (j + 1) hj hj).2 (by omega)
  simp only [Nat.add_sub_cancel] at this
  omega
section
set_option maxRecDepth 10000
set_option maxHeartbeats 8000000
theorem kc_put (l : List UInt8) (ns : List Int) (hb : l.length + 9 * ns.length ≤ 1000000000000) (hok : ∀ n ∈ ns, okNum n) : Fn Tryz.prog 38 [bytesB l, intsB ns] (ownB (l ++ ns.flatMap numI)) := by
  have h := varint_Put l ns hb hok
  refine fn_intro Tryz.func38 rfl (by kernel_rfl) Tryz.ntmps38 (Nat.le_of_ble_eq_true rfl) ?_
  (have kc1 := h; refine w0 ?_; (repeat' (first | refine W2.mk ?_ ?_ | refine W1.mk fun hc => ?_)); all_goals clear kc1)
  (refine ⟨(by first | exact .inl rfl | exact .inr rfl), res1 rfl ?_⟩)
  exact rv_own rfl rfl rfl
theorem kc_few (s : List Kn) (hs : s.length ≤ 1000000000) (hf : fewS s) : Fn Tryz.prog 39 [knsB s] (boR true) := by
  refine fn_intro Tryz.func39 rfl (by kernel_rfl) Tryz.ntmps39 (Nat.le_of_ble_eq_true rfl) ?_
  (refine w0 ?_; (repeat' (first | refine W2.mk ?_ ?_ | refine W1.mk fun hc => ?_)))
  refine AW_loopP (X := Nat) (fun z => z ≤ s.length) (fun z => mkSt [(5, knsB s), (6, iC .i64 (s.length : Nat)), (7, iC .i64 (z : Nat))] []) (fun z => s.length - z) 0 (Nat.zero_le _) ?_ ?_
  · exact le_auto
  · intro z hz
    by_cases hlt : z < s.length
    · have h1 := hf _ (List.getElem_mem hlt)
      (refine w0 ?_; (repeat' (first | refine W2.mk ?_ ?_ | refine W1.mk fun hc => ?_)))
      refine ⟨z + 1, by omega, by omega, ?_⟩
      exact le_auto
    · (refine w0 ?_; (repeat' (first | refine W2.mk ?_ ?_ | refine W1.mk fun hc => ?_)))
      (refine ⟨(by first | exact .inl rfl | exact .inr rfl), res1 rfl ?_⟩)
      exact rv_bool rfl rfl
theorem kc_set (b : List UInt8) (s : List Kn) (hb : b.length ≤ 100000000000) (hok : knsOk s) (hf : fewS s) : Fn Tryz.prog 41 [bytesB b, knsB s] (ownB (b ++ setB s)) := by
  have hs16 := knsOk_len hok
  have c0 := kc_put b [(s.length : Int)] (by simp; omega) (ok_small (by omega) (by omega))
  have hn0 := numI_len (s.length : Int) (by omega)
  refine fn_intro Tryz.func41 rfl (by kernel_rfl) Tryz.ntmps41 (Nat.le_of_ble_eq_true rfl) ?_
  (have kc1 := c0; refine w0 ?_; (repeat' (first | refine W2.mk ?_ ?_ | refine W1.mk fun hc => ?_)); all_goals clear kc1)
  refine AW_le (Le_mv 14 600) ?_
  refine AW_loopP (X := Nat × List UInt8) (fun x => x.1 ≤ s.length ∧ x.2.length ≤ b.length + 10 + 90000 * x.1 ∧ x.2 ++ (s.drop x.1).flatMap knB = b ++ setB s)
    (fun x => mkSt [(0, .row 600 0), (15, knsB s), (16, iC .i64 (s.length : Nat)), (17, iC .i64 (x.1 : Nat))] [(600, .row 5 1 (x.2.map byteP))]) (fun x => s.length - x.1) (0, b ++ [(s.length : Int)].flatMap numI) ⟨Nat.zero_le _, by simp; omega, by simp [setB]⟩ ?_ ?_
  · exact le_auto
  · clear c0
    rintro ⟨k, acc⟩ ⟨h1, h2, h3⟩
    simp only at h1 h2 h3 ⊢
    by_cases hlt : k < s.length
    · obtain ⟨a1, a2, a3, a4⟩ := knsOk_get hok hlt
      have hfk := hf _ (List.getElem_mem hlt)
      rw [List.drop_eq_getElem_cons hlt, List.flatMap_cons] at h3
      have c1 := kc_put acc [s[k].rep, (s[k].runs.length : Int)] (by simp; omega) (ok2 (by unfold okNum; omega) (by unfold okNum; omega))
      have n1 := numI_len s[k].rep (by omega)
      have n2 := numI_len (s[k].runs.length : Int) (by omega)
      clear hok hf
      (have kc1 := c1; refine w0 ?_; (repeat' (first | refine W2.mk ?_ ?_ | refine W1.mk fun hc => ?_)); all_goals clear kc1)
      refine AW_le (Le_mv 28 600) ?_
      refine AW_loopP (X := Nat × Int × List UInt8) (fun x => x.1 ≤ s[k].runs.length ∧ 0 ≤ x.2.1 ∧ x.2.1 ≤ 1099511627776 ∧ (∀ h : x.1 < s[k].runs.length, x.2.1 ≤ s[k].runs[x.1].fr) ∧ x.2.2.length ≤ acc.length + 20 + 20 * x.1 ∧ x.2.2 ++ (runsB x.2.1 (s[k].runs.drop x.1) ++ (s.drop (k + 1)).flatMap knB) = b ++ setB s)
        (fun x => mkSt [(0, .row 600 0), (7, iC .i64 x.2.1), (15, knsB s), (16, iC .i64 (s.length : Nat)), (17, iC .i64 (k : Nat)), (30, .per (rnsP s[k].runs)), (31, iC .i64 (s[k].runs.length : Nat)), (32, iC .i64 (x.1 : Nat))] [(600, .row 5 1 (x.2.2.map byteP))])
        (fun x => s[k].runs.length - x.1) (0, 0, acc ++ [s[k].rep, (s[k].runs.length : Int)].flatMap numI) ⟨Nat.zero_le _, by simp, by simp, fun (h : 0 < s[k].runs.length) => show (0 : Int) ≤ s[k].runs[0].fr from by have := (rnsOk_get a4 h).1; omega, by simp only [fm2, List.length_append]; omega, by rw [← h3]; simp [knB]⟩ ?_ ?_
      · exact le_auto
      · clear h3 c1
        rintro ⟨j, was, acc'⟩ ⟨g1, g2, g3, g4, g5, g6⟩
        simp only at g1 g2 g3 g4 g5 g6 ⊢
        by_cases hj : j < s[k].runs.length
        · have hr := rnsOk_get a4 hj
          have hw := g4 hj
          have hrise : ∀ h : j + 1 < s[k].runs.length, s[k].runs[j].to ≤ s[k].runs[j + 1].fr := fun h => runs_rise a4 h
          rw [List.drop_eq_getElem_cons hj, runsB] at g6
          have c2 := kc_put acc' [s[k].runs[j].fr - was, s[k].runs[j].to - s[k].runs[j].fr] (by simp; omega) (ok2 (by unfold okNum; omega) (by unfold okNum; omega))
          have n3 := numI_len (s[k].runs[j].fr - was) (by omega)
          have n4 := numI_len (s[k].runs[j].to - s[k].runs[j].fr) (by omega)
          clear a4 g4
          (have kc1 := c2; refine w0 ?_; (repeat' (first | refine W2.mk ?_ ?_ | refine W1.mk fun hc => ?_)); all_goals clear kc1)
          refine ⟨(j + 1, s[k].runs[j].to, acc' ++ [s[k].runs[j].fr - was, s[k].runs[j].to - s[k].runs[j].fr].flatMap numI), ⟨by simp only; omega, by simp only; omega, by simp only; omega, hrise, by simp only [fm2, List.length_append]; omega, by rw [← g6]; simp⟩, by simp only; omega, Le_trans (Le_mv 47 600) ?_⟩
          exact le_auto
        · rw [List.drop_of_length_le (by omega), runsB, List.nil_append] at g6
          clear a4 g4
          (refine w0 ?_; (repeat' (first | refine W2.mk ?_ ?_ | refine W1.mk fun hc => ?_)))
          refine ⟨(k + 1, acc'), ⟨by simp only; omega, by simp only; omega, g6⟩, by simp only; omega, ?_⟩
          exact le_auto
    · rw [List.drop_of_length_le (by omega), List.flatMap_nil, List.append_nil] at h3
      (refine w0 ?_; (repeat' (first | refine W2.mk ?_ ?_ | refine W1.mk fun hc => ?_)))
      (refine ⟨(by first | exact .inl rfl | exact .inr rfl), res1 rfl ?_⟩)
      exact rv_ownM rfl rfl rfl h3
theorem rkc_Set (s : List Kn) (hok : knsOk s) (hf : fewS s) : Fn Tryz.prog 56 [knsB s] (ownB (setB s)) := by
  have hs16 := knsOk_len hok
  have c0 := ref_Bytes (s.length : Int) (by unfold okNum; omega)
  have hn0 := numI_len (s.length : Int) (by omega)
  refine fn_intro Tryz.func56 rfl (by kernel_rfl) Tryz.ntmps56 (Nat.le_of_ble_eq_true rfl) ?_
  (have kc1 := c0; refine w0 ?_; (repeat' (first | refine W2.mk ?_ ?_ | refine W1.mk fun hc => ?_)); all_goals clear kc1)
  refine AW_le (Le_mv 10 600) ?_
  refine AW_loopP (X := Nat × List UInt8) (fun x => x.1 ≤ s.length ∧ x.2.length ≤ 10 + 90000 * x.1 ∧ x.2 ++ (s.drop x.1).flatMap knB = setB s)
    (fun x => mkSt [(0, knsB s), (3, .row 600 0), (4, iC .i64 (x.1 : Nat))] [(600, .row 5 1 (x.2.map byteP))]) (fun x => s.length - x.1) (0, numI (s.length : Int)) ⟨Nat.zero_le _, by simp only; omega, by simp [setB]⟩ ?_ ?_
  · exact le_auto
  · clear c0
    rintro ⟨k, acc⟩ ⟨h1, h2, h3⟩
    simp only at h1 h2 h3 ⊢
    by_cases hlt : k < s.length
    · obtain ⟨a1, a2, a3, a4⟩ := knsOk_get hok hlt
      have hfk := hf _ (List.getElem_mem hlt)
      rw [List.drop_eq_getElem_cons hlt, List.flatMap_cons] at h3
      have c1 := ref_Put [s[k].rep, (s[k].runs.length : Int)] (by simp) (ok2 (by unfold okNum; omega) (by unfold okNum; omega))
      have n1 := numI_len s[k].rep (by omega)
      have n2 := numI_len (s[k].runs.length : Int) (by omega)
      clear hok hf
      (have kc1 := c1; refine w0 ?_; (repeat' (first | refine W2.mk ?_ ?_ | refine W1.mk fun hc => ?_)); all_goals clear kc1)
      refine AW_loopP (X := Nat × Int × List UInt8) (fun x => x.1 ≤ s[k].runs.length ∧ 0 ≤ x.2.1 ∧ x.2.1 ≤ 1099511627776 ∧ (∀ h : x.1 < s[k].runs.length, x.2.1 ≤ s[k].runs[x.1].fr) ∧ x.2.2.length ≤ acc.length + 20 + 20 * x.1 ∧ x.2.2 ++ (runsB x.2.1 (s[k].runs.drop x.1) ++ (s.drop (k + 1)).flatMap knB) = setB s)
        (fun x => mkSt [(0, knsB s), (3, .row 600 0), (4, iC .i64 (k : Nat)), (5, iC .i64 x.2.1), (6, iC .i64 (x.1 : Nat))] [(600, .row 5 1 (x.2.2.map byteP))])
        (fun x => s[k].runs.length - x.1) (0, 0, acc ++ [s[k].rep, (s[k].runs.length : Int)].flatMap numI) ⟨Nat.zero_le _, by simp, by simp, fun (h : 0 < s[k].runs.length) => show (0 : Int) ≤ s[k].runs[0].fr from by have := (rnsOk_get a4 h).1; omega, by simp only [fm2, List.length_append]; omega, by rw [← h3]; simp [knB]⟩ ?_ ?_
      · exact le_auto
      · clear h3 c1
        rintro ⟨j, was, acc'⟩ ⟨g1, g2, g3, g4, g5, g6⟩
        simp only at g1 g2 g3 g4 g5 g6 ⊢
        by_cases hj : j < s[k].runs.length
        · have hr := rnsOk_get a4 hj
          have hw := g4 hj
          have hrise : ∀ h : j + 1 < s[k].runs.length, s[k].runs[j].to ≤ s[k].runs[j + 1].fr := fun h => runs_rise a4 h
          rw [List.drop_eq_getElem_cons hj, runsB] at g6
          have c2 := ref_Put [s[k].runs[j].fr - was, s[k].runs[j].to - s[k].runs[j].fr] (by simp) (ok2 (by unfold okNum; omega) (by unfold okNum; omega))
          have n3 := numI_len (s[k].runs[j].fr - was) (by omega)
          have n4 := numI_len (s[k].runs[j].to - s[k].runs[j].fr) (by omega)
          clear a4 g4
          (have kc1 := c2; refine w0 ?_; (repeat' (first | refine W2.mk ?_ ?_ | refine W1.mk fun hc => ?_)); all_goals clear kc1)
          refine ⟨(j + 1, s[k].runs[j].to, acc' ++ [s[k].runs[j].fr - was, s[k].runs[j].to - s[k].runs[j].fr].flatMap numI), ⟨by simp only; omega, by simp only; omega, by simp only; omega, hrise, by simp only [fm2, List.length_append]; omega, by rw [← g6]; simp⟩, by simp only; omega, ?_⟩
          exact le_auto
        · rw [List.drop_of_length_le (by omega), runsB, List.nil_append] at g6
          clear a4 g4
          (refine w0 ?_; (repeat' (first | refine W2.mk ?_ ?_ | refine W1.mk fun hc => ?_)))
          refine ⟨(k + 1, acc'), ⟨by simp only; omega, by simp only; omega, g6⟩, by simp only; omega, ?_⟩
          exact le_auto
    · rw [List.drop_of_length_le (by omega), List.flatMap_nil, List.append_nil] at h3
      (refine w0 ?_; (repeat' (first | refine W2.mk ?_ ?_ | refine W1.mk fun hc => ?_)))
      (refine ⟨(by first | exact .inl rfl | exact .inr rfl), res1 rfl ?_⟩)
      exact rv_ownM rfl rfl rfl h3
end
end Go.Proofs.YtbpmafpmlapekaaGreat
