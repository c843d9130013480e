/- Texts joined: Rcn. -/
import Derived.Test.YtbpmafpmlapekaaGreatJ26
namespace Go.Proofs.YtbpmafpmlapekaaGreat
open Go.RowKit
theorem putN_at : ∀ (l : List Int) (n : Int) (k : Nat), k ≤ l.length → (∀ j (h : j < l.length), j < k → l[j] < n) → (∀ h : k < l.length, ¬ l[k] < n) →
    ((∃ h : k < l.length, l[k] = n) → putN l n = l) ∧ ((¬ ∃ h : k < l.length, l[k] = n) → putN l n = l.take k ++ n :: l.drop k) := by
  intro l
  induction l with
  | nil =>
    intro n k hk _ _
    obtain rfl : k = 0 := by simpa using hk
    exact ⟨fun ⟨h, _⟩ => by simp at h, fun _ => rfl⟩
  | cons x l ih =>
    intro n k hk h1 h2
    cases k with
    | zero =>
      have := h2 (by simp)
      simp only [List.getElem_cons_zero] at this
      rw [putN, if_neg this]
      refine ⟨fun ⟨_, e⟩ => ?_, fun e => ?_⟩
      · simp only [List.getElem_cons_zero] at e
        rw [if_pos e]
      · rw [if_neg (fun q => e ⟨by simp, by simpa using q⟩)]
        rfl
    | succ k =>
      have h3 := h1 0 (by simp) (by omega)
      simp only [List.getElem_cons_zero] at h3
      have := ih n k (by simpa using hk) (fun j hj hjk => by have := h1 (j + 1) (by simpa using hj) (by omega); simpa using this) (fun h => by have := h2 (by simpa using h); simpa using this)
      rw [putN, if_pos h3]
      refine ⟨fun ⟨h, e⟩ => ?_, fun e => ?_⟩
      · rw [this.1 ⟨by simpa using h, by simpa using e⟩]
      · rw [this.2 (fun ⟨h, q⟩ => e ⟨by simpa using h, by simpa using q⟩)]
        rfl
section
variable {P : Program} {n : Nat} {S : St}
theorem rv_lstE {t k : Nat} {es es' : List (List PV)} (h : S.get t = .per (lstP k es)) (e : es = es') : ResVarOk P n S (.tmp t) (.per (lstP k es')) := rv_per (e ▸ h)
end
abbrev inP (n : Int) : List PV := [rawP (.int .i64 n)]
abbrev intsP (l : List Int) : PV := lstP 1 (l.map inP)
abbrev intsC (l : List Int) : Cnt := .per (intsP l)
section
set_option maxRecDepth 10000
set_option maxHeartbeats 4000000
theorem rcnt_put (l : List Int) (n : Int) (hl : l.length ≤ 1000000000) : Fn Tryz.prog 136 [intsC l, iC .i64 n] (.per (intsP (putN l n))) := by
  generalize hR : putN l n = R
  refine fn_intro Tryz.func136 rfl (by kernel_rfl) Tryz.ntmps136 (Nat.le_of_ble_eq_true rfl) ?_
  (refine w0 ?_; (repeat' (first | refine W2.mk ?_ ?_ | refine W1.mk fun hc => ?_)))
  refine AW_loopP (X := Nat) (fun k => k ≤ l.length ∧ ∀ j (h : j < l.length), j < k → l[j] < n)
    (fun k => mkSt [(0, intsC l), (1, iC .i64 n), (5, iC .i64 ((k : Nat) : Int))] []) (fun k => l.length - k) 0 ⟨Nat.zero_le _, fun j _ h => by omega⟩ ?_ ?_
  · exact le_auto
  · rintro k ⟨h1, h2⟩
    by_cases hgo : ∃ h : k < l.length, l[k] < n
    · obtain ⟨hk, hlt⟩ := hgo
      have h2' : ∀ j (h : j < l.length), j < k + 1 → l[j] < n := fun j h hj => by
        rcases Nat.lt_or_ge j k with q | q
        · exact h2 j h q
        · obtain rfl : j = k := by omega
          exact hlt
      clear hR h2
      (refine w0 ?_; (repeat' (first | refine W2.mk ?_ ?_ | refine W1.mk fun hc => ?_)))
      refine ⟨k + 1, ⟨hk, h2'⟩, by omega, ?_⟩
      exact le_auto
    · have hP := putN_at l n k h1 h2 (fun h q => hgo ⟨h, q⟩)
      clear h2
      by_cases hk : k < l.length
      · have hge : ¬ l[k] < n := fun q => hgo ⟨hk, q⟩
        by_cases he : l[k] = n
        · have hR' : l = R := by rw [← hR, hP.1 ⟨hk, he⟩]
          clear hR hP hgo
          (refine w0 ?_; (repeat' (first | refine W2.mk ?_ ?_ | refine W1.mk fun hc => ?_)))
          (refine ⟨(by first | exact .inl rfl | exact .inr rfl), res1 rfl ?_⟩)
          exact rv_lstM rfl hR'
        · have hR' : l.take k ++ n :: l.drop k = R := by rw [← hR, hP.2 (fun ⟨_, q⟩ => he q)]
          clear hR hP hgo
          (refine w0 ?_; (repeat' (first | refine W2.mk ?_ ?_ | refine W1.mk fun hc => ?_)))
          refine AL_le (Le_nil 34 700 3 1 rfl rfl) ?_
          (refine w0 ?_; (repeat' (first | refine W2.mk ?_ ?_ | refine W1.mk fun hc => ?_)))
          refine ⟨.inl rfl, ResO_le (Le_fz 700 _ 3 1 rfl rfl) (res1 rfl (rv_lstE rfl (by rw [← hR']; simp [List.map_take, List.map_drop]; rfl)))⟩
      · have hR' : l.take k ++ n :: l.drop k = R := by rw [← hR, hP.2 (fun ⟨q, _⟩ => hk q)]
        clear hR hP hgo
        (refine w0 ?_; (repeat' (first | refine W2.mk ?_ ?_ | refine W1.mk fun hc => ?_)))
        refine AL_le (Le_nil 34 700 3 1 rfl rfl) ?_
        (refine w0 ?_; (repeat' (first | refine W2.mk ?_ ?_ | refine W1.mk fun hc => ?_)))
        refine ⟨.inl rfl, ResO_le (Le_fz 700 _ 3 1 rfl rfl) (res1 rfl (rv_lstE rfl (by rw [← hR']; simp [List.map_take, List.map_drop]; rfl)))⟩
theorem putN_len : ∀ (l : List Int) (n : Int), (putN l n).length ≤ l.length + 1 := by
  intro l
  induction l with
  | nil => intro n; simp [putN]
  | cons x l ih =>
    intro n
    rw [putN]
    split
    · have := ih n; simp; omega
    · split <;> simp
theorem edgR_snoc (e : List Int) (l : List Rn) (k : Nat) (h : k < l.length) : edgR e (l.take (k + 1)) = edg1 (edgR e (l.take k)) l[k] := by
  unfold edgR
  rw [List.take_succ_eq_append_getElem h, List.foldl_append]
  rfl
theorem edgR_take_len (e : List Int) (l : List Rn) (k : Nat) : (edgR e (l.take k)).length ≤ e.length + 2 * l.length := by
  have h := edgR_len (l.take k) e
  rw [List.length_take] at h
  omega
theorem rcnt_Edges (a b : List Rn) (ha : a.length ≤ 100000000) (hb : b.length ≤ 100000000) : Fn Tryz.prog 127 [rnsB a, rnsB b] (.per (intsP (edgR (edgR [] a) b))) := by
  have lA := edgR_len a []
  simp only [List.length_nil, Nat.zero_add] at lA
  generalize hR : edgR (edgR [] a) b = R
  refine fn_intro Tryz.func127 rfl (by kernel_rfl) Tryz.ntmps127 (Nat.le_of_ble_eq_true rfl) ?_
  (refine w0 ?_; (repeat' (first | refine W2.mk ?_ ?_ | refine W1.mk fun hc => ?_)))
  refine AW_le (Le_nil 5 700 3 1 rfl rfl) (AW_le (Le_fz 700 _ 3 1 rfl rfl) ?_)
  refine AW_loopP (X := Nat) (fun k => k ≤ a.length)
    (fun k => mkSt [(0, rnsB a), (1, rnsB b), (5, intsC (edgR [] (a.take k))), (6, iC .i64 ((k : Nat) : Int))] []) (fun k => a.length - k) 0 (Nat.zero_le _) ?_ ?_
  · exact le_auto
  · intro k hk
    by_cases hlt : k < a.length
    · have hs := edgR_snoc [] a k hlt
      have hlen := edgR_take_len [] a k
      simp only [List.length_nil, Nat.zero_add] at hlen
      have c0 := rcnt_One a[k]
      generalize edgR [] (a.take k) = E at *
      clear hR
      cases hr : rnR a[k] with
      | true =>
        have hi := (rnR_iff _).1 hr
        rw [hr] at c0
        have c1 := rcnt_put E a[k].fr (by omega)
        have hp := putN_len E a[k].fr
        have c2 := rcnt_put (putN E a[k].fr) (a[k].to + 1) (by omega)
        rw [edg1, if_pos hr] at hs
        generalize putN E a[k].fr = E1 at *
        generalize putN E1 (a[k].to + 1) = E2 at *
        (have kc1 := c0; have kf1 := c1; have kf2 := c2; refine w0 ?_; (repeat' (first | refine W2.mk ?_ ?_ | refine W1.mk fun hc => ?_)); all_goals clear kf2 kf1 kc1)
        refine ⟨k + 1, hlt, by omega, ?_⟩
        rw [hs]
        exact le_auto
      | false =>
        rw [hr] at c0
        rw [edg1, if_neg (by simp [hr])] at hs
        (have kc1 := c0; refine w0 ?_; (repeat' (first | refine W2.mk ?_ ?_ | refine W1.mk fun hc => ?_)); all_goals clear kc1)
        refine ⟨k + 1, hlt, by omega, ?_⟩
        rw [hs]
        exact le_auto
    · rw [List.take_of_length_le (show a.length ≤ k by omega)]
      generalize edgR [] a = E0 at *
      (refine w0 ?_; (repeat' (first | refine W2.mk ?_ ?_ | refine W1.mk fun hc => ?_)))
      refine AW_loopP (X := Nat) (fun k => k ≤ b.length)
        (fun k => mkSt [(1, rnsB b), (5, intsC (edgR E0 (b.take k))), (7, iC .i64 ((k : Nat) : Int))] []) (fun k => b.length - k) 0 (Nat.zero_le _) ?_ ?_
      · exact le_auto
      · clear hlt hk
        intro k hk
        by_cases hlt : k < b.length
        · have hs := edgR_snoc E0 b k hlt
          have hlen := edgR_take_len E0 b k
          have c0 := rcnt_One b[k]
          generalize edgR E0 (b.take k) = E at *
          clear hR
          cases hr : rnR b[k] with
          | true =>
            have hi := (rnR_iff _).1 hr
            rw [hr] at c0
            have c1 := rcnt_put E b[k].fr (by omega)
            have hp := putN_len E b[k].fr
            have c2 := rcnt_put (putN E b[k].fr) (b[k].to + 1) (by omega)
            rw [edg1, if_pos hr] at hs
            generalize putN E b[k].fr = E1 at *
            generalize putN E1 (b[k].to + 1) = E2 at *
            (have kc1 := c0; have kf1 := c1; have kf2 := c2; refine w0 ?_; (repeat' (first | refine W2.mk ?_ ?_ | refine W1.mk fun hc => ?_)); all_goals clear kf2 kf1 kc1)
            refine ⟨k + 1, hlt, by omega, ?_⟩
            rw [hs]
            exact le_auto
          | false =>
            rw [hr] at c0
            rw [edg1, if_neg (by simp [hr])] at hs
            (have kc1 := c0; refine w0 ?_; (repeat' (first | refine W2.mk ?_ ?_ | refine W1.mk fun hc => ?_)); all_goals clear kc1)
            refine ⟨k + 1, hlt, by omega, ?_⟩
            rw [hs]
            exact le_auto
        · rw [List.take_of_length_le (show b.length ≤ k by omega), hR]
          (refine w0 ?_; (repeat' (first | refine W2.mk ?_ ?_ | refine W1.mk fun hc => ?_)))
          (refine ⟨(by first | exact .inl rfl | exact .inr rfl), res1 rfl ?_⟩)
          exact rv_lstM rfl rfl
theorem rcnt_Has (l : List Rn) (n : Int) (hl : l.length ≤ 1000000000) : Fn Tryz.prog 128 [rnsB l, iC .i64 n] (boR (hasRb l n)) := by
  generalize hT : hasRb l n = T
  refine fn_intro Tryz.func128 rfl (by kernel_rfl) Tryz.ntmps128 (Nat.le_of_ble_eq_true rfl) ?_
  (refine w0 ?_; (repeat' (first | refine W2.mk ?_ ?_ | refine W1.mk fun hc => ?_)))
  refine AW_loopP (X := Nat) (fun i => i ≤ l.length ∧ hasRb (l.drop i) n = T)
    (fun i => mkSt [(0, rnsB l), (1, iC .i64 n), (5, iC .i64 ((i : Nat) : Int))] []) (fun i => l.length - i) 0 ⟨Nat.zero_le _, by simpa using hT⟩ ?_ ?_
  · exact le_auto
  · rintro i ⟨h1, h2⟩
    clear hT
    by_cases hlt : i < l.length
    · rw [List.drop_eq_getElem_cons hlt, hasRb, List.any_cons, ← hasRb] at h2
      have c0 := rcnt_One l[i]
      cases hr : rnR l[i] with
      | true =>
        rw [hr] at c0
        rw [hr, Bool.true_and] at h2
        by_cases c1 : l[i].fr ≤ n
        · by_cases c2 : n ≤ l[i].to
          · rw [decide_eq_true c1, decide_eq_true c2, Bool.true_and, Bool.true_or] at h2
            subst h2
            (have kc1 := c0; refine w0 ?_; (repeat' (first | refine W2.mk ?_ ?_ | refine W1.mk fun hc => ?_)); all_goals clear kc1)
            (refine ⟨(by first | exact .inl rfl | exact .inr rfl), res1 rfl ?_⟩)
            exact rv_bool rfl rfl
          · rw [decide_eq_true c1, decide_eq_false c2, Bool.true_and, Bool.false_or] at h2
            (have kc1 := c0; refine w0 ?_; (repeat' (first | refine W2.mk ?_ ?_ | refine W1.mk fun hc => ?_)); all_goals clear kc1)
            refine ⟨i + 1, ⟨hlt, h2⟩, by omega, ?_⟩
            exact le_auto
        · rw [decide_eq_false c1, Bool.false_and, Bool.false_or] at h2
          (have kc1 := c0; refine w0 ?_; (repeat' (first | refine W2.mk ?_ ?_ | refine W1.mk fun hc => ?_)); all_goals clear kc1)
          refine ⟨i + 1, ⟨hlt, h2⟩, by omega, ?_⟩
          exact le_auto
      | false =>
        rw [hr] at c0
        rw [hr, Bool.false_and, Bool.false_or] at h2
        (have kc1 := c0; refine w0 ?_; (repeat' (first | refine W2.mk ?_ ?_ | refine W1.mk fun hc => ?_)); all_goals clear kc1)
        refine ⟨i + 1, ⟨hlt, h2⟩, by omega, ?_⟩
        exact le_auto
    · have h2' : false = T := by
        rw [List.drop_of_length_le (by omega)] at h2
        exact h2
      subst h2'
      clear h2
      (refine w0 ?_; (repeat' (first | refine W2.mk ?_ ?_ | refine W1.mk fun hc => ?_)))
      (refine ⟨(by first | exact .inl rfl | exact .inr rfl), res1 rfl ?_⟩)
      exact rv_bool rfl rfl
end
end Go.Proofs.YtbpmafpmlapekaaGreat
