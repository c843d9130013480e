/- Texts joined: Rset Rkp. -/
import Derived.Test.YtbpmafpmlapekaaGreatJ40
import Derived.Test.YtbpmafpmlapekaaGreatJ30
import Derived.Test.YtbpmafpmlapekaaGreatJ35
namespace Go.Proofs.YtbpmafpmlapekaaGreat
open Go.RowKit
theorem tabAt_snocT (s : List Kn) (r i : Nat) (h : i < s.length) : tabAt (s.take (i + 1)) r = tabAt (s.take i) r ++ (if s[i].rep = (r : Int) + 1 then s[i].runs else []) := by
  rw [List.take_succ_eq_append_getElem h, tabAt_snoc]
theorem setFrom_drop (g : List (List Rn)) (z : Nat) (h : z < g.length) : setFrom id z (g.drop z) = (if g[z].length = 0 then [] else [⟨(z : Int) + 1, g[z]⟩]) ++ setFrom id (z + 1) (g.drop (z + 1)) := by
  rw [List.drop_eq_getElem_cons h]; rfl
section
set_option maxRecDepth 10000
set_option maxHeartbeats 4000000
theorem rvs_Runs (s : List Kn) (r : Nat) (hs : knsTot s) : Fn Tryz.prog 109 [knsB s, iC .i64 ((r : Int) + 1)] (ownRn (tabAt s r)) := by
  have hl0 := hs.1
  have htot := hs.2
  refine fn_intro Tryz.func109 rfl (by kernel_rfl) Tryz.ntmps109 (Nat.le_of_ble_eq_true rfl) ?_
  (refine w0 ?_; (repeat' (first | refine W2.mk ?_ ?_ | refine W1.mk fun hc => ?_)))
  refine AW_le (Le_nil 5 700 102 2 rfl rfl) ?_
  refine AW_loopP (X := Nat) (fun z => z ≤ s.length)
    (fun z => mkSt [(0, knsB s), (1, iC .i64 ((r : Int) + 1)), (5, .row 700 0), (6, iC .i64 ((z : Nat) : Int))] [(700, rnsW (tabAt (s.take z) r))]) (fun z => s.length - z) 0 (Nat.zero_le _) ?_ ?_
  · exact le_auto
  · intro z hz
    by_cases hlt : z < s.length
    · have hsn := tabAt_snocT s r z hlt
      have h1 := tabAt_take s z r
      have h2 := tabAt_len s r
      have h3 := hs.sz.at hlt
      by_cases c : s[z].rep = (r : Int) + 1
      · rw [if_pos c] at hsn
        generalize tabAt (s.take z) r = A at *
        clear hs
        (refine w0 ?_; (repeat' (first | refine W2.mk ?_ ?_ | refine W1.mk fun hc => ?_)))
        refine ⟨z + 1, hlt, by omega, Le_trans (Le_mv 700 701) (Le_trans (Le_mv 701 700) ?_)⟩
        rw [hsn]
        exact le_auto
      · rw [if_neg c, List.append_nil] at hsn
        generalize tabAt (s.take z) r = A at *
        clear hs
        (refine w0 ?_; (repeat' (first | refine W2.mk ?_ ?_ | refine W1.mk fun hc => ?_)))
        refine ⟨z + 1, hlt, by omega, ?_⟩
        rw [hsn]
        exact le_auto
    · rw [List.take_of_length_le (show s.length ≤ z by omega)]
      generalize tabAt s r = A at *
      (refine w0 ?_; (repeat' (first | refine W2.mk ?_ ?_ | refine W1.mk fun hc => ?_)))
      (refine ⟨(by first | exact .inl rfl | exact .inr rfl), res1 rfl ?_⟩)
      exact rv_own rfl rfl rfl
theorem rvs_Make (op : Int) (g : List Rn → List Rn → List Rn) (a b : List Kn) (ha : knsTot a) (hb : knsTot b) (hM : ∀ r, r < 16 → Fn Tryz.prog 108 [iC .i64 op, rnsB (tabAt a r), rnsB (tabAt b r)] (ownRn (g (tabAt a r) (tabAt b r)))) :
    Fn Tryz.prog 92 [iC .i64 op, knsB a, knsB b] (ownKn (mkSet g a b)) := by
  have hZ : (List.zipWith g (tabOf a) (tabOf b)).length = 16 := by rw [List.length_zipWith, tabOf_len, tabOf_len]; rfl
  have hZg : ∀ r (h : r < 16), (List.zipWith g (tabOf a) (tabOf b))[r]? = some (g (tabAt a r) (tabAt b r)) := fun r h => by
    rw [List.getElem?_zipWith, tabOf_get _ h, tabOf_get _ h]
  generalize hQ : mkSet g a b = Q
  unfold mkSet at hQ
  generalize List.zipWith g (tabOf a) (tabOf b) = Z at *
  refine fn_intro Tryz.func92 rfl (by kernel_rfl) Tryz.ntmps92 (Nat.le_of_ble_eq_true rfl) ?_
  (refine w0 ?_; (repeat' (first | refine W2.mk ?_ ?_ | refine W1.mk fun hc => ?_)))
  refine AW_le (Le_nil 7 700 64 2 rfl rfl) ?_
  refine AW_loopP (X := Nat × List Kn) (fun z => z.1 ≤ 16 ∧ z.2.length ≤ z.1 ∧ z.2 ++ setFrom id z.1 (Z.drop z.1) = Q)
    (fun z => mkSt [(0, iC .i64 op), (1, knsB a), (2, knsB b), (7, .row 700 0), (8, iC .i64 (((z.1 : Nat) : Int) + 1))] [(700, .row 64 2 (z.2.map knP))]) (fun z => 16 - z.1) (0, []) ⟨Nat.zero_le _, Nat.le_refl _, by simpa using hQ⟩ ?_ ?_
  · exact le_auto
  · rintro ⟨z, acc⟩ ⟨h1, h2, h3⟩
    simp only at h1 h2 h3 ⊢
    clear hQ
    by_cases hz : z < 16
    · have r1 := rvs_Runs a z ha
      have r2 := rvs_Runs b z hb
      have m := (hM z hz).frz
      have hg := hZg z hz
      obtain ⟨q1, q2⟩ := List.getElem?_eq_some_iff.1 hg
      rw [setFrom_drop Z z q1, q2] at h3
      generalize tabAt a z = ta at *
      generalize tabAt b z = tb at *
      generalize g ta tb = L at *
      clear hZg hM ha hb hg
      by_cases hL : L.length = 0
      · rw [if_pos hL, List.nil_append] at h3
        (have ko1 := r1; have ko2 := r2; have kc1 := m; refine w0 ?_; (repeat' (first | refine W2.mk ?_ ?_ | refine W1.mk fun hc => ?_)); all_goals clear kc1 ko2 ko1)
        refine ⟨(z + 1, acc), ⟨by simp only; omega, by simp only; omega, h3⟩, by simp only; omega, ?_⟩
        exact le_auto
      · rw [if_neg hL] at h3
        (have ko1 := r1; have ko2 := r2; have kc1 := m; refine w0 ?_; (repeat' (first | refine W2.mk ?_ ?_ | refine W1.mk fun hc => ?_)); all_goals clear kc1 ko2 ko1)
        refine ⟨(z + 1, acc ++ [⟨(z : Int) + 1, L⟩]), ⟨by simp only; omega, by simp; omega, by simp only; rw [List.append_assoc]; exact h3⟩, by simp only; omega, Le_trans (Le_mv 700 701) (Le_trans (Le_mv 701 700) ?_)⟩
        exact le_auto
    · have h3' : acc = Q := by rw [← h3, List.drop_of_length_le (by omega)]; simp [setFrom]
      clear hZg hM h3
      (refine w0 ?_; (repeat' (first | refine W2.mk ?_ ?_ | refine W1.mk fun hc => ?_)))
      (refine ⟨(by first | exact .inl rfl | exact .inr rfl), res1 rfl ?_⟩)
      exact rv_ownM rfl rfl rfl h3'
end
end Go.Proofs.YtbpmafpmlapekaaGreat
namespace Go.Proofs.YtbpmafpmlapekaaGreat
open Go.RowKit
theorem putT_at : ∀ (l : List ByteArray) (n : ByteArray) (k : Nat), k ≤ l.length → (∀ j (h : j < l.length), j < k → l[j] < n) → (∀ h : k < l.length, ¬ l[k] < n) →
    ((∃ h : k < l.length, l[k] = n) → putT l n = l) ∧ ((¬ ∃ h : k < l.length, l[k] = n) → putT l n = l.take k ++ n :: l.drop k) := by
  intro l
  induction l with
  | nil =>
    intro n k hk _ _
    obtain rfl : k = 0 := by simpa using hk
    exact ⟨fun ⟨h, _⟩ => by simp at h, fun _ => rfl⟩
  | cons x l ih =>
    intro n k hk h1 h2
    cases k with
    | zero =>
      have := h2 (by simp)
      simp only [List.getElem_cons_zero] at this
      rw [putT, if_neg this]
      refine ⟨fun ⟨_, e⟩ => ?_, fun e => ?_⟩
      · simp only [List.getElem_cons_zero] at e
        rw [if_pos e]
      · rw [if_neg (fun q => e ⟨by simp, by simpa using q⟩)]
        rfl
    | succ k =>
      have h3 := h1 0 (by simp) (by omega)
      simp only [List.getElem_cons_zero] at h3
      have := ih n k (by simpa using hk) (fun j hj hjk => by have := h1 (j + 1) (by simpa using hj) (by omega); simpa using this) (fun h => by have := h2 (by simpa using h); simpa using this)
      rw [putT, if_pos h3]
      refine ⟨fun ⟨h, e⟩ => ?_, fun e => ?_⟩
      · rw [this.1 ⟨by simpa using h, by simpa using e⟩]
      · rw [this.2 (fun ⟨h, q⟩ => e ⟨by simpa using h, by simpa using q⟩)]
        rfl
abbrev txP (l : List ByteArray) : PV := lstP 1 (l.map strP)
abbrev txC (l : List ByteArray) : Cnt := .per (txP l)
theorem edgT_snoc (e : List ByteArray) (l : List Rg) (k : Nat) (h : k < l.length) : edgT e (l.take (k + 1)) = edg1T (edgT e (l.take k)) l[k] := by
  unfold edgT
  rw [List.take_succ_eq_append_getElem h, List.foldl_append]
  rfl
theorem putT_len : ∀ (l : List ByteArray) (n : ByteArray), (putT l n).length ≤ l.length + 1 := by
  intro l
  induction l with
  | nil => intro n; simp [putT]
  | cons x l ih =>
    intro n
    rw [putT]
    split
    · have := ih n; simp; omega
    · split <;> simp
theorem mkSet_raw (X Y : List Kn) : mkSet orR X Y = vsOf ofR (X ++ Y) := by
  unfold mkSet vsOf
  rw [tabOf_app, ← setFrom_map, List.map_zipWith]
  congr 1
  exact zip_congr _ _ (fun t u _ _ => orR_eq t u)
theorem mkSet_less (X Y : List Kn) : mkSet lessR X Y = vsLess X Y := by
  unfold mkSet vsLess lessTab
  rw [setFrom_id _ _ (fun l hl => by
    obtain ⟨t, u, _, _, rfl⟩ := zip_mem _ _ _ hl
    exact (opR_ok rfl t u).1)]
section
set_option maxRecDepth 10000
set_option maxHeartbeats 4000000
theorem rrg_put (l : List ByteArray) (n : ByteArray) (hl : l.length ≤ 1000000000) (hs : ∀ t ∈ l, t.size ≤ 1000000000) : Fn Tryz.prog 91 [txC l, sC n] (.per (txP (putT l n))) := by
  generalize hR : putT l n = R
  refine fn_intro Tryz.func91 rfl (by kernel_rfl) Tryz.ntmps91 (Nat.le_of_ble_eq_true rfl) ?_
  (refine w0 ?_; (repeat' (first | refine W2.mk ?_ ?_ | refine W1.mk fun hc => ?_)))
  refine AW_loopP (X := Nat) (fun k => k ≤ l.length ∧ ∀ j (h : j < l.length), j < k → l[j] < n)
    (fun k => mkSt [(0, txC l), (1, sC n), (5, iC .i64 ((k : Nat) : Int))] []) (fun k => l.length - k) 0 ⟨Nat.zero_le _, fun j _ h => by omega⟩ ?_ ?_
  · exact le_auto
  · rintro k ⟨h1, h2⟩
    by_cases hk : k < l.length
    · have c0 := ref_Less l[k] n (by have := hs _ (List.getElem_mem hk); omega)
      by_cases hlt : l[k] < n
      · rw [decide_eq_true (show cmpB l[k] n < 0 from hlt)] at c0
        have h2' : ∀ j (h : j < l.length), j < k + 1 → l[j] < n := fun j h hj => by
          rcases Nat.lt_or_ge j k with q | q
          · exact h2 j h q
          · obtain rfl : j = k := by omega
            exact hlt
        clear hR h2 hs hlt
        (have kc1 := c0; refine w0 ?_; (repeat' (first | refine W2.mk ?_ ?_ | refine W1.mk fun hc => ?_)); all_goals clear kc1)
        refine ⟨k + 1, ⟨hk, h2'⟩, by omega, ?_⟩
        exact le_auto
      · rw [decide_eq_false (show ¬ cmpB l[k] n < 0 from hlt)] at c0
        have hP := putT_at l n k h1 h2 (fun _ => hlt)
        by_cases he : l[k] = n
        · have hR' : l = R := by rw [← hR, hP.1 ⟨hk, he⟩]
          clear hR hP h2 hs hlt
          (have kc1 := c0; refine w0 ?_; (repeat' (first | refine W2.mk ?_ ?_ | refine W1.mk fun hc => ?_)); all_goals clear kc1)
          all_goals first
            | (exfalso; simp [he] at hc; done)
            | ((refine ⟨(by first | exact .inl rfl | exact .inr rfl), res1 rfl ?_⟩)
               exact rv_lstM rfl hR')
        · have hR' : l.take k ++ n :: l.drop k = R := by rw [← hR, hP.2 (fun ⟨_, q⟩ => he q)]
          clear hR hP h2 hs hlt
          (have kc1 := c0; refine w0 ?_; (repeat' (first | refine W2.mk ?_ ?_ | refine W1.mk fun hc => ?_)); all_goals clear kc1)
          all_goals first
            | (exfalso; rw [toL_inj'] at hc; exact he hc)
            | (refine AL_le (Le_nil 34 700 9 1 rfl rfl) ?_
               (refine w0 ?_; (repeat' (first | refine W2.mk ?_ ?_ | refine W1.mk fun hc => ?_)))
               refine ⟨.inl rfl, ResO_le (Le_fz 700 _ 9 1 rfl rfl) (res1 rfl (rv_lstE rfl (by rw [← hR']; simp [List.map_take, List.map_drop]; rfl)))⟩)
    · have hP := putT_at l n k h1 h2 (fun h => absurd h hk)
      have hR' : l.take k ++ n :: l.drop k = R := by rw [← hR, hP.2 (fun ⟨q, _⟩ => hk q)]
      clear hR hP h2 hs
      (refine w0 ?_; (repeat' (first | refine W2.mk ?_ ?_ | refine W1.mk fun hc => ?_)))
      refine AL_le (Le_nil 34 700 9 1 rfl rfl) ?_
      (refine w0 ?_; (repeat' (first | refine W2.mk ?_ ?_ | refine W1.mk fun hc => ?_)))
      refine ⟨.inl rfl, ResO_le (Le_fz 700 _ 9 1 rfl rfl) (res1 rfl (rv_lstE rfl (by rw [← hR']; simp [List.map_take, List.map_drop]; rfl)))⟩
theorem rrg_Edges (A B : List Rg) (hA : A.length ≤ 1000000) (hB : B.length ≤ 1000000) : Fn Tryz.prog 58 [rgsB A, rgsB B] (.per (txP (edgT [emB] (A ++ B)))) := by
  have hmem : ∀ k, ∀ t ∈ edgT [emB] ((A ++ B).take k), t.size ≤ 1000000000 := fun k t ht => by
    rcases (edgT_mem _ _ _).1 ht with h | ⟨r, _, h1, h2⟩
    · have h : t = emB := by simpa using h
      rw [h]; decide
    · have := (rgR_iff r).1 h1
      rcases h2 with h2 | ⟨_, h2⟩ <;> rw [h2] <;> omega
  have hlen : ∀ k, (edgT [emB] ((A ++ B).take k)).length ≤ 10000000 := fun k => by
    have h1 := edgT_len ((A ++ B).take k) [emB]
    have h2 : ((A ++ B).take k).length ≤ A.length + B.length := by rw [List.length_take, List.length_append]; omega
    simp only [List.length_cons, List.length_nil] at h1
    omega
  refine fn_intro Tryz.func58 rfl (by kernel_rfl) Tryz.ntmps58 (Nat.le_of_ble_eq_true rfl) ?_
  (repeat' (first | refine AW_seq ?_ | refine AW_block ?_ | refine AW_skip ?_ | refine AW_exit ?_ | refine AW_ret ?_ | refine AW_region ?_ | refine AW_draw mixed0 ?_ | refine AL_nil ?_ | refine AD_nil (by kernel_rfl) ?_ | (refine AW_cl rfl rfl ⟨fun hc => ?_, fun hc => ?_⟩ <;> (repeat rw [List.length_map] at hc) <;> (try exact absd hc)) | ((first | apply AL_t rfl | apply AL_0 rfl | apply AD_t rfl | apply AD_0 rfl); focus (first | ((apply u_k 15; (focus rfl); solve | (apply u_bslice_row <;> first | exact ⟨rfl, rfl, rfl⟩ | rfl | infer_instance | (repeat (first | exact PartsL.nil | (apply PartsL.cons; (focus (first | exact part_raw rfl rfl rfl | exact part_agg rfl | exact part_lst rfl)))))))) | (apply u_g; (focus rfl); apply op_gyes rfl rfl rfl rfl rfl; ((apply u_k 15; (focus rfl); solve | (apply u_bslice_row <;> first | exact ⟨rfl, rfl, rfl⟩ | rfl | infer_instance | (repeat (first | exact PartsL.nil | (apply PartsL.cons; (focus (first | exact part_raw rfl rfl rfl | exact part_agg rfl | exact part_lst rfl))))))))) | exact z_auto | fail)) | refine thenA_n ?_ | refine thenA_r ?_ | refine thenA_e ?_ | refine inB_n ?_ | refine inB_r ?_ | refine inB_hit ?_ | refine inB_miss rfl ?_ | ((first | refine AL_cl rfl rfl rfl ⟨fun hc => ?_, fun hc => ?_⟩ | refine AD_cl rfl rfl rfl ⟨fun hc => ?_, fun hc => ?_⟩) <;> (fail_if_success (have q : (true = true) := hc)) <;> (fail_if_success (have q : (false = false) := hc)) <;> (repeat rw [List.length_map] at hc) <;> (try exact absd hc)) | refine AW_cond_nil rfl rfl (fun hc => ?_) ?_))
  refine AW_le (Le_fz 8 _ 9 1 rfl rfl) ?_
  refine AW_loopP (X := Nat) (fun k => k ≤ A.length + B.length)
    (fun k => mkSt [(0, rgsB A), (1, rgsB B), (5, txC (edgT [emB] ((A ++ B).take k))), (6, iC .i64 ((k : Nat) : Int))] []) (fun k => A.length + B.length - k) 0 (Nat.zero_le _) ?_ ?_
  · exact le_auto
  · intro k hk
    by_cases hlt : k < A.length + B.length
    · have hlt' : k < (A ++ B).length := by rw [List.length_append]; exact hlt
      have hs := edgT_snoc [emB] (A ++ B) k hlt'
      have hm := hmem k
      have hl := hlen k
      have hm2 := hmem (k + 1)
      generalize edgT [emB] ((A ++ B).take k) = E at *
      obtain ⟨r, hr⟩ : ∃ r, r = (A ++ B)[k] := ⟨_, rfl⟩
      rw [← hr] at hs
      have c0 := rspan_Right r
      have c1 := rrg_put E r.lo (by omega) hm
      have hp := putT_len E r.lo
      have hpm : rgR r = true → ∀ t ∈ putT E r.lo, t.size ≤ 1000000000 := fun h t ht => by
        rcases (putT_mem _ _ _).1 ht with q | q
        · rw [q]; have := (rgR_iff r).1 h; omega
        · exact hm t q
      clear hmem hlen hm2 hm
      by_cases hkA : k < A.length
      · have hrA : A[k] = r := by rw [hr, List.getElem_append_left hkA]
        rw [← hrA] at c0 c1 hs hp hpm
        clear hr hrA
        cases hR : rgR A[k] with
        | false =>
          rw [hR] at c0
          rw [edg1T, if_neg (by simp [hR])] at hs
          (have kc1 := c0; refine w0 ?_; (repeat' (first | refine W2.mk ?_ ?_ | refine W1.mk fun hc => ?_)); all_goals clear kc1)
          refine ⟨k + 1, hlt, by omega, ?_⟩
          rw [hs]
          exact le_auto
        | true =>
          rw [hR] at c0
          rw [edg1T, if_pos hR] at hs
          have hpm := hpm hR
          cases hO : A[k].op with
          | true =>
            rw [if_pos hO] at hs
            generalize putT E A[k].lo = E1 at *
            (have kc1 := c0; have kf1 := c1; refine w0 ?_; (repeat' (first | refine W2.mk ?_ ?_ | refine W1.mk fun hc => ?_)); all_goals clear kf1 kc1)
            all_goals first
              | (exfalso; simp [hO] at hc; done)
              | (refine ⟨k + 1, hlt, by omega, ?_⟩
                 rw [hs]
                 exact le_auto)
          | false =>
            rw [if_neg (by simp [hO])] at hs
            have c2 := rrg_put (putT E A[k].lo) A[k].hi (by omega) hpm
            generalize putT E A[k].lo = E1 at *
            generalize putT E1 A[k].hi = E2 at *
            (have kc1 := c0; have kf1 := c1; have kf2 := c2; refine w0 ?_; (repeat' (first | refine W2.mk ?_ ?_ | refine W1.mk fun hc => ?_)); all_goals clear kf2 kf1 kc1)
            all_goals first
              | (exfalso; simp [hO] at hc; done)
              | (refine ⟨k + 1, hlt, by omega, ?_⟩
                 rw [hs]
                 exact le_auto)
      · have hkB : k - A.length < B.length := by omega
        have hrB : B[k - A.length] = r := by rw [hr, List.getElem_append_right (by omega)]
        have eK : ((k : Nat) : Int) - ((A.length : Nat) : Int) = ((k - A.length : Nat) : Int) := by omega
        rw [← hrB] at c0 c1 hs hp hpm
        clear hr hrB
        cases hR : rgR B[k - A.length] with
        | false =>
          rw [hR] at c0
          rw [edg1T, if_neg (by simp [hR])] at hs
          (have ke1 := Lib.hid (eK); have kc1 := c0; refine w0e ?_; (repeat' (first | refine W2.mk ?_ ?_ | refine W1.mk fun hc => ?_)); all_goals clear kc1 ke1)
          refine ⟨k + 1, hlt, by omega, ?_⟩
          rw [hs]
          exact le_auto
        | true =>
          rw [hR] at c0
          rw [edg1T, if_pos hR] at hs
          have hpm := hpm hR
          cases hO : B[k - A.length].op with
          | true =>
            rw [if_pos hO] at hs
            generalize putT E B[k - A.length].lo = E1 at *
            (have ke1 := Lib.hid (eK); have kc1 := c0; have kf1 := c1; refine w0e ?_; (repeat' (first | refine W2.mk ?_ ?_ | refine W1.mk fun hc => ?_)); all_goals clear kf1 kc1 ke1)
            all_goals first
              | (exfalso; simp [hO] at hc; done)
              | (refine ⟨k + 1, hlt, by omega, ?_⟩
                 rw [hs]
                 exact le_auto)
          | false =>
            rw [if_neg (by simp [hO])] at hs
            have c2 := rrg_put (putT E B[k - A.length].lo) B[k - A.length].hi (by omega) hpm
            generalize putT E B[k - A.length].lo = E1 at *
            generalize putT E1 B[k - A.length].hi = E2 at *
            (have ke1 := Lib.hid (eK); have kc1 := c0; have kf1 := c1; have kf2 := c2; refine w0e ?_; (repeat' (first | refine W2.mk ?_ ?_ | refine W1.mk fun hc => ?_)); all_goals clear kf2 kf1 kc1 ke1)
            all_goals first
              | (exfalso; simp [hO] at hc; done)
              | (refine ⟨k + 1, hlt, by omega, ?_⟩
                 rw [hs]
                 exact le_auto)
    · rw [List.take_of_length_le (by rw [List.length_append]; omega)]
      generalize edgT [emB] (A ++ B) = E at *
      (refine w0 ?_; (repeat' (first | refine W2.mk ?_ ?_ | refine W1.mk fun hc => ?_)))
      (refine ⟨(by first | exact .inl rfl | exact .inr rfl), res1 rfl ?_⟩)
      exact rv_lstM rfl rfl
end
end Go.Proofs.YtbpmafpmlapekaaGreat
