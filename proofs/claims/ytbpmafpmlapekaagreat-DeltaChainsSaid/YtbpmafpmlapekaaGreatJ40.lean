/- Texts joined: Rcm. -/
import Derived.Test.YtbpmafpmlapekaaGreatJ39
namespace Go.Proofs.YtbpmafpmlapekaaGreat
open Go.RowKit
theorem segF_step (f : Int → Bool) {E : List Int} {i : Nat} (h : i + 1 < E.length) : segF f (E.drop i) = (if f E[i] then [⟨E[i], E[i + 1] - 1⟩] else []) ++ segF f (E.drop (i + 1)) := by
  rw [List.drop_eq_getElem_cons (show i < E.length by omega), List.drop_eq_getElem_cons h, segF]
theorem segF_end (f : Int → Bool) {E : List Int} {i : Nat} (h : ¬ i + 1 < E.length) : segF f (E.drop i) = [] := by
  by_cases c : i < E.length
  · rw [List.drop_eq_getElem_cons c, List.drop_of_length_le (by omega)]; rfl
  · rw [List.drop_of_length_le (by omega)]; rfl
theorem mgR_cons (x : Rn) (l : List Rn) : mergeR (x :: l) = mgC x l := rfl
def orK (x y : Bool) : Bool := x || y
section
set_option maxRecDepth 10000
set_option maxHeartbeats 4000000
theorem rcnt_Make1 (a b : List Rn) (ha : a.length ≤ 100000000) (hb : b.length ≤ 100000000) :
    Fn Tryz.prog 108 [iC .i64 1, rnsB a, rnsB b] (ownRn (opR (byR orK a b) a b)) := by
  have hE := rcnt_Edges a b ha hb
  have hup : upN (edgR (edgR [] a) b) := edgR_up _ _ (edgR_up _ _ List.Pairwise.nil)
  have hrg : ∀ m ∈ edgR (edgR [] a) b, 1 ≤ m ∧ m ≤ 1099511627777 := fun m hm => edM_rng hm
  have hln := edgR_len b (edgR [] a)
  have hln2 := edgR_len a []
  simp only [List.length_nil, Nat.zero_add] at hln2
  have hbE : (edgR (edgR [] a) b).length ≤ 400000000 := by omega
  clear hln hln2
  unfold opR
  have hf : ∀ n, byR orK a b n = orK (hasRb a n) (hasRb b n) := fun _ => rfl
  generalize byR orK a b = f at *
  generalize edgR (edgR [] a) b = E at *
  generalize hR : mergeR (segF f E) = R
  refine fn_intro Tryz.func108 rfl (by kernel_rfl) Tryz.ntmps108 (Nat.le_of_ble_eq_true rfl) ?_
  (have kc1 := hE; refine w0 ?_; (repeat' (first | refine W2.mk ?_ ?_ | refine W1.mk fun hc => ?_)); all_goals clear kc1)
  clear hE
  refine AW_le (Le_nil 8 700 102 2 rfl rfl) ?_
  refine AW_loopP (X := Nat × List Rn) (fun x => x.1 ≤ E.length ∧ x.2.length ≤ x.1 ∧ ((x.2 = [] ∧ mergeR (segF f (E.drop x.1)) = R) ∨ ∃ o y, x.2 = o ++ [y] ∧ rnR y = true ∧ (∀ h : x.1 < E.length, y.to + 1 ≤ E[x.1]) ∧ o ++ mgC y (segF f (E.drop x.1)) = R))
    (fun x => mkSt [(0, iC .i64 1), (1, rnsB a), (2, rnsB b), (7, intsC E), (8, .row 700 0), (9, iC .i64 ((x.1 : Nat) : Int))] [(700, rnsW x.2)]) (fun x => E.length - x.1) (0, []) ⟨Nat.zero_le _, Nat.le_refl _, .inl ⟨rfl, by simpa using hR⟩⟩ ?_ ?_
  · exact le_auto
  · rintro ⟨i, out⟩ ⟨g1, g0, g2⟩
    simp only at g1 g0 g2 ⊢
    clear hR
    by_cases hk : i + 1 < E.length
    · have hi : i < E.length := by omega
      have b1 := hrg _ (List.getElem_mem hi)
      have b2 := hrg _ (List.getElem_mem hk)
      have b3 := List.pairwise_iff_getElem.1 hup i (i + 1) hi hk (by omega)
      have hst := segF_step f hk
      rw [hf] at hst
      have c1 := rcnt_Has a E[i] (by omega)
      have c2 := rcnt_Has b E[i] (by omega)
      clear hrg hup hf
      have hnr : rnR ⟨E[i], E[i + 1] - 1⟩ = true := (rnR_iff _).2 (by simp only; omega)
      have hnt : ∀ h : i + 1 < E.length, (⟨E[i], E[i + 1] - 1⟩ : Rn).to + 1 ≤ E[i + 1] := fun _ => by simp only; omega
      generalize segF f (E.drop i) = T0 at *
      generalize hasRb a E[i] = x at *
      generalize hasRb b E[i] = y at *
      obtain ⟨K, hK⟩ : ∃ K, K = orK x y := ⟨_, rfl⟩
      rw [← hK] at hst
      cases x <;> cases y <;> first
        | (have hK2 : K = false := hK
           subst hK2
           rw [if_neg Bool.false_ne_true, List.nil_append] at hst
           subst hst
           have g2' : (out = [] ∧ mergeR (segF f (E.drop (i + 1))) = R) ∨ ∃ o y, out = o ++ [y] ∧ rnR y = true ∧ (∀ h : i + 1 < E.length, y.to + 1 ≤ E[i + 1]) ∧ o ++ mgC y (segF f (E.drop (i + 1))) = R := by
             rcases g2 with g2 | ⟨o, y, h1, h2, h3, h4⟩
             · exact .inl g2
             · exact .inr ⟨o, y, h1, h2, fun h => by have := h3 hi; omega, h4⟩
           clear g2 hK
           (have ke1 := Lib.hid ((show ((i : Nat) : Int) + 1 = ((i + 1 : Nat) : Int) by omega)); have kf1 := c1; have kf2 := c2; refine w0e ?_; (repeat' (first | refine W2.mk ?_ ?_ | refine W1.mk fun hc => ?_)); all_goals clear kf2 kf1 ke1)
           refine ⟨(i + 1, out), ⟨by simp only; omega, by simp only; omega, g2'⟩, by simp only; omega, ?_⟩
           exact le_auto)
        | (have hK2 : K = true := hK
           subst hK2
           rw [if_pos rfl] at hst
           subst hst
           clear hK
           rcases g2 with ⟨ho, hm⟩ | ⟨o, z, ho, hz, hb, hm⟩
           · subst ho
             (have ke1 := Lib.hid ((show ((i : Nat) : Int) + 1 = ((i + 1 : Nat) : Int) by omega)); have kf1 := c1; have kf2 := c2; refine w0e ?_; (repeat' (first | refine W2.mk ?_ ?_ | refine W1.mk fun hc => ?_)); all_goals clear kf2 kf1 ke1)
             refine ⟨(i + 1, [⟨E[i], E[i + 1] - 1⟩]), ⟨by simp only; omega, by simp, .inr ⟨[], _, rfl, hnr, hnt, hm⟩⟩, by simp only; omega, Le_trans (Le_mv 700 701) (Le_trans (Le_mv 701 700) ?_)⟩
             exact le_auto
           · subst ho
             have hzi := (rnR_iff z).1 hz
             have hbz := hb hi
             rw [show ([(⟨E[i], E[i + 1] - 1⟩ : Rn)] ++ segF f (E.drop (i + 1))) = (⟨E[i], E[i + 1] - 1⟩ : Rn) :: segF f (E.drop (i + 1)) from rfl, mgC] at hm
             simp only at hm
             have hL1 : (o ++ [z]).length = o.length + 1 := by simp
             have hM : max z.to (E[i + 1] - 1) = E[i + 1] - 1 := by omega
             have hmr : rnR ⟨z.fr, E[i + 1] - 1⟩ = true := (rnR_iff _).2 (by simp only; omega)
             rw [hM] at hm
             generalize hL : o ++ [z] = L at *
             have hLi : ((L.length : Int) - 1).toNat = o.length := by omega
             have HY : (L.map rnP)[((L.length : Int) - 1).toNat]? = some (rnP z) := by
               rw [List.getElem?_map, hLi, ← hL]
               simp
             have HS1 : (L.map rnP).set ((L.length : Int) - 1).toNat (setP (rnP z) 1 [rawP (.int .i64 (E[i + 1] - 1))]) = (o ++ [(⟨z.fr, E[i + 1] - 1⟩ : Rn)]).map rnP := by
               rw [show (L.map rnP).set ((L.length : Int) - 1).toNat (setP (rnP z) 1 [rawP (.int .i64 (E[i + 1] - 1))]) = (L.set ((L.length : Int) - 1).toNat ⟨z.fr, E[i + 1] - 1⟩).map rnP from map_set2 rnP L _ (⟨z.fr, E[i + 1] - 1⟩ : Rn), ← hL, set_at2 o z _ [] _ (by rw [hL]; omega)]
             have hML : (o ++ [(⟨z.fr, E[i + 1] - 1⟩ : Rn)]).length = L.length := by rw [← hL]; simp
             by_cases c : z.to = E[i] - 1
             · rw [if_pos (by omega)] at hm
               (have ke1 := Lib.hid ((show ((i : Nat) : Int) + 1 = ((i + 1 : Nat) : Int) by omega)); have kf1 := c1; have kf2 := c2; refine w0e ?_; (repeat' (first | refine W2.mk ?_ ?_ | refine W1.mk fun hc => ?_ | ((first | apply AL_t rfl | apply AL_0 rfl | apply AD_t rfl | apply AD_0 rfl); (focus (first | ((apply u_k 5; (focus rfl); exact u_load_r1 ⟨rfl, rfl, rfl⟩ rfl inferInstance rfl rfl rfl HY rfl)) | ((apply u_k 6; (focus rfl); exact u_store_r ⟨rfl, rfl⟩ rfl inferInstance rfl rfl rfl rfl HY rfl (part_raw rfl rfl rfl) rfl HS1)) | (apply u_g; (focus rfl); apply op_gyes rfl rfl rfl rfl rfl; first | ((apply u_k 5; (focus rfl); exact u_load_r1 ⟨rfl, rfl, rfl⟩ rfl inferInstance rfl rfl rfl HY rfl)) | ((apply u_k 6; (focus rfl); exact u_store_r ⟨rfl, rfl⟩ rfl inferInstance rfl rfl rfl rfl HY rfl (part_raw rfl rfl rfl) rfl HS1))))); refine w0e ?_))); all_goals clear kf2 kf1 ke1)
               refine ⟨(i + 1, _), ⟨by simp only; omega, by simp only; omega, .inr ⟨o, _, rfl, hmr, fun _ => by simp only; omega, hm⟩⟩, by simp only; omega, ?_⟩
               exact le_auto
             · rw [if_neg (by omega)] at hm
               (have ke1 := Lib.hid ((show ((i : Nat) : Int) + 1 = ((i + 1 : Nat) : Int) by omega)); have kf1 := c1; have kf2 := c2; refine w0e ?_; (repeat' (first | refine W2.mk ?_ ?_ | refine W1.mk fun hc => ?_ | ((first | apply AL_t rfl | apply AL_0 rfl | apply AD_t rfl | apply AD_0 rfl); (focus (first | ((apply u_k 5; (focus rfl); exact u_load_r1 ⟨rfl, rfl, rfl⟩ rfl inferInstance rfl rfl rfl HY rfl)) | (apply u_g; (focus rfl); apply op_gyes rfl rfl rfl rfl rfl; first | ((apply u_k 5; (focus rfl); exact u_load_r1 ⟨rfl, rfl, rfl⟩ rfl inferInstance rfl rfl rfl HY rfl))))); refine w0e ?_))); all_goals clear kf2 kf1 ke1)
               refine ⟨(i + 1, L ++ [⟨E[i], E[i + 1] - 1⟩]), ⟨by simp only; omega, by simp; omega, .inr ⟨L, _, rfl, hnr, hnt, by simp only; rw [← hL, List.append_assoc]; exact hm⟩⟩, by simp only; omega, Le_trans (Le_mv 700 701) (Le_trans (Le_mv 701 700) ?_)⟩
               exact le_auto)
    · have g3 : out = R := by
        rw [segF_end f hk] at g2
        rcases g2 with ⟨a, b⟩ | ⟨o, y, a, _, _, b⟩
        · rw [a, ← b]; rfl
        · rw [a, ← b]; rfl
      clear g2 hup hrg hf
      (refine w0 ?_; (repeat' (first | refine W2.mk ?_ ?_ | refine W1.mk fun hc => ?_)))
      (refine ⟨(by first | exact .inl rfl | exact .inr rfl), res1 rfl ?_⟩)
      exact rv_ownM rfl rfl rfl g3
theorem rcnt_Make3 (a b : List Rn) (ha : a.length ≤ 100000000) (hb : b.length ≤ 100000000) :
    Fn Tryz.prog 108 [iC .i64 3, rnsB a, rnsB b] (ownRn (opR (byR lessK a b) a b)) := by
  have hE := rcnt_Edges a b ha hb
  have hup : upN (edgR (edgR [] a) b) := edgR_up _ _ (edgR_up _ _ List.Pairwise.nil)
  have hrg : ∀ m ∈ edgR (edgR [] a) b, 1 ≤ m ∧ m ≤ 1099511627777 := fun m hm => edM_rng hm
  have hln := edgR_len b (edgR [] a)
  have hln2 := edgR_len a []
  simp only [List.length_nil, Nat.zero_add] at hln2
  have hbE : (edgR (edgR [] a) b).length ≤ 400000000 := by omega
  clear hln hln2
  unfold opR
  have hf : ∀ n, byR lessK a b n = lessK (hasRb a n) (hasRb b n) := fun _ => rfl
  generalize byR lessK a b = f at *
  generalize edgR (edgR [] a) b = E at *
  generalize hR : mergeR (segF f E) = R
  refine fn_intro Tryz.func108 rfl (by kernel_rfl) Tryz.ntmps108 (Nat.le_of_ble_eq_true rfl) ?_
  (have kc1 := hE; refine w0 ?_; (repeat' (first | refine W2.mk ?_ ?_ | refine W1.mk fun hc => ?_)); all_goals clear kc1)
  clear hE
  refine AW_le (Le_nil 8 700 102 2 rfl rfl) ?_
  refine AW_loopP (X := Nat × List Rn) (fun x => x.1 ≤ E.length ∧ x.2.length ≤ x.1 ∧ ((x.2 = [] ∧ mergeR (segF f (E.drop x.1)) = R) ∨ ∃ o y, x.2 = o ++ [y] ∧ rnR y = true ∧ (∀ h : x.1 < E.length, y.to + 1 ≤ E[x.1]) ∧ o ++ mgC y (segF f (E.drop x.1)) = R))
    (fun x => mkSt [(0, iC .i64 3), (1, rnsB a), (2, rnsB b), (7, intsC E), (8, .row 700 0), (9, iC .i64 ((x.1 : Nat) : Int))] [(700, rnsW x.2)]) (fun x => E.length - x.1) (0, []) ⟨Nat.zero_le _, Nat.le_refl _, .inl ⟨rfl, by simpa using hR⟩⟩ ?_ ?_
  · exact le_auto
  · rintro ⟨i, out⟩ ⟨g1, g0, g2⟩
    simp only at g1 g0 g2 ⊢
    clear hR
    by_cases hk : i + 1 < E.length
    · have hi : i < E.length := by omega
      have b1 := hrg _ (List.getElem_mem hi)
      have b2 := hrg _ (List.getElem_mem hk)
      have b3 := List.pairwise_iff_getElem.1 hup i (i + 1) hi hk (by omega)
      have hst := segF_step f hk
      rw [hf] at hst
      have c1 := rcnt_Has a E[i] (by omega)
      have c2 := rcnt_Has b E[i] (by omega)
      clear hrg hup hf
      have hnr : rnR ⟨E[i], E[i + 1] - 1⟩ = true := (rnR_iff _).2 (by simp only; omega)
      have hnt : ∀ h : i + 1 < E.length, (⟨E[i], E[i + 1] - 1⟩ : Rn).to + 1 ≤ E[i + 1] := fun _ => by simp only; omega
      generalize segF f (E.drop i) = T0 at *
      generalize hasRb a E[i] = x at *
      generalize hasRb b E[i] = y at *
      obtain ⟨K, hK⟩ : ∃ K, K = lessK x y := ⟨_, rfl⟩
      rw [← hK] at hst
      cases x <;> cases y <;> first
        | (have hK2 : K = false := hK
           subst hK2
           rw [if_neg Bool.false_ne_true, List.nil_append] at hst
           subst hst
           have g2' : (out = [] ∧ mergeR (segF f (E.drop (i + 1))) = R) ∨ ∃ o y, out = o ++ [y] ∧ rnR y = true ∧ (∀ h : i + 1 < E.length, y.to + 1 ≤ E[i + 1]) ∧ o ++ mgC y (segF f (E.drop (i + 1))) = R := by
             rcases g2 with g2 | ⟨o, y, h1, h2, h3, h4⟩
             · exact .inl g2
             · exact .inr ⟨o, y, h1, h2, fun h => by have := h3 hi; omega, h4⟩
           clear g2 hK
           (have ke1 := Lib.hid ((show ((i : Nat) : Int) + 1 = ((i + 1 : Nat) : Int) by omega)); have kf1 := c1; have kf2 := c2; refine w0e ?_; (repeat' (first | refine W2.mk ?_ ?_ | refine W1.mk fun hc => ?_)); all_goals clear kf2 kf1 ke1)
           refine ⟨(i + 1, out), ⟨by simp only; omega, by simp only; omega, g2'⟩, by simp only; omega, ?_⟩
           exact le_auto)
        | (have hK2 : K = true := hK
           subst hK2
           rw [if_pos rfl] at hst
           subst hst
           clear hK
           rcases g2 with ⟨ho, hm⟩ | ⟨o, z, ho, hz, hb, hm⟩
           · subst ho
             (have ke1 := Lib.hid ((show ((i : Nat) : Int) + 1 = ((i + 1 : Nat) : Int) by omega)); have kf1 := c1; have kf2 := c2; refine w0e ?_; (repeat' (first | refine W2.mk ?_ ?_ | refine W1.mk fun hc => ?_)); all_goals clear kf2 kf1 ke1)
             refine ⟨(i + 1, [⟨E[i], E[i + 1] - 1⟩]), ⟨by simp only; omega, by simp, .inr ⟨[], _, rfl, hnr, hnt, hm⟩⟩, by simp only; omega, Le_trans (Le_mv 700 701) (Le_trans (Le_mv 701 700) ?_)⟩
             exact le_auto
           · subst ho
             have hzi := (rnR_iff z).1 hz
             have hbz := hb hi
             rw [show ([(⟨E[i], E[i + 1] - 1⟩ : Rn)] ++ segF f (E.drop (i + 1))) = (⟨E[i], E[i + 1] - 1⟩ : Rn) :: segF f (E.drop (i + 1)) from rfl, mgC] at hm
             simp only at hm
             have hL1 : (o ++ [z]).length = o.length + 1 := by simp
             have hM : max z.to (E[i + 1] - 1) = E[i + 1] - 1 := by omega
             have hmr : rnR ⟨z.fr, E[i + 1] - 1⟩ = true := (rnR_iff _).2 (by simp only; omega)
             rw [hM] at hm
             generalize hL : o ++ [z] = L at *
             have hLi : ((L.length : Int) - 1).toNat = o.length := by omega
             have HY : (L.map rnP)[((L.length : Int) - 1).toNat]? = some (rnP z) := by
               rw [List.getElem?_map, hLi, ← hL]
               simp
             have HS1 : (L.map rnP).set ((L.length : Int) - 1).toNat (setP (rnP z) 1 [rawP (.int .i64 (E[i + 1] - 1))]) = (o ++ [(⟨z.fr, E[i + 1] - 1⟩ : Rn)]).map rnP := by
               rw [show (L.map rnP).set ((L.length : Int) - 1).toNat (setP (rnP z) 1 [rawP (.int .i64 (E[i + 1] - 1))]) = (L.set ((L.length : Int) - 1).toNat ⟨z.fr, E[i + 1] - 1⟩).map rnP from map_set2 rnP L _ (⟨z.fr, E[i + 1] - 1⟩ : Rn), ← hL, set_at2 o z _ [] _ (by rw [hL]; omega)]
             have hML : (o ++ [(⟨z.fr, E[i + 1] - 1⟩ : Rn)]).length = L.length := by rw [← hL]; simp
             by_cases c : z.to = E[i] - 1
             · rw [if_pos (by omega)] at hm
               (have ke1 := Lib.hid ((show ((i : Nat) : Int) + 1 = ((i + 1 : Nat) : Int) by omega)); have kf1 := c1; have kf2 := c2; refine w0e ?_; (repeat' (first | refine W2.mk ?_ ?_ | refine W1.mk fun hc => ?_ | ((first | apply AL_t rfl | apply AL_0 rfl | apply AD_t rfl | apply AD_0 rfl); (focus (first | ((apply u_k 5; (focus rfl); exact u_load_r1 ⟨rfl, rfl, rfl⟩ rfl inferInstance rfl rfl rfl HY rfl)) | ((apply u_k 6; (focus rfl); exact u_store_r ⟨rfl, rfl⟩ rfl inferInstance rfl rfl rfl rfl HY rfl (part_raw rfl rfl rfl) rfl HS1)) | (apply u_g; (focus rfl); apply op_gyes rfl rfl rfl rfl rfl; first | ((apply u_k 5; (focus rfl); exact u_load_r1 ⟨rfl, rfl, rfl⟩ rfl inferInstance rfl rfl rfl HY rfl)) | ((apply u_k 6; (focus rfl); exact u_store_r ⟨rfl, rfl⟩ rfl inferInstance rfl rfl rfl rfl HY rfl (part_raw rfl rfl rfl) rfl HS1))))); refine w0e ?_))); all_goals clear kf2 kf1 ke1)
               refine ⟨(i + 1, _), ⟨by simp only; omega, by simp only; omega, .inr ⟨o, _, rfl, hmr, fun _ => by simp only; omega, hm⟩⟩, by simp only; omega, ?_⟩
               exact le_auto
             · rw [if_neg (by omega)] at hm
               (have ke1 := Lib.hid ((show ((i : Nat) : Int) + 1 = ((i + 1 : Nat) : Int) by omega)); have kf1 := c1; have kf2 := c2; refine w0e ?_; (repeat' (first | refine W2.mk ?_ ?_ | refine W1.mk fun hc => ?_ | ((first | apply AL_t rfl | apply AL_0 rfl | apply AD_t rfl | apply AD_0 rfl); (focus (first | ((apply u_k 5; (focus rfl); exact u_load_r1 ⟨rfl, rfl, rfl⟩ rfl inferInstance rfl rfl rfl HY rfl)) | (apply u_g; (focus rfl); apply op_gyes rfl rfl rfl rfl rfl; first | ((apply u_k 5; (focus rfl); exact u_load_r1 ⟨rfl, rfl, rfl⟩ rfl inferInstance rfl rfl rfl HY rfl))))); refine w0e ?_))); all_goals clear kf2 kf1 ke1)
               refine ⟨(i + 1, L ++ [⟨E[i], E[i + 1] - 1⟩]), ⟨by simp only; omega, by simp; omega, .inr ⟨L, _, rfl, hnr, hnt, by simp only; rw [← hL, List.append_assoc]; exact hm⟩⟩, by simp only; omega, Le_trans (Le_mv 700 701) (Le_trans (Le_mv 701 700) ?_)⟩
               exact le_auto)
    · have g3 : out = R := by
        rw [segF_end f hk] at g2
        rcases g2 with ⟨a, b⟩ | ⟨o, y, a, _, _, b⟩
        · rw [a, ← b]; rfl
        · rw [a, ← b]; rfl
      clear g2 hup hrg hf
      (refine w0 ?_; (repeat' (first | refine W2.mk ?_ ?_ | refine W1.mk fun hc => ?_)))
      (refine ⟨(by first | exact .inl rfl | exact .inr rfl), res1 rfl ?_⟩)
      exact rv_ownM rfl rfl rfl g3
end
end Go.Proofs.YtbpmafpmlapekaaGreat
