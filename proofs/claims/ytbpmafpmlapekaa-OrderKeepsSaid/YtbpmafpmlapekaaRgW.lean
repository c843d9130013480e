/- Lists of ranges: made right, searched. -/
import Derived.Test.YtbpmafpmlapekaaSpan
import Derived.Test.YtbpmafpmlapekaaSrtR
namespace Go.Proofs.Ytbpmafpmlapekaa
open Go.RowKit
abbrev ownRg (l : List Rg) : Ret := .own 118 3 (l.map rgP)
theorem ofS_take {Q : List Rg} {k : Nat} (hk : k < Q.length) : rgOfS (Q.take (k + 1)) = ofF (rgOfS (Q.take k)) Q[k] := by
  unfold rgOfS; rw [List.take_succ_eq_append_getElem hk, List.foldl_append]; rfl
theorem ofS_right {Q : List Rg} (hR : ∀ r ∈ Q, rgR r = true) (hS : Q.Pairwise (fun x y => x.lo ≤ y.lo)) (k : Nat) : ∀ r ∈ rgOfS (Q.take k), rgR r = true := by
  intro r hr
  have h := (rgOfS_ok (L := Q.take k) (fun x hx => hR x (List.mem_of_mem_take hx)) (hS.sublist (List.take_sublist _ _))).1
  obtain ⟨i, hi, rfl⟩ := List.getElem_of_mem hr
  exact (h i hi).1
theorem ofS_len (Q : List Rg) (k : Nat) : (rgOfS (Q.take k)).length ≤ k := by
  have h := of_len (Q.take k) []
  rw [List.length_take] at h
  simp only [List.length_nil] at h
  unfold rgOfS
  omega
section
set_option maxRecDepth 10000
set_option maxHeartbeats 4000000
theorem rgs_Of (l : List Rg) (hl : (l.filter rgR).length ≤ 12) (hn : l.length ≤ 1000000000) : Fn Try.prog 84 [rgsB l] (ownRg (rgOf l)) := by
  generalize hT : l.filter rgR = T at *
  have hTr : ∀ x ∈ T, rgR x = true := fun x hx => by rw [← hT] at hx; exact (List.mem_filter.1 hx).2
  have hs := sort_few T (fun x hx => by have := ((rgR_iff x).1 (hTr x hx)).1; show x.lo.size ≤ _; omega) hl
  generalize hR : rgOf l = R
  unfold rgOf at hR
  rw [hT] at hR
  have hQr : ∀ x ∈ srtS ltR T, rgR x = true := fun x hx => hTr x ((srtS_mem ltR_wo).1 hx)
  have hQs : (srtS ltR T).Pairwise fun x y => x.lo ≤ y.lo := ((srtS_spec ltR_wo T).1).imp fun {x y} h => by simp only [ltR, decide_eq_false_iff_not, o_lt] at h; grind
  have hql := srtS_len (lt := ltR) T
  generalize srtS ltR T = Q at *
  refine fn_intro Try.func84 rfl (by kernel_rfl) Try.ntmps84 (Nat.le_of_ble_eq_true rfl) ?_
  (repeat' (first | refine AW_seq ?_ | refine AW_block ?_ | refine AW_skip ?_ | refine AW_exit ?_ | refine AW_ret ?_ | refine AW_region ?_ | refine AW_draw mixed0 ?_ | refine AL_nil ?_ | refine AD_nil (by kernel_rfl) ?_ | (refine AW_cl rfl rfl ⟨fun hc => ?_, fun hc => ?_⟩ <;> (repeat rw [List.length_map] at hc) <;> (try exact absd hc)) | ((first | apply AL_t rfl | apply AL_0 rfl | apply AD_t rfl | apply AD_0 rfl); focus (first | exact z_auto | fail)) | refine thenA_n ?_ | refine thenA_r ?_ | refine thenA_e ?_ | refine inB_n ?_ | refine inB_r ?_ | refine inB_hit ?_ | refine inB_miss rfl ?_ | ((first | refine AL_cl rfl rfl rfl ⟨fun hc => ?_, fun hc => ?_⟩ | refine AD_cl rfl rfl rfl ⟨fun hc => ?_, fun hc => ?_⟩) <;> (fail_if_success (have q : (true = true) := hc)) <;> (fail_if_success (have q : (false = false) := hc)) <;> (repeat rw [List.length_map] at hc) <;> (try exact absd hc)) | refine AW_cond_nil rfl rfl (fun hc => ?_) ?_))
  refine AW_le (Le_nil 3 600 118 3 rfl rfl) ?_
  refine AW_loopP (X := Nat × List Rg) (fun x => x.1 ≤ l.length ∧ x.2 ++ (l.drop x.1).filter rgR = T)
    (fun x => mkSt [(3, .row 600 0), (10, rgsB l), (11, iC .i64 (l.length : Nat)), (12, iC .i64 (x.1 : Nat))] [(600, itsWR x.2)]) (fun x => l.length - x.1) (0, []) ⟨Nat.zero_le _, by simp [hT]⟩ ?_ ?_
  · exact le_auto
  · rintro ⟨k, ac⟩ ⟨g1, g2⟩
    simp only at g1 g2 ⊢
    by_cases hk : k < l.length
    · have hir := span_Right l[k]
      have hlen : ac.length ≤ 12 := by
        have := congrArg List.length g2
        simp only [List.length_append] at this; omega
      rw [List.drop_eq_getElem_cons hk, List.filter_cons] at g2
      cases hr : rgR l[k] with
      | false =>
        rw [hr] at hir g2
        (repeat' (first | refine AW_seq ?_ | refine AW_block ?_ | refine AW_skip ?_ | refine AW_exit ?_ | refine AW_ret ?_ | refine AW_region ?_ | refine AW_draw mixed0 ?_ | refine AL_nil ?_ | refine AD_nil (by kernel_rfl) ?_ | (refine AW_cl rfl rfl ⟨fun hc => ?_, fun hc => ?_⟩ <;> (repeat rw [List.length_map] at hc) <;> (try exact absd hc)) | ((first | apply AL_t rfl | apply AL_0 rfl | apply AD_t rfl | apply AD_0 rfl); focus (first | exact z_auto | exact c_A (hir) | fail)) | refine thenA_n ?_ | refine thenA_r ?_ | refine thenA_e ?_ | refine inB_n ?_ | refine inB_r ?_ | refine inB_hit ?_ | refine inB_miss rfl ?_ | ((first | refine AL_cl rfl rfl rfl ⟨fun hc => ?_, fun hc => ?_⟩ | refine AD_cl rfl rfl rfl ⟨fun hc => ?_, fun hc => ?_⟩) <;> (fail_if_success (have q : (true = true) := hc)) <;> (fail_if_success (have q : (false = false) := hc)) <;> (repeat rw [List.length_map] at hc) <;> (try exact absd hc)) | refine AW_cond_nil rfl rfl (fun hc => ?_) ?_))
        refine ⟨(k + 1, ac), ⟨by simp only; omega, by simpa using g2⟩, by simp only; omega, ?_⟩
        exact le_auto
      | true =>
        rw [hr] at hir g2
        (repeat' (first | refine AW_seq ?_ | refine AW_block ?_ | refine AW_skip ?_ | refine AW_exit ?_ | refine AW_ret ?_ | refine AW_region ?_ | refine AW_draw mixed0 ?_ | refine AL_nil ?_ | refine AD_nil (by kernel_rfl) ?_ | (refine AW_cl rfl rfl ⟨fun hc => ?_, fun hc => ?_⟩ <;> (repeat rw [List.length_map] at hc) <;> (try exact absd hc)) | ((first | apply AL_t rfl | apply AL_0 rfl | apply AD_t rfl | apply AD_0 rfl); focus (first | exact z_auto | exact c_A (hir) | fail)) | refine thenA_n ?_ | refine thenA_r ?_ | refine thenA_e ?_ | refine inB_n ?_ | refine inB_r ?_ | refine inB_hit ?_ | refine inB_miss rfl ?_ | ((first | refine AL_cl rfl rfl rfl ⟨fun hc => ?_, fun hc => ?_⟩ | refine AD_cl rfl rfl rfl ⟨fun hc => ?_, fun hc => ?_⟩) <;> (fail_if_success (have q : (true = true) := hc)) <;> (fail_if_success (have q : (false = false) := hc)) <;> (repeat rw [List.length_map] at hc) <;> (try exact absd hc)) | refine AW_cond_nil rfl rfl (fun hc => ?_) ?_))
        refine ⟨(k + 1, ac ++ [l[k]]), ⟨by simp only; omega, by simpa using g2⟩, by simp only; omega, Le_trans (Le_mv 600 601) (Le_trans (Le_mv 601 600) ?_)⟩
        exact le_auto
    · have hkl : k = l.length := by omega
      subst hkl
      rw [List.drop_length] at g2
      simp at g2
      subst g2
      (repeat' (first | refine AW_seq ?_ | refine AW_block ?_ | refine AW_skip ?_ | refine AW_exit ?_ | refine AW_ret ?_ | refine AW_region ?_ | refine AW_draw mixed0 ?_ | refine AL_nil ?_ | refine AD_nil (by kernel_rfl) ?_ | (refine AW_cl rfl rfl ⟨fun hc => ?_, fun hc => ?_⟩ <;> (repeat rw [List.length_map] at hc) <;> (try exact absd hc)) | ((first | apply AL_t rfl | apply AL_0 rfl | apply AD_t rfl | apply AD_0 rfl); focus (first | exact z_auto | exact c_MA [(1000, 600)] (hs) | fail)) | refine thenA_n ?_ | refine thenA_r ?_ | refine thenA_e ?_ | refine inB_n ?_ | refine inB_r ?_ | refine inB_hit ?_ | refine inB_miss rfl ?_ | ((first | refine AL_cl rfl rfl rfl ⟨fun hc => ?_, fun hc => ?_⟩ | refine AD_cl rfl rfl rfl ⟨fun hc => ?_, fun hc => ?_⟩) <;> (fail_if_success (have q : (true = true) := hc)) <;> (fail_if_success (have q : (false = false) := hc)) <;> (repeat rw [List.length_map] at hc) <;> (try exact absd hc)) | refine AW_cond_nil rfl rfl (fun hc => ?_) ?_))
      clear hs hTr hT
      refine AW_le (Le_nil 6 700 118 3 rfl rfl) ?_
      refine AW_loopP (X := Nat × List Rg) (fun x => x.1 ≤ Q.length ∧ x.2 = rgOfS (Q.take x.1))
        (fun x => mkSt [(6, .row 700 0), (25, .row 600 0), (26, iC .i64 (Q.length : Nat)), (27, iC .i64 (x.1 : Nat))] [(600, itsWR Q), (700, itsWR x.2)]) (fun x => Q.length - x.1) (0, []) ⟨Nat.zero_le _, rfl⟩ ?_ ?_
      · exact le_auto
      · rintro ⟨k, out⟩ ⟨g1, g2⟩
        simp only at g1 g2 ⊢
        by_cases hk : k < Q.length
        · have hol : out.length ≤ 12 := by have := ofS_len Q k; rw [← g2] at this; omega
          have hor := ofS_right hQr hQs k
          rw [← g2] at hor
          have g3 := ofS_take hk
          rw [← g2] at g3
          have hxr := hQr _ (List.getElem_mem hk)
          generalize hx : Q[k] = x at *
          have HQ : (Q.map rgP)[k]? = some (rgP x) := by rw [List.getElem?_map, List.getElem?_eq_getElem hk, hx]; rfl
          clear hQr hQs hx g2
          rcases snoc_cases out with rfl | ⟨o, y, rfl⟩
          · have g4 : [x] = rgOfS (Q.take (k + 1)) := by rw [g3]; rfl
            (repeat' (first | refine AW_seq ?_ | refine AW_block ?_ | refine AW_skip ?_ | refine AW_exit ?_ | refine AW_ret ?_ | refine AW_region ?_ | refine AW_draw mixed0 ?_ | refine AL_nil ?_ | refine AD_nil (by kernel_rfl) ?_ | (refine AW_cl rfl rfl ⟨fun hc => ?_, fun hc => ?_⟩ <;> (repeat rw [List.length_map] at hc) <;> (try exact absd hc)) | ((first | apply AL_t rfl | apply AL_0 rfl | apply AD_t rfl | apply AD_0 rfl); focus (first | exact z_auto | ((apply u_k 5; (focus rfl); exact u_load_rA ⟨rfl, rfl, rfl⟩ rfl inferInstance inferInstance rfl rfl rfl HQ rfl rfl rfl)) | (apply u_g; (focus rfl); apply op_gyes rfl rfl rfl rfl rfl; ((apply u_k 5; (focus rfl); exact u_load_rA ⟨rfl, rfl, rfl⟩ rfl inferInstance inferInstance rfl rfl rfl HQ rfl rfl rfl))) | fail)) | refine thenA_n ?_ | refine thenA_r ?_ | refine thenA_e ?_ | refine inB_n ?_ | refine inB_r ?_ | refine inB_hit ?_ | refine inB_miss rfl ?_ | ((first | refine AL_cl rfl rfl rfl ⟨fun hc => ?_, fun hc => ?_⟩ | refine AD_cl rfl rfl rfl ⟨fun hc => ?_, fun hc => ?_⟩) <;> (fail_if_success (have q : (true = true) := hc)) <;> (fail_if_success (have q : (false = false) := hc)) <;> (repeat rw [List.length_map] at hc) <;> (try exact absd hc)) | refine AW_cond_nil rfl rfl (fun hc => ?_) ?_))
            refine ⟨(k + 1, [x]), ⟨by simp only; omega, g4⟩, by simp only; omega, Le_trans (Le_mv 700 701) (Le_trans (Le_mv 701 700) ?_)⟩
            exact le_auto
          · have hyr := hor y (by simp)
            clear hor
            have hG : rgOfS (Q.take (k + 1)) = (if y.op = false ∧ cmpB y.hi x.lo < 0 then (o ++ [y]) ++ [x] else if endR y x < 0 then o ++ [⟨y.lo, x.hi, x.op⟩] else o ++ [y]) := by
              rw [g3, ofF]
              simp only [List.reverse_append, List.reverse_cons, List.reverse_nil, List.nil_append, List.singleton_append, List.reverse_reverse]
            clear g3
            have hcm := key_Cmp y.hi x.lo (by have := ((rgR_iff y).1 hyr).2.1; omega)
            have hen := span_Ends y x hyr hxr
            clear hyr hxr
            have hL1 : (o ++ [y]).length = o.length + 1 := by simp
            generalize hL : o ++ [y] = L at *
            have hLi : ((L.length : Int) - 1).toNat = o.length := by omega
            have HY : (L.map rgP)[((L.length : Int) - 1).toNat]? = some (rgP y) := by
              rw [List.getElem?_map, hLi, ← hL]
              simp
            have HS1 : (L.map rgP).set ((L.length : Int) - 1).toNat (setP (rgP y) 1 [rawP (.string x.hi)]) = (o ++ [(⟨y.lo, x.hi, y.op⟩ : Rg)]).map rgP := by
              rw [show (L.map rgP).set ((L.length : Int) - 1).toNat (setP (rgP y) 1 [rawP (.string x.hi)]) = (L.set ((L.length : Int) - 1).toNat ⟨y.lo, x.hi, y.op⟩).map rgP from map_set' rgP L _ (⟨y.lo, x.hi, y.op⟩ : Rg), ← hL, set_at o y _ [] _ (by rw [hL]; omega)]
            have HY2 : ((o ++ [(⟨y.lo, x.hi, y.op⟩ : Rg)]).map rgP)[((L.length : Int) - 1).toNat]? = some (rgP ⟨y.lo, x.hi, y.op⟩) := by
              rw [List.getElem?_map, hLi]
              simp
            have HS2 : ((o ++ [(⟨y.lo, x.hi, y.op⟩ : Rg)]).map rgP).set ((L.length : Int) - 1).toNat (setP (rgP ⟨y.lo, x.hi, y.op⟩) 2 [rawP (.bool x.op)]) = (o ++ [(⟨y.lo, x.hi, x.op⟩ : Rg)]).map rgP := by
              rw [show ((o ++ [(⟨y.lo, x.hi, y.op⟩ : Rg)]).map rgP).set ((L.length : Int) - 1).toNat (setP (rgP ⟨y.lo, x.hi, y.op⟩) 2 [rawP (.bool x.op)]) = ((o ++ [(⟨y.lo, x.hi, y.op⟩ : Rg)]).set ((L.length : Int) - 1).toNat ⟨y.lo, x.hi, x.op⟩).map rgP from map_set' rgP (o ++ [(⟨y.lo, x.hi, y.op⟩ : Rg)]) _ (⟨y.lo, x.hi, x.op⟩ : Rg), set_at o _ _ [] _ (by omega)]
            generalize hE : endR y x = E at *
            generalize hC : cmpB y.hi x.lo = C at *
            cases hyo : y.op with
            | true =>
              rw [hyo, if_neg (by simp)] at hG
              have HYt : (L.map rgP)[((L.length : Int) - 1).toNat]? = some [rawP (.string y.lo), rawP (.string y.hi), rawP (.bool true)] := by rw [HY]; simp only [rgP, hyo]
              (repeat' (first | refine AW_seq ?_ | refine AW_block ?_ | refine AW_skip ?_ | refine AW_exit ?_ | refine AW_ret ?_ | refine AW_region ?_ | refine AW_draw mixed0 ?_ | refine AL_nil ?_ | refine AD_nil (by kernel_rfl) ?_ | (refine AW_cl rfl rfl ⟨fun hc => ?_, fun hc => ?_⟩ <;> (repeat rw [List.length_map] at hc) <;> (try exact absd hc)) | ((first | apply AL_t rfl | apply AL_0 rfl | apply AD_t rfl | apply AD_0 rfl); focus (first | exact z_auto | ((apply u_k 5; (focus rfl); first | exact u_load_r1 ⟨rfl, rfl, rfl⟩ rfl inferInstance rfl rfl rfl HYt rfl | exact u_load_rA ⟨rfl, rfl, rfl⟩ rfl inferInstance inferInstance rfl rfl rfl HY rfl rfl rfl | exact u_load_rA ⟨rfl, rfl, rfl⟩ rfl inferInstance inferInstance rfl rfl rfl HQ rfl rfl rfl)) | (apply u_g; (focus rfl); apply op_gyes rfl rfl rfl rfl rfl; ((apply u_k 5; (focus rfl); first | exact u_load_r1 ⟨rfl, rfl, rfl⟩ rfl inferInstance rfl rfl rfl HYt rfl | exact u_load_rA ⟨rfl, rfl, rfl⟩ rfl inferInstance inferInstance rfl rfl rfl HY rfl rfl rfl | exact u_load_rA ⟨rfl, rfl, rfl⟩ rfl inferInstance inferInstance rfl rfl rfl HQ rfl rfl rfl))) | ((apply u_k 6; (focus rfl); first | exact u_store_r ⟨rfl, rfl⟩ rfl inferInstance rfl rfl rfl rfl HY rfl (part_raw rfl rfl rfl) rfl HS1 | exact u_store_r ⟨rfl, rfl⟩ rfl inferInstance rfl rfl rfl rfl HY2 rfl (part_raw rfl rfl rfl) rfl HS2)) | (apply u_g; (focus rfl); apply op_gyes rfl rfl rfl rfl rfl; ((apply u_k 6; (focus rfl); first | exact u_store_r ⟨rfl, rfl⟩ rfl inferInstance rfl rfl rfl rfl HY rfl (part_raw rfl rfl rfl) rfl HS1 | exact u_store_r ⟨rfl, rfl⟩ rfl inferInstance rfl rfl rfl rfl HY2 rfl (part_raw rfl rfl rfl) rfl HS2))) | exact c_A (hcm) | exact c_A (hen) | fail)) | refine thenA_n ?_ | refine thenA_r ?_ | refine thenA_e ?_ | refine inB_n ?_ | refine inB_r ?_ | refine inB_hit ?_ | refine inB_miss rfl ?_ | ((first | refine AL_cl rfl rfl rfl ⟨fun hc => ?_, fun hc => ?_⟩ | refine AD_cl rfl rfl rfl ⟨fun hc => ?_, fun hc => ?_⟩) <;> (fail_if_success (have q : (true = true) := hc)) <;> (fail_if_success (have q : (false = false) := hc)) <;> (repeat rw [List.length_map] at hc) <;> (try exact absd hc)) | refine AW_cond_nil rfl rfl (fun hc => ?_) ?_))
              · rw [if_pos (by omega)] at hG
                refine ⟨(k + 1, _), ⟨by simp only; omega, hG.symm⟩, by simp only; omega, ?_⟩
                exact le_auto
              · rw [if_neg (by omega)] at hG
                refine ⟨(k + 1, L), ⟨by simp only; omega, hG.symm⟩, by simp only; omega, ?_⟩
                exact le_auto
            | false =>
              rw [hyo] at hG
              have HYt : (L.map rgP)[((L.length : Int) - 1).toNat]? = some [rawP (.string y.lo), rawP (.string y.hi), rawP (.bool false)] := by rw [HY]; simp only [rgP, hyo]
              by_cases hC0 : C < 0
              · rw [if_pos ⟨rfl, hC0⟩] at hG
                (repeat' (first | refine AW_seq ?_ | refine AW_block ?_ | refine AW_skip ?_ | refine AW_exit ?_ | refine AW_ret ?_ | refine AW_region ?_ | refine AW_draw mixed0 ?_ | refine AL_nil ?_ | refine AD_nil (by kernel_rfl) ?_ | (refine AW_cl rfl rfl ⟨fun hc => ?_, fun hc => ?_⟩ <;> (repeat rw [List.length_map] at hc) <;> (try exact absd hc)) | ((first | apply AL_t rfl | apply AL_0 rfl | apply AD_t rfl | apply AD_0 rfl); focus (first | exact z_auto | ((apply u_k 5; (focus rfl); first | exact u_load_r1 ⟨rfl, rfl, rfl⟩ rfl inferInstance rfl rfl rfl HYt rfl | exact u_load_rA ⟨rfl, rfl, rfl⟩ rfl inferInstance inferInstance rfl rfl rfl HY rfl rfl rfl | exact u_load_rA ⟨rfl, rfl, rfl⟩ rfl inferInstance inferInstance rfl rfl rfl HQ rfl rfl rfl)) | (apply u_g; (focus rfl); apply op_gyes rfl rfl rfl rfl rfl; ((apply u_k 5; (focus rfl); first | exact u_load_r1 ⟨rfl, rfl, rfl⟩ rfl inferInstance rfl rfl rfl HYt rfl | exact u_load_rA ⟨rfl, rfl, rfl⟩ rfl inferInstance inferInstance rfl rfl rfl HY rfl rfl rfl | exact u_load_rA ⟨rfl, rfl, rfl⟩ rfl inferInstance inferInstance rfl rfl rfl HQ rfl rfl rfl))) | ((apply u_k 6; (focus rfl); first | exact u_store_r ⟨rfl, rfl⟩ rfl inferInstance rfl rfl rfl rfl HY rfl (part_raw rfl rfl rfl) rfl HS1 | exact u_store_r ⟨rfl, rfl⟩ rfl inferInstance rfl rfl rfl rfl HY2 rfl (part_raw rfl rfl rfl) rfl HS2)) | (apply u_g; (focus rfl); apply op_gyes rfl rfl rfl rfl rfl; ((apply u_k 6; (focus rfl); first | exact u_store_r ⟨rfl, rfl⟩ rfl inferInstance rfl rfl rfl rfl HY rfl (part_raw rfl rfl rfl) rfl HS1 | exact u_store_r ⟨rfl, rfl⟩ rfl inferInstance rfl rfl rfl rfl HY2 rfl (part_raw rfl rfl rfl) rfl HS2))) | exact c_A (hcm) | exact c_A (hen) | fail)) | refine thenA_n ?_ | refine thenA_r ?_ | refine thenA_e ?_ | refine inB_n ?_ | refine inB_r ?_ | refine inB_hit ?_ | refine inB_miss rfl ?_ | ((first | refine AL_cl rfl rfl rfl ⟨fun hc => ?_, fun hc => ?_⟩ | refine AD_cl rfl rfl rfl ⟨fun hc => ?_, fun hc => ?_⟩) <;> (fail_if_success (have q : (true = true) := hc)) <;> (fail_if_success (have q : (false = false) := hc)) <;> (repeat rw [List.length_map] at hc) <;> (try exact absd hc)) | refine AW_cond_nil rfl rfl (fun hc => ?_) ?_))
                refine ⟨(k + 1, L ++ [x]), ⟨by simp only; omega, hG.symm⟩, by simp only; omega, Le_trans (Le_mv 700 701) (Le_trans (Le_mv 701 700) ?_)⟩
                exact le_auto
              · rw [if_neg (fun h => hC0 h.2)] at hG
                (repeat' (first | refine AW_seq ?_ | refine AW_block ?_ | refine AW_skip ?_ | refine AW_exit ?_ | refine AW_ret ?_ | refine AW_region ?_ | refine AW_draw mixed0 ?_ | refine AL_nil ?_ | refine AD_nil (by kernel_rfl) ?_ | (refine AW_cl rfl rfl ⟨fun hc => ?_, fun hc => ?_⟩ <;> (repeat rw [List.length_map] at hc) <;> (try exact absd hc)) | ((first | apply AL_t rfl | apply AL_0 rfl | apply AD_t rfl | apply AD_0 rfl); focus (first | exact z_auto | ((apply u_k 5; (focus rfl); first | exact u_load_r1 ⟨rfl, rfl, rfl⟩ rfl inferInstance rfl rfl rfl HYt rfl | exact u_load_rA ⟨rfl, rfl, rfl⟩ rfl inferInstance inferInstance rfl rfl rfl HY rfl rfl rfl | exact u_load_rA ⟨rfl, rfl, rfl⟩ rfl inferInstance inferInstance rfl rfl rfl HQ rfl rfl rfl)) | (apply u_g; (focus rfl); apply op_gyes rfl rfl rfl rfl rfl; ((apply u_k 5; (focus rfl); first | exact u_load_r1 ⟨rfl, rfl, rfl⟩ rfl inferInstance rfl rfl rfl HYt rfl | exact u_load_rA ⟨rfl, rfl, rfl⟩ rfl inferInstance inferInstance rfl rfl rfl HY rfl rfl rfl | exact u_load_rA ⟨rfl, rfl, rfl⟩ rfl inferInstance inferInstance rfl rfl rfl HQ rfl rfl rfl))) | ((apply u_k 6; (focus rfl); first | exact u_store_r ⟨rfl, rfl⟩ rfl inferInstance rfl rfl rfl rfl HY rfl (part_raw rfl rfl rfl) rfl HS1 | exact u_store_r ⟨rfl, rfl⟩ rfl inferInstance rfl rfl rfl rfl HY2 rfl (part_raw rfl rfl rfl) rfl HS2)) | (apply u_g; (focus rfl); apply op_gyes rfl rfl rfl rfl rfl; ((apply u_k 6; (focus rfl); first | exact u_store_r ⟨rfl, rfl⟩ rfl inferInstance rfl rfl rfl rfl HY rfl (part_raw rfl rfl rfl) rfl HS1 | exact u_store_r ⟨rfl, rfl⟩ rfl inferInstance rfl rfl rfl rfl HY2 rfl (part_raw rfl rfl rfl) rfl HS2))) | exact c_A (hcm) | exact c_A (hen) | fail)) | refine thenA_n ?_ | refine thenA_r ?_ | refine thenA_e ?_ | refine inB_n ?_ | refine inB_r ?_ | refine inB_hit ?_ | refine inB_miss rfl ?_ | ((first | refine AL_cl rfl rfl rfl ⟨fun hc => ?_, fun hc => ?_⟩ | refine AD_cl rfl rfl rfl ⟨fun hc => ?_, fun hc => ?_⟩) <;> (fail_if_success (have q : (true = true) := hc)) <;> (fail_if_success (have q : (false = false) := hc)) <;> (repeat rw [List.length_map] at hc) <;> (try exact absd hc)) | refine AW_cond_nil rfl rfl (fun hc => ?_) ?_))
                · rw [if_pos (by omega)] at hG
                  refine ⟨(k + 1, _), ⟨by simp only; omega, hG.symm⟩, by simp only; omega, ?_⟩
                  exact le_auto
                · rw [if_neg (by omega)] at hG
                  refine ⟨(k + 1, L), ⟨by simp only; omega, hG.symm⟩, by simp only; omega, ?_⟩
                  exact le_auto
        · have hkl : k = Q.length := by omega
          subst hkl
          have g3 : out = R := by rw [g2, List.take_length]; exact hR
          (repeat' (first | refine AW_seq ?_ | refine AW_block ?_ | refine AW_skip ?_ | refine AW_exit ?_ | refine AW_ret ?_ | refine AW_region ?_ | refine AW_draw mixed0 ?_ | refine AL_nil ?_ | refine AD_nil (by kernel_rfl) ?_ | (refine AW_cl rfl rfl ⟨fun hc => ?_, fun hc => ?_⟩ <;> (repeat rw [List.length_map] at hc) <;> (try exact absd hc)) | ((first | apply AL_t rfl | apply AL_0 rfl | apply AD_t rfl | apply AD_0 rfl); focus (first | exact z_auto | fail)) | refine thenA_n ?_ | refine thenA_r ?_ | refine thenA_e ?_ | refine inB_n ?_ | refine inB_r ?_ | refine inB_hit ?_ | refine inB_miss rfl ?_ | ((first | refine AL_cl rfl rfl rfl ⟨fun hc => ?_, fun hc => ?_⟩ | refine AD_cl rfl rfl rfl ⟨fun hc => ?_, fun hc => ?_⟩) <;> (fail_if_success (have q : (true = true) := hc)) <;> (fail_if_success (have q : (false = false) := hc)) <;> (repeat rw [List.length_map] at hc) <;> (try exact absd hc)) | refine AW_cond_nil rfl rfl (fun hc => ?_) ?_))
          (refine ⟨(by first | exact .inl rfl | exact .inr rfl), res1 rfl ?_⟩)
          exact rv_ownM rfl rfl rfl (by rw [g3])
theorem rgs_right (l : List Rg) (hl : l.length ≤ 12) : ∃ m, rgsOk m ∧ m.length ≤ l.length ∧ (∀ s, anyR m s = anyR l s) ∧ Fn Try.prog 122 [.per (rgsP l)] (.per (rgsP m)) := by
  by_cases hok : rgsOk l
  · refine ⟨l, hok, Nat.le_refl _, fun _ => rfl, ?_⟩
    have h1 := rgs_Right l (by omega) true (by simp [hok])
    refine fn_intro Try.func122 rfl (by kernel_rfl) Try.ntmps122 (Nat.le_of_ble_eq_true rfl) ?_
    (repeat' (first | refine AW_seq ?_ | refine AW_block ?_ | refine AW_skip ?_ | refine AW_exit ?_ | refine AW_ret ?_ | refine AW_region ?_ | refine AW_draw mixed0 ?_ | refine AL_nil ?_ | refine AD_nil (by kernel_rfl) ?_ | (refine AW_cl rfl rfl ⟨fun hc => ?_, fun hc => ?_⟩ <;> (repeat rw [List.length_map] at hc) <;> (try exact absd hc)) | ((first | apply AL_t rfl | apply AL_0 rfl | apply AD_t rfl | apply AD_0 rfl); focus (first | exact z_auto | exact c_A (h1) | fail)) | refine thenA_n ?_ | refine thenA_r ?_ | refine thenA_e ?_ | refine inB_n ?_ | refine inB_r ?_ | refine inB_hit ?_ | refine inB_miss rfl ?_ | ((first | refine AL_cl rfl rfl rfl ⟨fun hc => ?_, fun hc => ?_⟩ | refine AD_cl rfl rfl rfl ⟨fun hc => ?_, fun hc => ?_⟩) <;> (fail_if_success (have q : (true = true) := hc)) <;> (fail_if_success (have q : (false = false) := hc)) <;> (repeat rw [List.length_map] at hc) <;> (try exact absd hc)) | refine AW_cond_nil rfl rfl (fun hc => ?_) ?_))
    (refine ⟨(by first | exact .inl rfl | exact .inr rfl), res1 rfl ?_⟩)
    exact rv_per rfl
  · obtain ⟨a1, a2⟩ := rgOf_spec l
    have a3 := rgOf_len l
    refine ⟨rgOf l, a1, a3, a2, ?_⟩
    have h1 := rgs_Right l (by omega) false (by simp [hok])
    have h2 := (rgs_Of l (by have := List.length_filter_le rgR l; omega) (by omega)).frz
    refine fn_intro Try.func122 rfl (by kernel_rfl) Try.ntmps122 (Nat.le_of_ble_eq_true rfl) ?_
    (repeat' (first | refine AW_seq ?_ | refine AW_block ?_ | refine AW_skip ?_ | refine AW_exit ?_ | refine AW_ret ?_ | refine AW_region ?_ | refine AW_draw mixed0 ?_ | refine AL_nil ?_ | refine AD_nil (by kernel_rfl) ?_ | (refine AW_cl rfl rfl ⟨fun hc => ?_, fun hc => ?_⟩ <;> (repeat rw [List.length_map] at hc) <;> (try exact absd hc)) | ((first | apply AL_t rfl | apply AL_0 rfl | apply AD_t rfl | apply AD_0 rfl); focus (first | exact z_auto | exact c_A (h1) | exact c_A (h2) | fail)) | refine thenA_n ?_ | refine thenA_r ?_ | refine thenA_e ?_ | refine inB_n ?_ | refine inB_r ?_ | refine inB_hit ?_ | refine inB_miss rfl ?_ | ((first | refine AL_cl rfl rfl rfl ⟨fun hc => ?_, fun hc => ?_⟩ | refine AD_cl rfl rfl rfl ⟨fun hc => ?_, fun hc => ?_⟩) <;> (fail_if_success (have q : (true = true) := hc)) <;> (fail_if_success (have q : (false = false) := hc)) <;> (repeat rw [List.length_map] at hc) <;> (try exact absd hc)) | refine AW_cond_nil rfl rfl (fun hc => ?_) ?_))
    (refine ⟨(by first | exact .inl rfl | exact .inr rfl), res1 rfl ?_⟩)
    exact rv_per rfl
theorem rgs_find (l : List Rg) (s : ByteArray) (hs : s.size ≤ 1000000000) (hl : l.length ≤ 1000000000) (p : Nat) (hp : p ≤ l.length) (hlt : ∀ j (hj : j < l.length), ((l[j].op = true ∨ s < l[j].hi) ↔ p ≤ j)) :
    Fn Try.prog 123 [.per (rgsP l), sC s] (inR (p : Nat)) := by
  refine fn_intro Try.func123 rfl (by kernel_rfl) Try.ntmps123 (Nat.le_of_ble_eq_true rfl) ?_
  (repeat' (first | refine AW_seq ?_ | refine AW_block ?_ | refine AW_skip ?_ | refine AW_exit ?_ | refine AW_ret ?_ | refine AW_region ?_ | refine AW_draw mixed0 ?_ | refine AL_nil ?_ | refine AD_nil (by kernel_rfl) ?_ | (refine AW_cl rfl rfl ⟨fun hc => ?_, fun hc => ?_⟩ <;> (repeat rw [List.length_map] at hc) <;> (try exact absd hc)) | ((first | apply AL_t rfl | apply AL_0 rfl | apply AD_t rfl | apply AD_0 rfl); focus (first | exact z_auto | fail)) | refine thenA_n ?_ | refine thenA_r ?_ | refine thenA_e ?_ | refine inB_n ?_ | refine inB_r ?_ | refine inB_hit ?_ | refine inB_miss rfl ?_ | ((first | refine AL_cl rfl rfl rfl ⟨fun hc => ?_, fun hc => ?_⟩ | refine AD_cl rfl rfl rfl ⟨fun hc => ?_, fun hc => ?_⟩) <;> (fail_if_success (have q : (true = true) := hc)) <;> (fail_if_success (have q : (false = false) := hc)) <;> (repeat rw [List.length_map] at hc) <;> (try exact absd hc)) | refine AW_cond_nil rfl rfl (fun hc => ?_) ?_))
  refine AW_loopP (X := Nat × Nat) (fun z => z.1 ≤ p ∧ p ≤ z.2 ∧ z.2 ≤ l.length)
    (fun z => mkSt [(0, .per (rgsP l)), (1, sC s), (5, iC .i64 (z.1 : Nat)), (6, iC .i64 (z.2 : Nat))] []) (fun z => z.2 - z.1) (0, l.length) ⟨Nat.zero_le _, hp, Nat.le_refl _⟩ ?_ ?_
  · exact le_auto
  · rintro ⟨i, j⟩ ⟨h1, h2, h3⟩
    simp only at h1 h2 h3 ⊢
    by_cases hij : i < j
    · obtain ⟨h, hh'⟩ : ∃ h : Nat, (i : Int) + ((j : Int) - (i : Int)) / 2 = (h : Nat) := ⟨i + (j - i) / 2, by omega⟩
      have hih : i ≤ h := by omega
      have hhj : h < j := by omega
      have hlt' := hlt h (by omega)
      have hmm := key_Cmp s l[h].hi (by omega)
      clear hlt
      cases ho : l[h].op with
      | true =>
        rw [ho] at hlt'
        have := hlt'.1 (.inl rfl)
        clear hlt'
        (repeat' (first | refine AW_seq ?_ | refine AW_block ?_ | refine AW_skip ?_ | refine AW_exit ?_ | refine AW_ret ?_ | refine AW_region ?_ | refine AW_draw mixed0 ?_ | refine AL_nil ?_ | refine AD_nil (by kernel_rfl) ?_ | (refine AW_cl rfl rfl ⟨fun hc => ?_, fun hc => ?_⟩ <;> (repeat rw [List.length_map] at hc) <;> (try exact absd hc)) | ((first | apply AL_t rfl | apply AL_0 rfl | apply AD_t rfl | apply AD_0 rfl); focus (first | ((apply u_k 8; (focus rfl); exact op_num ⟨rfl, rfl, rfl⟩ rfl rfl rfl rfl ((wrap_id64 (by omega) (by omega)).trans hh'))) | (apply u_g; (focus rfl); apply op_gyes rfl rfl rfl rfl rfl; ((apply u_k 8; (focus rfl); exact op_num ⟨rfl, rfl, rfl⟩ rfl rfl rfl rfl ((wrap_id64 (by omega) (by omega)).trans hh')))) | exact z_auto | exact c_A (hmm) | fail)) | refine thenA_n ?_ | refine thenA_r ?_ | refine thenA_e ?_ | refine inB_n ?_ | refine inB_r ?_ | refine inB_hit ?_ | refine inB_miss rfl ?_ | ((first | refine AL_cl rfl rfl rfl ⟨fun hc => ?_, fun hc => ?_⟩ | refine AD_cl rfl rfl rfl ⟨fun hc => ?_, fun hc => ?_⟩) <;> (fail_if_success (have q : (true = true) := hc)) <;> (fail_if_success (have q : (false = false) := hc)) <;> (repeat rw [List.length_map] at hc) <;> (try exact absd hc)) | refine AW_cond_nil rfl rfl (fun hc => ?_) ?_))
        all_goals first | (exfalso; simp_all; done) | skip
        refine ⟨(i, h), ⟨h1, by simp only; omega, by simp only; omega⟩, by simp only; omega, ?_⟩
        exact le_auto
      | false =>
        rw [ho] at hlt'
        have hq : cmpB s l[h].hi < 0 ↔ p ≤ h := by rw [← hlt', o_lt]; simp
        clear hlt'
        (repeat' (first | refine AW_seq ?_ | refine AW_block ?_ | refine AW_skip ?_ | refine AW_exit ?_ | refine AW_ret ?_ | refine AW_region ?_ | refine AW_draw mixed0 ?_ | refine AL_nil ?_ | refine AD_nil (by kernel_rfl) ?_ | (refine AW_cl rfl rfl ⟨fun hc => ?_, fun hc => ?_⟩ <;> (repeat rw [List.length_map] at hc) <;> (try exact absd hc)) | ((first | apply AL_t rfl | apply AL_0 rfl | apply AD_t rfl | apply AD_0 rfl); focus (first | ((apply u_k 8; (focus rfl); exact op_num ⟨rfl, rfl, rfl⟩ rfl rfl rfl rfl ((wrap_id64 (by omega) (by omega)).trans hh'))) | (apply u_g; (focus rfl); apply op_gyes rfl rfl rfl rfl rfl; ((apply u_k 8; (focus rfl); exact op_num ⟨rfl, rfl, rfl⟩ rfl rfl rfl rfl ((wrap_id64 (by omega) (by omega)).trans hh')))) | exact z_auto | exact c_A (hmm) | fail)) | refine thenA_n ?_ | refine thenA_r ?_ | refine thenA_e ?_ | refine inB_n ?_ | refine inB_r ?_ | refine inB_hit ?_ | refine inB_miss rfl ?_ | ((first | refine AL_cl rfl rfl rfl ⟨fun hc => ?_, fun hc => ?_⟩ | refine AD_cl rfl rfl rfl ⟨fun hc => ?_, fun hc => ?_⟩) <;> (fail_if_success (have q : (true = true) := hc)) <;> (fail_if_success (have q : (false = false) := hc)) <;> (repeat rw [List.length_map] at hc) <;> (try exact absd hc)) | refine AW_cond_nil rfl rfl (fun hc => ?_) ?_))
        all_goals first | (exfalso; simp_all; done) | skip
        · refine ⟨(i, h), ⟨h1, by simp only; omega, by simp only; omega⟩, by simp only; omega, ?_⟩
          exact le_auto
        · refine ⟨(h + 1, j), ⟨by simp only; omega, h2, h3⟩, by simp only; omega, ?_⟩
          exact le_auto
    · obtain rfl : i = p := by omega
      (repeat' (first | refine AW_seq ?_ | refine AW_block ?_ | refine AW_skip ?_ | refine AW_exit ?_ | refine AW_ret ?_ | refine AW_region ?_ | refine AW_draw mixed0 ?_ | refine AL_nil ?_ | refine AD_nil (by kernel_rfl) ?_ | (refine AW_cl rfl rfl ⟨fun hc => ?_, fun hc => ?_⟩ <;> (repeat rw [List.length_map] at hc) <;> (try exact absd hc)) | ((first | apply AL_t rfl | apply AL_0 rfl | apply AD_t rfl | apply AD_0 rfl); focus (first | exact z_auto | fail)) | refine thenA_n ?_ | refine thenA_r ?_ | refine thenA_e ?_ | refine inB_n ?_ | refine inB_r ?_ | refine inB_hit ?_ | refine inB_miss rfl ?_ | ((first | refine AL_cl rfl rfl rfl ⟨fun hc => ?_, fun hc => ?_⟩ | refine AD_cl rfl rfl rfl ⟨fun hc => ?_, fun hc => ?_⟩) <;> (fail_if_success (have q : (true = true) := hc)) <;> (fail_if_success (have q : (false = false) := hc)) <;> (repeat rw [List.length_map] at hc) <;> (try exact absd hc)) | refine AW_cond_nil rfl rfl (fun hc => ?_) ?_))
      (refine ⟨(by first | exact .inl rfl | exact .inr rfl), res1 rfl ?_⟩)
      exact rv_int rfl rfl
theorem rgs_Has (l : List Rg) (s : ByteArray) (hl : l.length ≤ 12) (hs : s.size ≤ 1000000000) : Fn Try.prog 85 [.per (rgsP l), sC s] (boR (anyR l s)) := by
  obtain ⟨m, hok, hml, hany, h1⟩ := rgs_right l hl
  obtain ⟨p, hp, hlt⟩ := find_ex hok s
  have h2 := rgs_find m s hs (by omega) p hp hlt
  have hA := has_at hok hlt
  rw [hany] at hA
  rw [hA]
  clear hA hany hlt hok
  by_cases hn : p < m.length
  · have h3 := span_Has m[p] s hs
    rw [List.getElem?_eq_getElem hn]
    simp only
    refine fn_intro Try.func85 rfl (by kernel_rfl) Try.ntmps85 (Nat.le_of_ble_eq_true rfl) ?_
    (repeat' (first | refine AW_seq ?_ | refine AW_block ?_ | refine AW_skip ?_ | refine AW_exit ?_ | refine AW_ret ?_ | refine AW_region ?_ | refine AW_draw mixed0 ?_ | refine AL_nil ?_ | refine AD_nil (by kernel_rfl) ?_ | (refine AW_cl rfl rfl ⟨fun hc => ?_, fun hc => ?_⟩ <;> (repeat rw [List.length_map] at hc) <;> (try exact absd hc)) | ((first | apply AL_t rfl | apply AL_0 rfl | apply AD_t rfl | apply AD_0 rfl); focus (first | exact z_auto | exact c_A (h1) | exact c_A (h2) | exact c_A (h3) | fail)) | refine thenA_n ?_ | refine thenA_r ?_ | refine thenA_e ?_ | refine inB_n ?_ | refine inB_r ?_ | refine inB_hit ?_ | refine inB_miss rfl ?_ | ((first | refine AL_cl rfl rfl rfl ⟨fun hc => ?_, fun hc => ?_⟩ | refine AD_cl rfl rfl rfl ⟨fun hc => ?_, fun hc => ?_⟩) <;> (fail_if_success (have q : (true = true) := hc)) <;> (fail_if_success (have q : (false = false) := hc)) <;> (repeat rw [List.length_map] at hc) <;> (try exact absd hc)) | refine AW_cond_nil rfl rfl (fun hc => ?_) ?_))
    (refine ⟨(by first | exact .inl rfl | exact .inr rfl), res1 rfl ?_⟩)
    exact rv_bool rfl rfl
  · rw [List.getElem?_eq_none (by omega)]
    simp only
    refine fn_intro Try.func85 rfl (by kernel_rfl) Try.ntmps85 (Nat.le_of_ble_eq_true rfl) ?_
    (repeat' (first | refine AW_seq ?_ | refine AW_block ?_ | refine AW_skip ?_ | refine AW_exit ?_ | refine AW_ret ?_ | refine AW_region ?_ | refine AW_draw mixed0 ?_ | refine AL_nil ?_ | refine AD_nil (by kernel_rfl) ?_ | (refine AW_cl rfl rfl ⟨fun hc => ?_, fun hc => ?_⟩ <;> (repeat rw [List.length_map] at hc) <;> (try exact absd hc)) | ((first | apply AL_t rfl | apply AL_0 rfl | apply AD_t rfl | apply AD_0 rfl); focus (first | exact z_auto | exact c_A (h1) | exact c_A (h2) | fail)) | refine thenA_n ?_ | refine thenA_r ?_ | refine thenA_e ?_ | refine inB_n ?_ | refine inB_r ?_ | refine inB_hit ?_ | refine inB_miss rfl ?_ | ((first | refine AL_cl rfl rfl rfl ⟨fun hc => ?_, fun hc => ?_⟩ | refine AD_cl rfl rfl rfl ⟨fun hc => ?_, fun hc => ?_⟩) <;> (fail_if_success (have q : (true = true) := hc)) <;> (fail_if_success (have q : (false = false) := hc)) <;> (repeat rw [List.length_map] at hc) <;> (try exact absd hc)) | refine AW_cond_nil rfl rfl (fun hc => ?_) ?_))
    (refine ⟨(by first | exact .inl rfl | exact .inr rfl), res1 rfl ?_⟩)
    exact rv_bool rfl rfl
end
end Go.Proofs.Ytbpmafpmlapekaa
