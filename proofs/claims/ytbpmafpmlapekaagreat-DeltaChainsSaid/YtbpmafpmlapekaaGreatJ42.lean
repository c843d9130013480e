/- Texts joined: Rkq. -/
import Derived.Test.YtbpmafpmlapekaaGreatJ41
import Derived.Test.YtbpmafpmlapekaaGreatJ36
namespace Go.Proofs.YtbpmafpmlapekaaGreat
open Go.RowKit
section
set_option maxRecDepth 10000
set_option maxHeartbeats 8000000
theorem rkn_spans (k : List Pc) (hl : k.length ≤ 1000000000) : Fn Tryz.prog 57 [pcsB k] (.own 45 3 ((rgsOf k).map rgP)) := by
  refine fn_intro Tryz.func57 rfl (by kernel_rfl) Tryz.ntmps57 (Nat.le_of_ble_eq_true rfl) ?_
  (refine w0 ?_; (repeat' (first | refine W2.mk ?_ ?_ | refine W1.mk fun hc => ?_)))
  refine AW_le (Le_nil 3 700 45 3 rfl rfl) ?_
  refine AW_loopP (X := Nat) (fun z => z ≤ k.length)
    (fun z => mkSt [(0, pcsB k), (3, .row 700 0), (4, iC .i64 ((z : Nat) : Int))] [(700, .row 45 3 ((rgsOf (k.take z)).map rgP))]) (fun z => k.length - z) 0 (Nat.zero_le _) ?_ ?_
  · exact le_auto
  · intro z hz
    by_cases hlt : z < k.length
    · have hsn : rgsOf (k.take (z + 1)) = rgsOf (k.take z) ++ [k[z].rg] := by unfold rgsOf; rw [List.take_succ_eq_append_getElem hlt, List.map_append]; rfl
      have hlk : (rgsOf (k.take z)).length ≤ z := by unfold rgsOf; rw [List.length_map, List.length_take]; omega
      generalize rgsOf (k.take z) = A at *
      (refine w0 ?_; (repeat' (first | refine W2.mk ?_ ?_ | refine W1.mk fun hc => ?_ | ((first | apply AL_t rfl | apply AL_0 rfl | apply AD_t rfl | apply AD_0 rfl); (focus (first | ((apply u_k 5; (focus rfl); first | exact u_load_bpT ⟨rfl, rfl, rfl⟩ rfl inferInstance inferInstance rfl rfl rfl rfl | exact u_load_rpT ⟨rfl, rfl, rfl⟩ rfl inferInstance inferInstance rfl rfl rfl rfl)) | (apply u_g; (focus rfl); apply op_gyes rfl rfl rfl rfl rfl; first | ((apply u_k 5; (focus rfl); first | exact u_load_bpT ⟨rfl, rfl, rfl⟩ rfl inferInstance inferInstance rfl rfl rfl rfl | exact u_load_rpT ⟨rfl, rfl, rfl⟩ rfl inferInstance inferInstance rfl rfl rfl rfl))))); refine w0 ?_))))
      refine ⟨z + 1, hlt, by omega, Le_trans (Le_mv 700 701) (Le_trans (Le_mv 701 700) ?_)⟩
      rw [hsn]
      exact le_auto
    · rw [List.take_of_length_le (show k.length ≤ z by omega)]
      generalize rgsOf k = A at *
      (refine w0 ?_; (repeat' (first | refine W2.mk ?_ ?_ | refine W1.mk fun hc => ?_)))
      (refine ⟨(by first | exact .inl rfl | exact .inr rfl), res1 rfl ?_⟩)
      exact rv_own rfl rfl rfl
theorem rvs_Of (s : List Kn) (hs : knsMid s) : Fn Tryz.prog 111 [knsB s] (ownKn (vsOf ofR s)) := by
  have h := rvs_Make 1 orR s [] hs.tot ⟨by simp, by simp⟩ (fun r _ => rcnt_Make1 (tabAt s r) (tabAt [] r) (by have := tabAt_len s r; have := hs.2; omega) (by simp [tabAt]))
  rw [mkSet_raw, List.append_nil] at h
  generalize vsOf ofR s = R at *
  refine fn_intro Tryz.func111 rfl (by kernel_rfl) Tryz.ntmps111 (Nat.le_of_ble_eq_true rfl) ?_
  (have kc1 := h; refine w0 ?_; (repeat' (first | refine W2.mk ?_ ?_ | refine W1.mk fun hc => ?_)); all_goals clear kc1)
  (refine ⟨(by first | exact .inl rfl | exact .inr rfl), res1 rfl ?_⟩)
  exact rv_own rfl rfl rfl
theorem rkn_At (k : List Pc) (s : ByteArray) (hk : pcsMid k) (hs : s.size ≤ 1000000000) : Fn Tryz.prog 93 [pcsB k, sC s] (ownKn (atK k s)) := by
  have hk1 := hk.1
  have hO := rvs_Of (k.flatMap (hasF s)) (hk.has s)
  rw [show vsOf ofR (k.flatMap (hasF s)) = atK k s from rfl] at hO
  generalize atK k s = R at *
  refine fn_intro Tryz.func93 rfl (by kernel_rfl) Tryz.ntmps93 (Nat.le_of_ble_eq_true rfl) ?_
  (refine w0 ?_; (repeat' (first | refine W2.mk ?_ ?_ | refine W1.mk fun hc => ?_)))
  refine AW_le (Le_nil 5 700 64 2 rfl rfl) ?_
  refine AW_loopP (X := Nat) (fun z => z ≤ k.length)
    (fun z => mkSt [(0, pcsB k), (1, sC s), (5, .row 700 0), (6, iC .i64 ((z : Nat) : Int))] [(700, .row 64 2 (((k.take z).flatMap (hasF s)).map knP))]) (fun z => k.length - z) 0 (Nat.zero_le _) ?_ ?_
  · exact le_auto
  · intro z hz
    by_cases hlt : z < k.length
    · have hsn := flat_snoc (hasF s) k z hlt
      have h1 := (flat_take (hasF s) k z).2
      have h2 := (hk.has s).1
      have h3 := mem_flat_len2 Pc.set (List.getElem_mem hlt)
      have h4 := hk.2.1
      have c1 := rspan_Has k[z].rg s hs
      generalize (k.take z).flatMap (hasF s) = A at *
      unfold hasF at hsn
      clear hk
      cases c : rgHas k[z].rg s with
      | true =>
        rw [c] at c1 hsn
        rw [if_pos rfl] at hsn
        (have kc1 := c1; refine w0 ?_; (repeat' (first | refine W2.mk ?_ ?_ | refine W1.mk fun hc => ?_ | ((first | apply AL_t rfl | apply AL_0 rfl | apply AD_t rfl | apply AD_0 rfl); (focus (first | ((apply u_k 5; (focus rfl); first | exact u_load_bpT ⟨rfl, rfl, rfl⟩ rfl inferInstance inferInstance rfl rfl rfl rfl | exact u_load_rpT ⟨rfl, rfl, rfl⟩ rfl inferInstance inferInstance rfl rfl rfl rfl)) | (apply u_g; (focus rfl); apply op_gyes rfl rfl rfl rfl rfl; first | ((apply u_k 5; (focus rfl); first | exact u_load_bpT ⟨rfl, rfl, rfl⟩ rfl inferInstance inferInstance rfl rfl rfl rfl | exact u_load_rpT ⟨rfl, rfl, rfl⟩ rfl inferInstance inferInstance rfl rfl rfl rfl))))); refine w0 ?_))); all_goals clear kc1)
        refine ⟨z + 1, hlt, by omega, Le_trans (Le_mv 700 701) (Le_trans (Le_mv 701 700) ?_)⟩
        rw [show (k.take (z + 1)).flatMap (hasF s) = _ from hsn]
        exact le_auto
      | false =>
        rw [c] at c1 hsn
        rw [if_neg (by simp), List.append_nil] at hsn
        (have kc1 := c1; refine w0 ?_; (repeat' (first | refine W2.mk ?_ ?_ | refine W1.mk fun hc => ?_ | ((first | apply AL_t rfl | apply AL_0 rfl | apply AD_t rfl | apply AD_0 rfl); (focus (first | ((apply u_k 5; (focus rfl); first | exact u_load_bpT ⟨rfl, rfl, rfl⟩ rfl inferInstance inferInstance rfl rfl rfl rfl | exact u_load_rpT ⟨rfl, rfl, rfl⟩ rfl inferInstance inferInstance rfl rfl rfl rfl)) | (apply u_g; (focus rfl); apply op_gyes rfl rfl rfl rfl rfl; first | ((apply u_k 5; (focus rfl); first | exact u_load_bpT ⟨rfl, rfl, rfl⟩ rfl inferInstance inferInstance rfl rfl rfl rfl | exact u_load_rpT ⟨rfl, rfl, rfl⟩ rfl inferInstance inferInstance rfl rfl rfl rfl))))); refine w0 ?_))); all_goals clear kc1)
        refine ⟨z + 1, hlt, by omega, ?_⟩
        rw [show (k.take (z + 1)).flatMap (hasF s) = _ from hsn]
        exact le_auto
    · rw [List.take_of_length_le (show k.length ≤ z by omega)]
      clear hk
      generalize k.flatMap (hasF s) = A at *
      (have kc1 := hO; refine w0 ?_; (repeat' (first | refine W2.mk ?_ ?_ | refine W1.mk fun hc => ?_)); all_goals clear kc1)
      (refine ⟨(by first | exact .inl rfl | exact .inr rfl), res1 rfl ?_⟩)
      exact rv_own rfl rfl rfl
abbrev noRg : Cnt := .bor 3 []
theorem rkn_What1 (a b : List Pc) (s : ByteArray) (ha : pcsMid a) (hb : pcsMid b) (hs : s.size ≤ 1000000000) : Fn Tryz.prog 59 [iC .i64 1, pcsB a, pcsB b, noRg, sC s] (ownKn (atK (a ++ b) s)) := by
  have h1 := rkn_At a s ha hs
  have h2 := rkn_At b s hb hs
  have h3 := rvs_Make 1 orR (atK a s) (atK b s) (atK_mid2 ha s).tot (atK_mid2 hb s).tot (fun r _ => rcnt_Make1 _ _ (by have := tabAt_len (atK a s) r; have := (atK_mid2 ha s).2; omega) (by have := tabAt_len (atK b s) r; have := (atK_mid2 hb s).2; omega))
  rw [atK_app] at h3
  generalize atK (a ++ b) s = R at *
  generalize atK a s = A at *
  generalize atK b s = B at *
  refine fn_intro Tryz.func59 rfl (by kernel_rfl) Tryz.ntmps59 (Nat.le_of_ble_eq_true rfl) ?_
  (have ko1 := h1; have ko2 := h2; have kc1 := h3; refine w0 ?_; (repeat' (first | refine W2.mk ?_ ?_ | refine W1.mk fun hc => ?_)); all_goals clear kc1 ko2 ko1)
  (refine ⟨(by first | exact .inl rfl | exact .inr rfl), res1 rfl ?_⟩)
  exact rv_own rfl rfl rfl
theorem rkn_What2 (a b : List Pc) (s : ByteArray) (ha : pcsMid a) (hb : pcsMid b) (hs : s.size ≤ 1000000000) : Fn Tryz.prog 59 [iC .i64 2, pcsB a, pcsB b, noRg, sC s] (ownKn (vsLess (atK a s) (atK b s))) := by
  have h1 := rkn_At a s ha hs
  have h2 := rkn_At b s hb hs
  have h3 := rvs_Make 3 lessR (atK a s) (atK b s) (atK_mid2 ha s).tot (atK_mid2 hb s).tot (fun r _ => rcnt_Make3 _ _ (by have := tabAt_len (atK a s) r; have := (atK_mid2 ha s).2; omega) (by have := tabAt_len (atK b s) r; have := (atK_mid2 hb s).2; omega))
  rw [mkSet_less] at h3
  generalize vsLess (atK a s) (atK b s) = R at *
  generalize atK a s = A at *
  generalize atK b s = B at *
  refine fn_intro Tryz.func59 rfl (by kernel_rfl) Tryz.ntmps59 (Nat.le_of_ble_eq_true rfl) ?_
  (have ko1 := h1; have ko2 := h2; have kc1 := h3; refine w0 ?_; (repeat' (first | refine W2.mk ?_ ?_ | refine W1.mk fun hc => ?_)); all_goals clear kc1 ko2 ko1)
  (refine ⟨(by first | exact .inl rfl | exact .inr rfl), res1 rfl ?_⟩)
  exact rv_own rfl rfl rfl
end
end Go.Proofs.YtbpmafpmlapekaaGreat
