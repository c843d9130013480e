/- Lists of items in order: the references' List. -/
import Derived.Test.YtpndnlnjgnckdaaAbsX
import Derived.Test.YtpndnlnjgnckdaaCmp
import Derived.Test.YtpndnlnjgnckdaaTrA
import Derived.Test.YtpndnlnjgnckdaaTrL
namespace Go.Proofs.Ytpndnlnjgnckdaa
open Go.RowKit
/-- right, and behind the one ahead of it -/
def okAt (l : List It) (i : Nat) : Prop := ∀ h : i < l.length, itR l[i] = true ∧ ∀ h0 : 0 < i, cmpB l[i - 1].key l[i].key < 0
def listOk (l : List It) : Prop := ∀ i, okAt l i
section
set_option maxRecDepth 10000
set_option maxHeartbeats 4000000
theorem ref_List (l : List It) (hk : ∀ x ∈ l, x.key.size ≤ 1000000000) (hl : l.length ≤ 1000000000) (b : Bool) (hb : b = true ↔ listOk l) : Fn Try.prog 9 [itsB l] (boR b) := by
  refine fn_intro Try.func9 rfl (by kernel_rfl) Try.ntmps9 (Nat.le_of_ble_eq_true rfl) ?_
  (repeat' (first | refine AW_seq ?_ | refine AW_block ?_ | refine AW_skip ?_ | refine AW_exit ?_ | refine AW_ret ?_ | refine AW_region ?_ | refine AW_draw mixed0 ?_ | refine AL_nil ?_ | refine AD_nil (by kernel_rfl) ?_ | (refine AW_cl rfl rfl ⟨fun hc => ?_, fun hc => ?_⟩ <;> (repeat rw [List.length_map] at hc) <;> (try exact absd hc)) | ((first | apply AL_t rfl | apply AL_0 rfl | apply AD_t rfl | apply AD_0 rfl); focus (first | exact z_auto | fail)) | refine thenA_n ?_ | refine thenA_r ?_ | refine thenA_e ?_ | refine inB_n ?_ | refine inB_r ?_ | refine inB_hit ?_ | refine inB_miss rfl ?_ | ((first | refine AL_cl rfl rfl rfl ⟨fun hc => ?_, fun hc => ?_⟩ | refine AD_cl rfl rfl rfl ⟨fun hc => ?_, fun hc => ?_⟩) <;> (fail_if_success (have q : (true = true) := hc)) <;> (fail_if_success (have q : (false = false) := hc)) <;> (repeat rw [List.length_map] at hc) <;> (try exact absd hc)) | refine AW_cond_nil rfl rfl (fun hc => ?_) ?_))
  refine AW_loopP (X := Nat) (fun z => z ≤ l.length ∧ ∀ i, i < z → okAt l i)
    (fun z => mkSt [(0, itsB l), (3, iC .i64 (z : Nat))] []) (fun z => l.length - z) 0 ⟨Nat.zero_le _, fun i h => absurd h (Nat.not_lt_zero _)⟩ ?_ ?_
  · exact le_auto
  · rintro z ⟨h1, h2⟩
    by_cases hz : z < l.length
    · have hir := ritem_Right l[z]
      have hno : ¬ okAt l z → b = false := fun h => by rw [← Bool.not_eq_true, hb]; exact fun q => h (q z)
      cases hr : itR l[z] with
      | false =>
        have hb0 := hno (fun h => by have := (h hz).1; rw [hr] at this; cases this)
        subst hb0
        clear hb hno h2
        rw [hr] at hir
        (repeat' (first | refine AW_seq ?_ | refine AW_block ?_ | refine AW_skip ?_ | refine AW_exit ?_ | refine AW_ret ?_ | refine AW_region ?_ | refine AW_draw mixed0 ?_ | refine AL_nil ?_ | refine AD_nil (by kernel_rfl) ?_ | (refine AW_cl rfl rfl ⟨fun hc => ?_, fun hc => ?_⟩ <;> (repeat rw [List.length_map] at hc) <;> (try exact absd hc)) | ((first | apply AL_t rfl | apply AL_0 rfl | apply AD_t rfl | apply AD_0 rfl); focus (first | exact z_auto | exact c_A (hir) | fail)) | refine thenA_n ?_ | refine thenA_r ?_ | refine thenA_e ?_ | refine inB_n ?_ | refine inB_r ?_ | refine inB_hit ?_ | refine inB_miss rfl ?_ | ((first | refine AL_cl rfl rfl rfl ⟨fun hc => ?_, fun hc => ?_⟩ | refine AD_cl rfl rfl rfl ⟨fun hc => ?_, fun hc => ?_⟩) <;> (fail_if_success (have q : (true = true) := hc)) <;> (fail_if_success (have q : (false = false) := hc)) <;> (repeat rw [List.length_map] at hc) <;> (try exact absd hc)) | refine AW_cond_nil rfl rfl (fun hc => ?_) ?_))
        (refine ⟨(by first | exact .inl rfl | exact .inr rfl), res1 rfl ?_⟩)
        exact rv_bool rfl rfl
      | true =>
        rw [hr] at hir
        by_cases h0 : 0 < z
        · obtain ⟨q, rfl⟩ : ∃ q, z = q + 1 := ⟨z - 1, by omega⟩
          have hqE : ((q + 1 : Nat) : Int) - 1 = (q : Nat) := by omega
          have hcm := ref_Less l[q].key l[q + 1].key (by have := hk l[q] (List.getElem_mem _); omega)
          by_cases hlt : cmpB l[q].key l[q + 1].key < 0
          · have hok : okAt l (q + 1) := fun _ => ⟨hr, fun _ => hlt⟩
            rw [decide_eq_true hlt] at hcm
            clear hb hno
            (repeat' (first | refine AW_seq ?_ | refine AW_block ?_ | refine AW_skip ?_ | refine AW_exit ?_ | refine AW_ret ?_ | refine AW_region ?_ | refine AW_draw mixed0 ?_ | refine AL_nil ?_ | refine AD_nil (by kernel_rfl) ?_ | (refine AW_cl rfl rfl ⟨fun hc => ?_, fun hc => ?_⟩ <;> (repeat rw [List.length_map] at hc) <;> (try exact absd hc)) | ((first | apply AL_t rfl | apply AL_0 rfl | apply AD_t rfl | apply AD_0 rfl); focus (first | ((apply u_k 8; (focus rfl); exact op_num ⟨rfl, rfl, rfl⟩ rfl rfl rfl rfl ((wrap_id64 (by omega) (by omega)).trans hqE))) | (apply u_g; (focus rfl); apply op_gyes rfl rfl rfl rfl rfl; ((apply u_k 8; (focus rfl); exact op_num ⟨rfl, rfl, rfl⟩ rfl rfl rfl rfl ((wrap_id64 (by omega) (by omega)).trans hqE)))) | exact z_auto | exact c_A (hir) | exact c_A (hcm) | fail)) | refine thenA_n ?_ | refine thenA_r ?_ | refine thenA_e ?_ | refine inB_n ?_ | refine inB_r ?_ | refine inB_hit ?_ | refine inB_miss rfl ?_ | ((first | refine AL_cl rfl rfl rfl ⟨fun hc => ?_, fun hc => ?_⟩ | refine AD_cl rfl rfl rfl ⟨fun hc => ?_, fun hc => ?_⟩) <;> (fail_if_success (have q : (true = true) := hc)) <;> (fail_if_success (have q : (false = false) := hc)) <;> (repeat rw [List.length_map] at hc) <;> (try exact absd hc)) | refine AW_cond_nil rfl rfl (fun hc => ?_) ?_))
            refine ⟨q + 1 + 1, ⟨by omega, fun i hi => ?_⟩, by omega, ?_⟩
            · rcases Nat.lt_or_ge i (q + 1) with q' | q'
              · exact h2 i q'
              · obtain rfl : i = q + 1 := by omega
                exact hok
            · exact le_auto
          · have hb0 := hno (fun h => hlt ((h hz).2 h0))
            rw [decide_eq_false hlt] at hcm
            subst hb0
            clear hb hno h2
            (repeat' (first | refine AW_seq ?_ | refine AW_block ?_ | refine AW_skip ?_ | refine AW_exit ?_ | refine AW_ret ?_ | refine AW_region ?_ | refine AW_draw mixed0 ?_ | refine AL_nil ?_ | refine AD_nil (by kernel_rfl) ?_ | (refine AW_cl rfl rfl ⟨fun hc => ?_, fun hc => ?_⟩ <;> (repeat rw [List.length_map] at hc) <;> (try exact absd hc)) | ((first | apply AL_t rfl | apply AL_0 rfl | apply AD_t rfl | apply AD_0 rfl); focus (first | ((apply u_k 8; (focus rfl); exact op_num ⟨rfl, rfl, rfl⟩ rfl rfl rfl rfl ((wrap_id64 (by omega) (by omega)).trans hqE))) | (apply u_g; (focus rfl); apply op_gyes rfl rfl rfl rfl rfl; ((apply u_k 8; (focus rfl); exact op_num ⟨rfl, rfl, rfl⟩ rfl rfl rfl rfl ((wrap_id64 (by omega) (by omega)).trans hqE)))) | exact z_auto | exact c_A (hir) | exact c_A (hcm) | fail)) | refine thenA_n ?_ | refine thenA_r ?_ | refine thenA_e ?_ | refine inB_n ?_ | refine inB_r ?_ | refine inB_hit ?_ | refine inB_miss rfl ?_ | ((first | refine AL_cl rfl rfl rfl ⟨fun hc => ?_, fun hc => ?_⟩ | refine AD_cl rfl rfl rfl ⟨fun hc => ?_, fun hc => ?_⟩) <;> (fail_if_success (have q : (true = true) := hc)) <;> (fail_if_success (have q : (false = false) := hc)) <;> (repeat rw [List.length_map] at hc) <;> (try exact absd hc)) | refine AW_cond_nil rfl rfl (fun hc => ?_) ?_))
            (refine ⟨(by first | exact .inl rfl | exact .inr rfl), res1 rfl ?_⟩)
            exact rv_bool rfl rfl
        · have hok : okAt l z := fun _ => ⟨hr, fun h => absurd h h0⟩
          clear hb hno
          (repeat' (first | refine AW_seq ?_ | refine AW_block ?_ | refine AW_skip ?_ | refine AW_exit ?_ | refine AW_ret ?_ | refine AW_region ?_ | refine AW_draw mixed0 ?_ | refine AL_nil ?_ | refine AD_nil (by kernel_rfl) ?_ | (refine AW_cl rfl rfl ⟨fun hc => ?_, fun hc => ?_⟩ <;> (repeat rw [List.length_map] at hc) <;> (try exact absd hc)) | ((first | apply AL_t rfl | apply AL_0 rfl | apply AD_t rfl | apply AD_0 rfl); focus (first | exact z_auto | exact c_A (hir) | fail)) | refine thenA_n ?_ | refine thenA_r ?_ | refine thenA_e ?_ | refine inB_n ?_ | refine inB_r ?_ | refine inB_hit ?_ | refine inB_miss rfl ?_ | ((first | refine AL_cl rfl rfl rfl ⟨fun hc => ?_, fun hc => ?_⟩ | refine AD_cl rfl rfl rfl ⟨fun hc => ?_, fun hc => ?_⟩) <;> (fail_if_success (have q : (true = true) := hc)) <;> (fail_if_success (have q : (false = false) := hc)) <;> (repeat rw [List.length_map] at hc) <;> (try exact absd hc)) | refine AW_cond_nil rfl rfl (fun hc => ?_) ?_))
          refine ⟨z + 1, ⟨by omega, fun i hi => ?_⟩, by omega, ?_⟩
          · rcases Nat.lt_or_ge i z with q | q
            · exact h2 i q
            · obtain rfl : i = z := by omega
              exact hok
          · exact le_auto
    · have hb1 : b = true := hb.2 (fun i => by
        rcases Nat.lt_or_ge i z with q | q
        · exact h2 i q
        · exact fun h => by omega)
      subst hb1
      clear hb h2
      (repeat' (first | refine AW_seq ?_ | refine AW_block ?_ | refine AW_skip ?_ | refine AW_exit ?_ | refine AW_ret ?_ | refine AW_region ?_ | refine AW_draw mixed0 ?_ | refine AL_nil ?_ | refine AD_nil (by kernel_rfl) ?_ | (refine AW_cl rfl rfl ⟨fun hc => ?_, fun hc => ?_⟩ <;> (repeat rw [List.length_map] at hc) <;> (try exact absd hc)) | ((first | apply AL_t rfl | apply AL_0 rfl | apply AD_t rfl | apply AD_0 rfl); focus (first | exact z_auto | fail)) | refine thenA_n ?_ | refine thenA_r ?_ | refine thenA_e ?_ | refine inB_n ?_ | refine inB_r ?_ | refine inB_hit ?_ | refine inB_miss rfl ?_ | ((first | refine AL_cl rfl rfl rfl ⟨fun hc => ?_, fun hc => ?_⟩ | refine AD_cl rfl rfl rfl ⟨fun hc => ?_, fun hc => ?_⟩) <;> (fail_if_success (have q : (true = true) := hc)) <;> (fail_if_success (have q : (false = false) := hc)) <;> (repeat rw [List.length_map] at hc) <;> (try exact absd hc)) | refine AW_cond_nil rfl rfl (fun hc => ?_) ?_))
      (refine ⟨(by first | exact .inl rfl | exact .inr rfl), res1 rfl ?_⟩)
      exact rv_bool rfl rfl
end
end Go.Proofs.Ytpndnlnjgnckdaa
namespace Go.Proofs.Ytpndnlnjgnckdaa
open Go.RowKit
section
set_option maxRecDepth 10000
set_option maxHeartbeats 4000000
abbrev awKeys : List ByteArray := [⟨#[98]⟩, ⟨#[99]⟩, ⟨#[97]⟩]
def awIt (s : ByteArray) : It := ⟨s, 1, 1, 1, 0, false, ⟨#[]⟩⟩
def awTree (k : Nat) : Tr := (awKeys.take k).foldl (fun t s => putT t (awIt s) (hItem 1 (awIt s))) .nil
theorem awTree_succ {k : Nat} (h : k < awKeys.length) : awTree (k + 1) = putT (awTree k) (awIt awKeys[k]) (hItem 1 (awIt awKeys[k])) := by
  unfold awTree
  rw [List.take_succ_eq_append_getElem h, List.foldl_append]
  rfl
theorem awTree_siz : ∀ k, k ≤ 3 → (awTree k).siz ≤ 900000
  | 0, _ => by decide
  | 1, _ => by decide +kernel
  | 2, _ => by decide +kernel
  | 3, _ => by decide +kernel
  | _ + 4, h => by omega
theorem awTree_lst : ∀ x ∈ (awTree 3).lst, x.key.size ≤ 1000000000 := by decide +kernel
theorem awKeys_ok : ∀ s ∈ awKeys, itR (awIt s) = true ∧ s.size ≤ 1000000000 := by decide +kernel
theorem awake21 : Fn Try.prog 7 [] (boR true) := by
  have n1 := tree_New 1 64
  refine fn_intro Try.func7 rfl (by kernel_rfl) Try.ntmps7 (Nat.le_of_ble_eq_true rfl) ?_
  (repeat' (first | refine AW_seq ?_ | refine AW_block ?_ | refine AW_skip ?_ | refine AW_exit ?_ | refine AW_ret ?_ | refine AW_region ?_ | refine AW_draw mixed0 ?_ | refine AL_nil ?_ | refine AD_nil (by kernel_rfl) ?_ | (refine AW_cl rfl rfl ⟨fun hc => ?_, fun hc => ?_⟩ <;> (repeat rw [List.length_map] at hc) <;> (try exact absd hc)) | ((first | apply AL_t rfl | apply AL_0 rfl | apply AD_t rfl | apply AD_0 rfl); focus (first | exact z_auto | exact c_MA [(3000, 500), (3001, 501)] (n1) | fail)) | refine thenA_n ?_ | refine thenA_r ?_ | refine thenA_e ?_ | refine inB_n ?_ | refine inB_r ?_ | refine inB_hit ?_ | refine inB_miss rfl ?_ | ((first | refine AL_cl rfl rfl rfl ⟨fun hc => ?_, fun hc => ?_⟩ | refine AD_cl rfl rfl rfl ⟨fun hc => ?_, fun hc => ?_⟩) <;> (fail_if_success (have q : (true = true) := hc)) <;> (fail_if_success (have q : (false = false) := hc)) <;> (repeat rw [List.length_map] at hc) <;> (try exact absd hc)) | refine AW_cond_nil rfl rfl (fun hc => ?_) ?_))
  refine AW_loopP (X := Nat × Tr) (fun x => x.1 ≤ awKeys.length ∧ x.2 = awTree x.1) (fun x => mkSt [(1, .ptr 500 0 0), (5, .per (lstP 1 (awKeys.map strP))), (6, iC .i64 (awKeys.length : Nat)), (7, iC .i64 (x.1 : Nat))] [(500, .box 51 [.row 501 0, iC .u64 1, iC .i64 64]), (501, .obj (trO x.2))]) (fun x => awKeys.length - x.1) (0, .nil) ⟨Nat.zero_le _, rfl⟩ ?_ ?_
  · exact le_auto
  · rintro ⟨k, T⟩ ⟨hk, hT⟩
    simp only at hk hT ⊢
    by_cases hlt : k < awKeys.length
    · have e := awTree_succ hlt
      have ok := awKeys_ok awKeys[k] (List.getElem_mem _)
      have p1 := tree_Put1 T 1 64 (awIt awKeys[k]) ok.1 (hT ▸ awTree_siz k hk) ok.2
      rw [← hT] at e
      unfold awIt at p1 e
      clear hT
      have hk3 : k < 3 := hlt
      (repeat' (first | refine AW_seq ?_ | refine AW_block ?_ | refine AW_skip ?_ | refine AW_exit ?_ | refine AW_ret ?_ | refine AW_region ?_ | refine AW_draw mixed0 ?_ | refine AL_nil ?_ | refine AD_nil (by kernel_rfl) ?_ | (refine AW_cl rfl rfl ⟨fun hc => ?_, fun hc => ?_⟩ <;> (repeat rw [List.length_map] at hc) <;> (try exact absd hc)) | ((first | apply AL_t rfl | apply AL_0 rfl | apply AD_t rfl | apply AD_0 rfl); focus (first | exact z_auto | exact c_MA [(1000, 500), (2000, 501)] (p1) | fail)) | refine thenA_n ?_ | refine thenA_r ?_ | refine thenA_e ?_ | refine inB_n ?_ | refine inB_r ?_ | refine inB_hit ?_ | refine inB_miss rfl ?_ | ((first | refine AL_cl rfl rfl rfl ⟨fun hc => ?_, fun hc => ?_⟩ | refine AD_cl rfl rfl rfl ⟨fun hc => ?_, fun hc => ?_⟩) <;> (fail_if_success (have q : (true = true) := hc)) <;> (fail_if_success (have q : (false = false) := hc)) <;> (repeat rw [List.length_map] at hc) <;> (try exact absd hc)) | refine AW_cond_nil rfl rfl (fun hc => ?_) ?_))
      refine ⟨(k + 1, _), ⟨hlt, e.symm⟩, by simp only; omega, ?_⟩
      exact le_auto
    · have e1 : (awTree 3).siz = 3 := by decide +kernel
      have e2 : (aheadT (awTree 3) ⟨#[98]⟩).1 = 1 := by decide +kernel
      have e3 : (ofT (awTree 3) ⟨⟨#[98]⟩, ⟨#[100]⟩, false⟩).1 = 2 := by decide +kernel
      obtain rfl : k = 3 := by simp at hk hlt; omega
      subst hT
      have q1 := tree_Len (awTree 3) 1 64
      have q2 := tree_Ahead (awTree 3) 1 64 ⟨#[98]⟩ (by omega) awTree_lst
      have q3 := tree_Count (awTree 3) 1 64 ⟨⟨#[98]⟩, ⟨#[100]⟩, false⟩ (by omega) awTree_lst
      rw [e1] at q1
      rw [e2] at q2
      rw [e3] at q3
      clear e1 e2 e3
      unfold treeP at q1 q2 q3
      generalize awTree 3 = T at *
      (repeat' (first | refine AW_seq ?_ | refine AW_block ?_ | refine AW_skip ?_ | refine AW_exit ?_ | refine AW_ret ?_ | refine AW_region ?_ | refine AW_draw mixed0 ?_ | refine AL_nil ?_ | refine AD_nil (by kernel_rfl) ?_ | (refine AW_cl rfl rfl ⟨fun hc => ?_, fun hc => ?_⟩ <;> (repeat rw [List.length_map] at hc) <;> (try exact absd hc)) | ((first | apply AL_t rfl | apply AL_0 rfl | apply AD_t rfl | apply AD_0 rfl); focus (first | exact z_auto | ((refine c_P (ids := [500, 501]) (q1) (hg := ?_); ((repeat (first | exact GPl.nil | (refine GPl.cons ?_ ?_; focus (first | exact gpq_per rfl | exact gpq_lst rfl | exact gpq_obj rfl rfl rfl (lends_tr _) rfl | (refine gpq_box rfl rfl rfl rfl ?_; (focus (repeat (first | exact SeesL.nil | (refine SeesL.cons ?_ ?_; (focus (first | exact Sees.per | exact Sees.obj rfl rfl (lends_tr _) rfl | exact Sees.row rfl rfl rfl))))))))))); done))) | (apply u_g; (focus rfl); apply op_gyes rfl rfl rfl rfl rfl; ((refine c_P (ids := [500, 501]) (q1) (hg := ?_); ((repeat (first | exact GPl.nil | (refine GPl.cons ?_ ?_; focus (first | exact gpq_per rfl | exact gpq_lst rfl | exact gpq_obj rfl rfl rfl (lends_tr _) rfl | (refine gpq_box rfl rfl rfl rfl ?_; (focus (repeat (first | exact SeesL.nil | (refine SeesL.cons ?_ ?_; (focus (first | exact Sees.per | exact Sees.obj rfl rfl (lends_tr _) rfl | exact Sees.row rfl rfl rfl))))))))))); done)))) | ((refine c_P (ids := [500, 501]) (q2) (hg := ?_); ((repeat (first | exact GPl.nil | (refine GPl.cons ?_ ?_; focus (first | exact gpq_per rfl | exact gpq_lst rfl | exact gpq_obj rfl rfl rfl (lends_tr _) rfl | (refine gpq_box rfl rfl rfl rfl ?_; (focus (repeat (first | exact SeesL.nil | (refine SeesL.cons ?_ ?_; (focus (first | exact Sees.per | exact Sees.obj rfl rfl (lends_tr _) rfl | exact Sees.row rfl rfl rfl))))))))))); done))) | (apply u_g; (focus rfl); apply op_gyes rfl rfl rfl rfl rfl; ((refine c_P (ids := [500, 501]) (q2) (hg := ?_); ((repeat (first | exact GPl.nil | (refine GPl.cons ?_ ?_; focus (first | exact gpq_per rfl | exact gpq_lst rfl | exact gpq_obj rfl rfl rfl (lends_tr _) rfl | (refine gpq_box rfl rfl rfl rfl ?_; (focus (repeat (first | exact SeesL.nil | (refine SeesL.cons ?_ ?_; (focus (first | exact Sees.per | exact Sees.obj rfl rfl (lends_tr _) rfl | exact Sees.row rfl rfl rfl))))))))))); done)))) | ((refine c_P (ids := [500, 501]) (q3) (hg := ?_); ((repeat (first | exact GPl.nil | (refine GPl.cons ?_ ?_; focus (first | exact gpq_per rfl | exact gpq_lst rfl | exact gpq_obj rfl rfl rfl (lends_tr _) rfl | (refine gpq_box rfl rfl rfl rfl ?_; (focus (repeat (first | exact SeesL.nil | (refine SeesL.cons ?_ ?_; (focus (first | exact Sees.per | exact Sees.obj rfl rfl (lends_tr _) rfl | exact Sees.row rfl rfl rfl))))))))))); done))) | (apply u_g; (focus rfl); apply op_gyes rfl rfl rfl rfl rfl; ((refine c_P (ids := [500, 501]) (q3) (hg := ?_); ((repeat (first | exact GPl.nil | (refine GPl.cons ?_ ?_; focus (first | exact gpq_per rfl | exact gpq_lst rfl | exact gpq_obj rfl rfl rfl (lends_tr _) rfl | (refine gpq_box rfl rfl rfl rfl ?_; (focus (repeat (first | exact SeesL.nil | (refine SeesL.cons ?_ ?_; (focus (first | exact Sees.per | exact Sees.obj rfl rfl (lends_tr _) rfl | exact Sees.row rfl rfl rfl))))))))))); done)))) | fail)) | refine thenA_n ?_ | refine thenA_r ?_ | refine thenA_e ?_ | refine inB_n ?_ | refine inB_r ?_ | refine inB_hit ?_ | refine inB_miss rfl ?_ | ((first | refine AL_cl rfl rfl rfl ⟨fun hc => ?_, fun hc => ?_⟩ | refine AD_cl rfl rfl rfl ⟨fun hc => ?_, fun hc => ?_⟩) <;> (fail_if_success (have q : (true = true) := hc)) <;> (fail_if_success (have q : (false = false) := hc)) <;> (repeat rw [List.length_map] at hc) <;> (try exact absd hc)) | refine AW_cond_nil rfl rfl (fun hc => ?_) ?_))
      (refine ⟨(by first | exact .inl rfl | exact .inr rfl), res1 rfl ?_⟩)
      exact rv_bool rfl rfl
theorem longB_key {l : List It} {most : Int} (h : longB l most = false) : ∀ x ∈ l, x.key.size ≤ 1000000000 := fun x hx => by
  unfold longB at h
  rw [Bool.or_eq_false_iff] at h
  have := List.any_eq_false.1 h.2 x hx
  unfold itL at this
  simp at this
  omega
theorem longB_len {l : List It} {most : Int} (h : longB l most = false) : (l.length : Int) ≤ most := by
  unfold longB at h
  rw [Bool.or_eq_false_iff] at h
  have := decide_eq_false_iff_not.1 h.1
  omega
abbrev hP (seed : Int) (x : It) : It × Int := (x, hItem seed x)
theorem listOk_srt {l : List It} (seed : Int) (h : listOk l) : srtP (l.map (hP seed)) := by
  unfold srtP
  rw [List.pairwise_map, List.pairwise_iff_getElem]
  intro i j hi hj hij
  induction j with
  | zero => omega
  | succ j ih =>
    have h1 := (h (j + 1) hj).2 (by omega)
    simp only [Nat.add_sub_cancel] at h1
    have h1 := (o_lt _ _).1 h1
    rcases Nat.lt_or_ge i j with q | q
    · have := ih (by omega) q
      simp only at this ⊢
      grind
    · obtain rfl : i = j := by omega
      exact h1
theorem srt_take {l : List It} {seed : Int} (h : srtP (l.map (hP seed))) {i : Nat} (hi : i < l.length) : ∀ z ∈ (l.take i).map (hP seed), z.1.key < l[i].key := by
  intro z hz
  obtain ⟨x, hx, rfl⟩ := List.mem_map.1 hz
  obtain ⟨j, hj, rfl⟩ := List.getElem_of_mem hx
  rw [List.getElem_take]
  have h1 := List.pairwise_map.1 h
  rw [List.pairwise_iff_getElem] at h1
  exact h1 j i (by simp at hj; omega) hi (by simp at hj; omega)
theorem srt_drop {l : List It} {seed : Int} (h : srtP (l.map (hP seed))) {i : Nat} (hi : i < l.length) : ∀ z ∈ (l.drop (i + 1)).map (hP seed), l[i].key < z.1.key := by
  intro z hz
  obtain ⟨x, hx, rfl⟩ := List.mem_map.1 hz
  obtain ⟨j, hj, rfl⟩ := List.getElem_of_mem hx
  rw [List.getElem_drop]
  have h1 := List.pairwise_map.1 h
  rw [List.pairwise_iff_getElem] at h1
  exact h1 i (i + 1 + j) hi (by simp at hj; omega) (by omega)
theorem srt_sub {a b : List (It × Int)} (h : srtP b) (hs : a.Sublist b) : srtP a := List.Pairwise.sublist hs h
theorem law_treeOrder (l : List It) (r : Rg) (seed : Int) : Fn Try.prog 3 [.per (itsP l), rgC r, iC .u64 seed] (boR true) := by
  have h0 := awake21
  have hL := item_Long l 40 (by decide)
  have n1 := tree_New seed 64
  obtain ⟨lo, hi, op⟩ := r
  show Fn Try.prog _ [.per (itsP l), .per (aggP [rawP (.string lo), rawP (.string hi), rawP (.bool op)]), iC .u64 seed] (boR true)
  cases hl : longB l 40 with
  | true =>
    rw [hl] at hL
    refine fn_intro Try.func3 rfl (by kernel_rfl) Try.ntmps3 (Nat.le_of_ble_eq_true rfl) ?_
    (repeat' (first | refine AW_seq ?_ | refine AW_block ?_ | refine AW_skip ?_ | refine AW_exit ?_ | refine AW_ret ?_ | refine AW_region ?_ | refine AW_draw mixed0 ?_ | refine AL_nil ?_ | refine AD_nil (by kernel_rfl) ?_ | (refine AW_cl rfl rfl ⟨fun hc => ?_, fun hc => ?_⟩ <;> (repeat rw [List.length_map] at hc) <;> (try exact absd hc)) | ((first | apply AL_t rfl | apply AL_0 rfl | apply AD_t rfl | apply AD_0 rfl); focus (first | exact z_auto | exact c_A (h0) | exact c_A (hL) | fail)) | refine thenA_n ?_ | refine thenA_r ?_ | refine thenA_e ?_ | refine inB_n ?_ | refine inB_r ?_ | refine inB_hit ?_ | refine inB_miss rfl ?_ | ((first | refine AL_cl rfl rfl rfl ⟨fun hc => ?_, fun hc => ?_⟩ | refine AD_cl rfl rfl rfl ⟨fun hc => ?_, fun hc => ?_⟩) <;> (fail_if_success (have q : (true = true) := hc)) <;> (fail_if_success (have q : (false = false) := hc)) <;> (repeat rw [List.length_map] at hc) <;> (try exact absd hc)) | refine AW_cond_nil rfl rfl (fun hc => ?_) ?_))
    (refine ⟨(by first | exact .inl rfl | exact .inr rfl), res1 rfl ?_⟩)
    exact rv_bool rfl rfl
  | false =>
    rw [hl] at hL
    have ll := longB_len hl
    have lk := longB_key hl
    by_cases hok : listOk l
    · have hT := ref_List l lk (by omega) true (by simp [hok])
      have hS := listOk_srt seed hok
      refine fn_intro Try.func3 rfl (by kernel_rfl) Try.ntmps3 (Nat.le_of_ble_eq_true rfl) ?_
      (repeat' (first | refine AW_seq ?_ | refine AW_block ?_ | refine AW_skip ?_ | refine AW_exit ?_ | refine AW_ret ?_ | refine AW_region ?_ | refine AW_draw mixed0 ?_ | refine AL_nil ?_ | refine AD_nil (by kernel_rfl) ?_ | (refine AW_cl rfl rfl ⟨fun hc => ?_, fun hc => ?_⟩ <;> (repeat rw [List.length_map] at hc) <;> (try exact absd hc)) | ((first | apply AL_t rfl | apply AL_0 rfl | apply AD_t rfl | apply AD_0 rfl); focus (first | exact z_auto | exact c_A (h0) | exact c_A (hL) | exact c_A (hT) | fail)) | refine thenA_n ?_ | refine thenA_r ?_ | refine thenA_e ?_ | refine inB_n ?_ | refine inB_r ?_ | refine inB_hit ?_ | refine inB_miss rfl ?_ | ((first | refine AL_cl rfl rfl rfl ⟨fun hc => ?_, fun hc => ?_⟩ | refine AD_cl rfl rfl rfl ⟨fun hc => ?_, fun hc => ?_⟩) <;> (fail_if_success (have q : (true = true) := hc)) <;> (fail_if_success (have q : (false = false) := hc)) <;> (repeat rw [List.length_map] at hc) <;> (try exact absd hc)) | refine AW_cond_nil rfl rfl (fun hc => ?_) ?_))
      · (refine ⟨(by first | exact .inl rfl | exact .inr rfl), res1 rfl ?_⟩)
        exact rv_bool rfl rfl
      · (refine ⟨(by first | exact .inl rfl | exact .inr rfl), res1 rfl ?_⟩)
        exact rv_bool rfl rfl
      · clear h0 hL hT
        apply AL_t rfl
        · exact c_MA [(3000, 500), (3001, 501)] n1
        (repeat' (first | refine AW_seq ?_ | refine AW_block ?_ | refine AW_skip ?_ | refine AW_exit ?_ | refine AW_ret ?_ | refine AW_region ?_ | refine AW_draw mixed0 ?_ | refine AL_nil ?_ | refine AD_nil (by kernel_rfl) ?_ | (refine AW_cl rfl rfl ⟨fun hc => ?_, fun hc => ?_⟩ <;> (repeat rw [List.length_map] at hc) <;> (try exact absd hc)) | ((first | apply AL_t rfl | apply AL_0 rfl | apply AD_t rfl | apply AD_0 rfl); focus (first | exact z_auto | exact c_MA [(3000, 502), (3001, 503)] (n1) | fail)) | refine thenA_n ?_ | refine thenA_r ?_ | refine thenA_e ?_ | refine inB_n ?_ | refine inB_r ?_ | refine inB_hit ?_ | refine inB_miss rfl ?_ | ((first | refine AL_cl rfl rfl rfl ⟨fun hc => ?_, fun hc => ?_⟩ | refine AD_cl rfl rfl rfl ⟨fun hc => ?_, fun hc => ?_⟩) <;> (fail_if_success (have q : (true = true) := hc)) <;> (fail_if_success (have q : (false = false) := hc)) <;> (repeat rw [List.length_map] at hc) <;> (try exact absd hc)) | refine AW_cond_nil rfl rfl (fun hc => ?_) ?_))
        refine AW_loopP (X := Nat × Tr × Tr) (fun x => x.1 ≤ l.length ∧ x.2.1.pl = (l.take x.1).map (hP seed) ∧ x.2.2.pl = (l.drop (l.length - x.1)).map (hP seed))
          (fun x => mkSt [(0, .per (itsP l)), (4, .ptr 4 0 0), (7, .ptr 500 0 0), (8, .ptr 502 0 0), (36, iC .i64 (l.length : Nat)), (37, iC .i64 (x.1 : Nat))]
            [(4, .box 24 [sC lo, sC hi, bC op]), (500, .box 51 [.row 501 0, iC .u64 seed, iC .i64 64]), (501, .obj (trO x.2.1)), (502, .box 51 [.row 503 0, iC .u64 seed, iC .i64 64]), (503, .obj (trO x.2.2))])
          (fun x => l.length - x.1) (0, .nil, .nil) ⟨Nat.zero_le _, by simp [Tr.pl], by simp [Tr.pl]⟩ ?_ ?_
        · exact le_auto
        · rintro ⟨i, TA, TB⟩ ⟨h1, hA, hB⟩
          simp only at h1 hA hB ⊢
          by_cases hlt : i < l.length
          · have sA : TA.siz ≤ 900000 := by rw [siz_pl, hA]; simp; omega
            have sB : TB.siz ≤ 900000 := by rw [siz_pl, hB]; simp; omega
            have j1 : ((l.length : Nat) : Int) - 1 = ((l.length - 1 : Nat) : Int) := by omega
            have j2 : ((l.length - 1 : Nat) : Int) - ((i : Nat) : Int) = ((l.length - 1 - i : Nat) : Int) := by omega
            have hj : l.length - 1 - i < l.length := by omega
            have p1 := tree_Put1 TA seed 64 l[i] (hok i hlt).1 sA (lk _ (List.getElem_mem _))
            have p2 := tree_Put1 TB seed 64 (l[l.length - 1 - i]'hj) (hok _ hj).1 sB (lk _ (List.getElem_mem _))
            have a1 : (putT TA l[i] (hItem seed l[i])).pl = (l.take (i + 1)).map (hP seed) := by
              rw [pl_put TA _ _ (by rw [hA]; exact srt_sub hS ((List.take_sublist _ _).map _)), hA, insP_end _ _ _ (srt_take hS hlt), List.take_succ_eq_append_getElem hlt, List.map_append]
              rfl
            have a2 : (putT TB (l[l.length - 1 - i]'hj) (hItem seed (l[l.length - 1 - i]'hj))).pl = (l.drop (l.length - (i + 1))).map (hP seed) := by
              rw [pl_put TB _ _ (by rw [hB]; exact srt_sub hS ((List.drop_sublist _ _).map _)), hB]
              have e1 : l.length - i = l.length - 1 - i + 1 := by omega
              have e2 : l.length - (i + 1) = l.length - 1 - i := by omega
              rw [e1, insP_front _ _ _ (srt_drop hS hj), e2, List.drop_eq_getElem_cons hj, List.map_cons]
            clear hS
            (repeat' (first | refine AW_seq ?_ | refine AW_block ?_ | refine AW_skip ?_ | refine AW_exit ?_ | refine AW_ret ?_ | refine AW_region ?_ | refine AW_draw mixed0 ?_ | refine AL_nil ?_ | refine AD_nil (by kernel_rfl) ?_ | (refine AW_cl rfl rfl ⟨fun hc => ?_, fun hc => ?_⟩ <;> (repeat rw [List.length_map] at hc) <;> (try exact absd hc)) | ((first | apply AL_t rfl | apply AL_0 rfl | apply AD_t rfl | apply AD_0 rfl); focus (first | ((apply u_k 8; (focus rfl); exact op_num ⟨rfl, rfl, rfl⟩ rfl rfl rfl rfl ((wrap_id64 (by omega) (by omega)).trans j1))) | (apply u_g; (focus rfl); apply op_gyes rfl rfl rfl rfl rfl; ((apply u_k 8; (focus rfl); exact op_num ⟨rfl, rfl, rfl⟩ rfl rfl rfl rfl ((wrap_id64 (by omega) (by omega)).trans j1)))) | ((apply u_k 8; (focus rfl); exact op_num ⟨rfl, rfl, rfl⟩ rfl rfl rfl rfl ((wrap_id64 (by omega) (by omega)).trans j2))) | (apply u_g; (focus rfl); apply op_gyes rfl rfl rfl rfl rfl; ((apply u_k 8; (focus rfl); exact op_num ⟨rfl, rfl, rfl⟩ rfl rfl rfl rfl ((wrap_id64 (by omega) (by omega)).trans j2)))) | exact z_auto | exact c_MA [(1000, 500), (2000, 501)] (p1) | exact c_MA [(1000, 502), (2000, 503)] (p2) | fail)) | refine thenA_n ?_ | refine thenA_r ?_ | refine thenA_e ?_ | refine inB_n ?_ | refine inB_r ?_ | refine inB_hit ?_ | refine inB_miss rfl ?_ | ((first | refine AL_cl rfl rfl rfl ⟨fun hc => ?_, fun hc => ?_⟩ | refine AD_cl rfl rfl rfl ⟨fun hc => ?_, fun hc => ?_⟩) <;> (fail_if_success (have q : (true = true) := hc)) <;> (fail_if_success (have q : (false = false) := hc)) <;> (repeat rw [List.length_map] at hc) <;> (try exact absd hc)) | refine AW_cond_nil rfl rfl (fun hc => ?_) ?_))
            refine ⟨(i + 1, _, _), ⟨hlt, a1, a2⟩, by simp only; omega, ?_⟩
            exact le_auto
          · obtain rfl : i = l.length := by omega
            rw [List.take_length] at hA
            rw [Nat.sub_self, List.drop_zero] at hB
            have eA : TA.lst = l := by rw [lst_pl, hA, List.map_map]; exact List.map_id' l
            have eB : TB.lst = l := by rw [lst_pl, hB, List.map_map]; exact List.map_id' l
            have sA : TA.siz = l.length := by rw [siz_pl, hA, List.length_map]
            have sB : TB.siz = l.length := by rw [siz_pl, hB, List.length_map]
            have eO := ofT_eq (t := TA) (u := TB) ⟨lo, hi, op⟩ (by rw [hA]; exact hS) (hA.trans hB.symm)
            have q1 := tree_All TA seed 64 (by omega)
            have q2 := tree_All TB seed 64 (by omega)
            have q3 := tree_Sum TA seed 64 ⟨lo, hi, op⟩ (by omega) (by rw [eA]; exact lk)
            have q4 := tree_Sum TB seed 64 ⟨lo, hi, op⟩ (by omega) (by rw [eB]; exact lk)
            have q5 := tree_Count TA seed 64 ⟨lo, hi, op⟩ (by omega) (by rw [eA]; exact lk)
            have q6 := tree_Count TB seed 64 ⟨lo, hi, op⟩ (by omega) (by rw [eB]; exact lk)
            have q7 := tree_Len TA seed 64
            have q8 := item_Same l l (by omega)
            rw [decide_eq_true rfl] at q8
            rw [← eO] at q4 q6
            rw [eA] at q1
            rw [eB] at q2
            rw [sA] at q7
            generalize ofT TA ⟨lo, hi, op⟩ = O at *
            clear hA hB hS eA eB sA sB eO hok
            unfold treeP at q1 q2 q3 q4 q5 q6 q7
            (repeat' (first | refine AW_seq ?_ | refine AW_block ?_ | refine AW_skip ?_ | refine AW_exit ?_ | refine AW_ret ?_ | refine AW_region ?_ | refine AW_draw mixed0 ?_ | refine AL_nil ?_ | refine AD_nil (by kernel_rfl) ?_ | (refine AW_cl rfl rfl ⟨fun hc => ?_, fun hc => ?_⟩ <;> (repeat rw [List.length_map] at hc) <;> (try exact absd hc)) | ((first | apply AL_t rfl | apply AL_0 rfl | apply AD_t rfl | apply AD_0 rfl); focus (first | exact z_auto | exact c_A (q8) | ((refine c_PO (ids := [500, 501]) (q1) (hg := ?_); ((repeat (first | exact GPl.nil | (refine GPl.cons ?_ ?_; focus (first | exact gpq_per rfl | exact gpq_lst rfl | exact gpq_obj rfl rfl rfl (lends_tr _) rfl | (refine gpq_box rfl rfl rfl rfl ?_; (focus (repeat (first | exact SeesL.nil | (refine SeesL.cons ?_ ?_; (focus (first | exact Sees.per | exact Sees.obj rfl rfl (lends_tr _) rfl | exact Sees.row rfl rfl rfl))))))))))); done))) | (apply u_g; (focus rfl); apply op_gyes rfl rfl rfl rfl rfl; ((refine c_PO (ids := [500, 501]) (q1) (hg := ?_); ((repeat (first | exact GPl.nil | (refine GPl.cons ?_ ?_; focus (first | exact gpq_per rfl | exact gpq_lst rfl | exact gpq_obj rfl rfl rfl (lends_tr _) rfl | (refine gpq_box rfl rfl rfl rfl ?_; (focus (repeat (first | exact SeesL.nil | (refine SeesL.cons ?_ ?_; (focus (first | exact Sees.per | exact Sees.obj rfl rfl (lends_tr _) rfl | exact Sees.row rfl rfl rfl))))))))))); done)))) | ((refine c_PO (ids := [502, 503]) (q2) (hg := ?_); ((repeat (first | exact GPl.nil | (refine GPl.cons ?_ ?_; focus (first | exact gpq_per rfl | exact gpq_lst rfl | exact gpq_obj rfl rfl rfl (lends_tr _) rfl | (refine gpq_box rfl rfl rfl rfl ?_; (focus (repeat (first | exact SeesL.nil | (refine SeesL.cons ?_ ?_; (focus (first | exact Sees.per | exact Sees.obj rfl rfl (lends_tr _) rfl | exact Sees.row rfl rfl rfl))))))))))); done))) | (apply u_g; (focus rfl); apply op_gyes rfl rfl rfl rfl rfl; ((refine c_PO (ids := [502, 503]) (q2) (hg := ?_); ((repeat (first | exact GPl.nil | (refine GPl.cons ?_ ?_; focus (first | exact gpq_per rfl | exact gpq_lst rfl | exact gpq_obj rfl rfl rfl (lends_tr _) rfl | (refine gpq_box rfl rfl rfl rfl ?_; (focus (repeat (first | exact SeesL.nil | (refine SeesL.cons ?_ ?_; (focus (first | exact Sees.per | exact Sees.obj rfl rfl (lends_tr _) rfl | exact Sees.row rfl rfl rfl))))))))))); done)))) | ((refine c_P (ids := [500, 501]) (q3) (hg := ?_); ((repeat (first | exact GPl.nil | (refine GPl.cons ?_ ?_; focus (first | exact gpq_per rfl | exact gpq_lst rfl | exact gpq_obj rfl rfl rfl (lends_tr _) rfl | (refine gpq_box rfl rfl rfl rfl ?_; (focus (repeat (first | exact SeesL.nil | (refine SeesL.cons ?_ ?_; (focus (first | exact Sees.per | exact Sees.obj rfl rfl (lends_tr _) rfl | exact Sees.row rfl rfl rfl))))))))))); done))) | (apply u_g; (focus rfl); apply op_gyes rfl rfl rfl rfl rfl; ((refine c_P (ids := [500, 501]) (q3) (hg := ?_); ((repeat (first | exact GPl.nil | (refine GPl.cons ?_ ?_; focus (first | exact gpq_per rfl | exact gpq_lst rfl | exact gpq_obj rfl rfl rfl (lends_tr _) rfl | (refine gpq_box rfl rfl rfl rfl ?_; (focus (repeat (first | exact SeesL.nil | (refine SeesL.cons ?_ ?_; (focus (first | exact Sees.per | exact Sees.obj rfl rfl (lends_tr _) rfl | exact Sees.row rfl rfl rfl))))))))))); done)))) | ((refine c_P (ids := [502, 503]) (q4) (hg := ?_); ((repeat (first | exact GPl.nil | (refine GPl.cons ?_ ?_; focus (first | exact gpq_per rfl | exact gpq_lst rfl | exact gpq_obj rfl rfl rfl (lends_tr _) rfl | (refine gpq_box rfl rfl rfl rfl ?_; (focus (repeat (first | exact SeesL.nil | (refine SeesL.cons ?_ ?_; (focus (first | exact Sees.per | exact Sees.obj rfl rfl (lends_tr _) rfl | exact Sees.row rfl rfl rfl))))))))))); done))) | (apply u_g; (focus rfl); apply op_gyes rfl rfl rfl rfl rfl; ((refine c_P (ids := [502, 503]) (q4) (hg := ?_); ((repeat (first | exact GPl.nil | (refine GPl.cons ?_ ?_; focus (first | exact gpq_per rfl | exact gpq_lst rfl | exact gpq_obj rfl rfl rfl (lends_tr _) rfl | (refine gpq_box rfl rfl rfl rfl ?_; (focus (repeat (first | exact SeesL.nil | (refine SeesL.cons ?_ ?_; (focus (first | exact Sees.per | exact Sees.obj rfl rfl (lends_tr _) rfl | exact Sees.row rfl rfl rfl))))))))))); done)))) | ((refine c_P (ids := [500, 501]) (q5) (hg := ?_); ((repeat (first | exact GPl.nil | (refine GPl.cons ?_ ?_; focus (first | exact gpq_per rfl | exact gpq_lst rfl | exact gpq_obj rfl rfl rfl (lends_tr _) rfl | (refine gpq_box rfl rfl rfl rfl ?_; (focus (repeat (first | exact SeesL.nil | (refine SeesL.cons ?_ ?_; (focus (first | exact Sees.per | exact Sees.obj rfl rfl (lends_tr _) rfl | exact Sees.row rfl rfl rfl))))))))))); done))) | (apply u_g; (focus rfl); apply op_gyes rfl rfl rfl rfl rfl; ((refine c_P (ids := [500, 501]) (q5) (hg := ?_); ((repeat (first | exact GPl.nil | (refine GPl.cons ?_ ?_; focus (first | exact gpq_per rfl | exact gpq_lst rfl | exact gpq_obj rfl rfl rfl (lends_tr _) rfl | (refine gpq_box rfl rfl rfl rfl ?_; (focus (repeat (first | exact SeesL.nil | (refine SeesL.cons ?_ ?_; (focus (first | exact Sees.per | exact Sees.obj rfl rfl (lends_tr _) rfl | exact Sees.row rfl rfl rfl))))))))))); done)))) | ((refine c_P (ids := [502, 503]) (q6) (hg := ?_); ((repeat (first | exact GPl.nil | (refine GPl.cons ?_ ?_; focus (first | exact gpq_per rfl | exact gpq_lst rfl | exact gpq_obj rfl rfl rfl (lends_tr _) rfl | (refine gpq_box rfl rfl rfl rfl ?_; (focus (repeat (first | exact SeesL.nil | (refine SeesL.cons ?_ ?_; (focus (first | exact Sees.per | exact Sees.obj rfl rfl (lends_tr _) rfl | exact Sees.row rfl rfl rfl))))))))))); done))) | (apply u_g; (focus rfl); apply op_gyes rfl rfl rfl rfl rfl; ((refine c_P (ids := [502, 503]) (q6) (hg := ?_); ((repeat (first | exact GPl.nil | (refine GPl.cons ?_ ?_; focus (first | exact gpq_per rfl | exact gpq_lst rfl | exact gpq_obj rfl rfl rfl (lends_tr _) rfl | (refine gpq_box rfl rfl rfl rfl ?_; (focus (repeat (first | exact SeesL.nil | (refine SeesL.cons ?_ ?_; (focus (first | exact Sees.per | exact Sees.obj rfl rfl (lends_tr _) rfl | exact Sees.row rfl rfl rfl))))))))))); done)))) | ((refine c_P (ids := [500, 501]) (q7) (hg := ?_); ((repeat (first | exact GPl.nil | (refine GPl.cons ?_ ?_; focus (first | exact gpq_per rfl | exact gpq_lst rfl | exact gpq_obj rfl rfl rfl (lends_tr _) rfl | (refine gpq_box rfl rfl rfl rfl ?_; (focus (repeat (first | exact SeesL.nil | (refine SeesL.cons ?_ ?_; (focus (first | exact Sees.per | exact Sees.obj rfl rfl (lends_tr _) rfl | exact Sees.row rfl rfl rfl))))))))))); done))) | (apply u_g; (focus rfl); apply op_gyes rfl rfl rfl rfl rfl; ((refine c_P (ids := [500, 501]) (q7) (hg := ?_); ((repeat (first | exact GPl.nil | (refine GPl.cons ?_ ?_; focus (first | exact gpq_per rfl | exact gpq_lst rfl | exact gpq_obj rfl rfl rfl (lends_tr _) rfl | (refine gpq_box rfl rfl rfl rfl ?_; (focus (repeat (first | exact SeesL.nil | (refine SeesL.cons ?_ ?_; (focus (first | exact Sees.per | exact Sees.obj rfl rfl (lends_tr _) rfl | exact Sees.row rfl rfl rfl))))))))))); done)))) | fail)) | refine thenA_n ?_ | refine thenA_r ?_ | refine thenA_e ?_ | refine inB_n ?_ | refine inB_r ?_ | refine inB_hit ?_ | refine inB_miss rfl ?_ | ((first | refine AL_cl rfl rfl rfl ⟨fun hc => ?_, fun hc => ?_⟩ | refine AD_cl rfl rfl rfl ⟨fun hc => ?_, fun hc => ?_⟩) <;> (fail_if_success (have q : (true = true) := hc)) <;> (fail_if_success (have q : (false = false) := hc)) <;> (repeat rw [List.length_map] at hc) <;> (try exact absd hc)) | refine AW_cond_nil rfl rfl (fun hc => ?_) ?_))
            (refine ⟨(by first | exact .inl rfl | exact .inr rfl), res1 rfl ?_⟩)
            exact rv_bool rfl (by simp)
    · have hT := ref_List l lk (by omega) false (by simp [hok])
      refine fn_intro Try.func3 rfl (by kernel_rfl) Try.ntmps3 (Nat.le_of_ble_eq_true rfl) ?_
      (repeat' (first | refine AW_seq ?_ | refine AW_block ?_ | refine AW_skip ?_ | refine AW_exit ?_ | refine AW_ret ?_ | refine AW_region ?_ | refine AW_draw mixed0 ?_ | refine AL_nil ?_ | refine AD_nil (by kernel_rfl) ?_ | (refine AW_cl rfl rfl ⟨fun hc => ?_, fun hc => ?_⟩ <;> (repeat rw [List.length_map] at hc) <;> (try exact absd hc)) | ((first | apply AL_t rfl | apply AL_0 rfl | apply AD_t rfl | apply AD_0 rfl); focus (first | exact z_auto | exact c_A (h0) | exact c_A (hL) | exact c_A (hT) | fail)) | refine thenA_n ?_ | refine thenA_r ?_ | refine thenA_e ?_ | refine inB_n ?_ | refine inB_r ?_ | refine inB_hit ?_ | refine inB_miss rfl ?_ | ((first | refine AL_cl rfl rfl rfl ⟨fun hc => ?_, fun hc => ?_⟩ | refine AD_cl rfl rfl rfl ⟨fun hc => ?_, fun hc => ?_⟩) <;> (fail_if_success (have q : (true = true) := hc)) <;> (fail_if_success (have q : (false = false) := hc)) <;> (repeat rw [List.length_map] at hc) <;> (try exact absd hc)) | refine AW_cond_nil rfl rfl (fun hc => ?_) ?_))
      (refine ⟨(by first | exact .inl rfl | exact .inr rfl), res1 rfl ?_⟩)
      exact rv_bool rfl rfl
end
end Go.Proofs.Ytpndnlnjgnckdaa
