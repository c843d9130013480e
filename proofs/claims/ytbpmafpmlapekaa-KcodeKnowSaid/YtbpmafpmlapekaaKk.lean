/- Knowledge as bytes, and back: the program's way and the references'. -/
import Derived.Test.YtbpmafpmlapekaaKw2
import Derived.Test.YtbpmafpmlapekaaLaw16
namespace Go.Proofs.Ytbpmafpmlapekaa
open Go.RowKit
theorem pcB_len {p : Pc} (h1 : rgR p.rg = true) (h2 : knsOk p.set) (h3 : fewS p.set) : (pcB p).length ≤ 1500040 := by
  have q1 := rgB_len h1
  have q2 := setB_len h2 h3
  unfold pcB
  rw [List.length_append]; omega
theorem pcsOk_get {k : List Pc} (h : pcsOk k) {i : Nat} (hi : i < k.length) : rgR k[i].rg = true ∧ knsOk k[i].set := let ⟨a, _, c, _⟩ := h i hi hi; ⟨a, c⟩
def fewK (k : List Pc) : Prop := ∀ p ∈ k, fewS p.set
theorem lis_tot (l : List UInt8) (e : Int) : knsTot (lisSt knSt 16 l e).1 := by
  have h1 := lisSt_len (st := knSt) (most := 16) (by omega) l e
  have h2 := (lis_knSz l e).2
  have : ∀ l : List Kn, (∀ k ∈ l, k.runs.length ≤ 4096) → (l.flatMap Kn.runs).length ≤ 4096 * l.length := by
    intro l
    induction l with
    | nil => intro _; simp
    | cons x l ih =>
      intro h
      have h1 := h x List.mem_cons_self
      have h2 := ih (fun y hy => h y (List.mem_cons_of_mem _ hy))
      rw [List.flatMap_cons, List.length_append, List.length_cons]; omega
  have := this _ h2
  exact ⟨by omega, by omega⟩
theorem pcSt_good (l : List UInt8) (e : Int) : knsTot (pcSt l e).1.set ∧ fewS (pcSt l e).1.set := ⟨lis_tot _ _, (lis_knSz _ _).2⟩
theorem lis_pcSz (l : List UInt8) (e : Int) : pcsSz (lisSt pcSt 4096 l e).1 ∧ fewK (lisSt pcSt 4096 l e).1 := by
  have h1 := lisSt_len (st := pcSt) (most := 4096) (by omega) l e
  have h2 := lisSt_all (p := fun p : Pc => knsTot p.set ∧ fewS p.set) pcSt_good 4096 l e
  exact ⟨⟨by omega, fun p hp => (h2 p hp).1⟩, fun p hp => (h2 p hp).2⟩
section
set_option maxRecDepth 10000
set_option maxHeartbeats 8000000
theorem kc_Know (k : List Pc) (hk : pcsSz k) (hf : fewK k) (hl : k.length ≤ 4096) (b : Bool) (hb : b = true ↔ pcsOk k) : Fn Try.prog 45 [pcsB k] (.tup2 (ownB (if b then knowB k else [])) (inR (if b then 0 else 2))) := by
  have h0 := know_Right k hk b hb
  cases b with
  | false =>
    show Fn _ _ _ (.tup2 (ownB []) (inR 2))
    clear hb
    refine fn_intro Try.func45 rfl (by kernel_rfl) Try.ntmps45 (Nat.le_of_ble_eq_true rfl) ?_
    (repeat' (first | refine AW_seq ?_ | refine AW_block ?_ | refine AW_skip ?_ | refine AW_exit ?_ | refine AW_ret ?_ | refine AW_region ?_ | refine AW_draw mixed0 ?_ | refine AL_nil ?_ | refine AD_nil (by kernel_rfl) ?_ | (refine AW_cl rfl rfl ⟨fun hc => ?_, fun hc => ?_⟩ <;> (repeat rw [List.length_map] at hc) <;> (try exact absd hc)) | ((first | apply AL_t rfl | apply AL_0 rfl | apply AD_t rfl | apply AD_0 rfl); focus (first | exact z_auto | exact c_A (h0) | fail)) | refine thenA_n ?_ | refine thenA_r ?_ | refine thenA_e ?_ | refine inB_n ?_ | refine inB_r ?_ | refine inB_hit ?_ | refine inB_miss rfl ?_ | ((first | refine AL_cl rfl rfl rfl ⟨fun hc => ?_, fun hc => ?_⟩ | refine AD_cl rfl rfl rfl ⟨fun hc => ?_, fun hc => ?_⟩) <;> (fail_if_success (have q : (true = true) := hc)) <;> (fail_if_success (have q : (false = false) := hc)) <;> (repeat rw [List.length_map] at hc) <;> (try exact absd hc)) | refine AW_cond_nil rfl rfl (fun hc => ?_) ?_))
    all_goals (refine ⟨(by first | exact .inl rfl | exact .inr rfl), res2 rfl ?_ ?_⟩)
    all_goals first | exact rv_nil rfl | exact rv_int rfl rfl
  | true =>
    show Fn _ _ _ (.tup2 (ownB (knowB k)) (inR 0))
    have hok := hb.1 rfl
    clear hb
    have hp0 := kc_put [] [(k.length : Int)] (by simp) (ok_small (by omega) (by omega))
    have hn0 := numI_len (k.length : Int) (by omega)
    refine fn_intro Try.func45 rfl (by kernel_rfl) Try.ntmps45 (Nat.le_of_ble_eq_true rfl) ?_
    (repeat' (first | refine AW_seq ?_ | refine AW_block ?_ | refine AW_skip ?_ | refine AW_exit ?_ | refine AW_ret ?_ | refine AW_region ?_ | refine AW_draw mixed0 ?_ | refine AL_nil ?_ | refine AD_nil (by kernel_rfl) ?_ | (refine AW_cl rfl rfl ⟨fun hc => ?_, fun hc => ?_⟩ <;> (repeat rw [List.length_map] at hc) <;> (try exact absd hc)) | ((first | apply AL_t rfl | apply AL_0 rfl | apply AD_t rfl | apply AD_0 rfl); focus (first | exact z_auto | exact c_A (h0) | exact c_A (hp0) | fail)) | refine thenA_n ?_ | refine thenA_r ?_ | refine thenA_e ?_ | refine inB_n ?_ | refine inB_r ?_ | refine inB_hit ?_ | refine inB_miss rfl ?_ | ((first | refine AL_cl rfl rfl rfl ⟨fun hc => ?_, fun hc => ?_⟩ | refine AD_cl rfl rfl rfl ⟨fun hc => ?_, fun hc => ?_⟩) <;> (fail_if_success (have q : (true = true) := hc)) <;> (fail_if_success (have q : (false = false) := hc)) <;> (repeat rw [List.length_map] at hc) <;> (try exact absd hc)) | refine AW_cond_nil rfl rfl (fun hc => ?_) ?_))
    refine AW_le (Le_mv 18 600) ?_
    refine AW_loopP (X := Nat × List UInt8) (fun x => x.1 ≤ k.length ∧ x.2.length ≤ 10 + 1500040 * x.1 ∧ x.2 ++ (k.drop x.1).flatMap pcB = knowB k)
      (fun x => mkSt [(4, .row 600 0), (19, pcsB k), (20, iC .i64 (k.length : Nat)), (21, iC .i64 (x.1 : Nat))] [(600, .row 5 1 (x.2.map byteP))]) (fun x => k.length - x.1) (0, [(k.length : Int)].flatMap numI) ⟨Nat.zero_le _, by simp; omega, by simp [knowB]⟩ ?_ ?_
    · exact le_auto
    · clear h0 hp0
      rintro ⟨i, acc⟩ ⟨h1, h2, h3⟩
      simp only at h1 h2 h3 ⊢
      by_cases hlt : i < k.length
      · obtain ⟨hr, hs⟩ := pcsOk_get hok hlt
        have hfi := hf _ (List.getElem_mem hlt)
        have hbl := pcB_len hr hs hfi
        have hrl := rgB_len hr
        have hsz := (rgR_iff _).1 hr
        have t1 := textB_len k[i].rg.lo (by omega)
        have t2 := textB_len k[i].rg.hi (by omega)
        have n0 := numI_one (n := 0) (by omega) (by omega)
        rw [List.drop_eq_getElem_cons hlt, List.flatMap_cons] at h3
        have c0 := kc_few k[i].set (hk.at hlt).1 hfi
        have c1 := varint_Text acc [k[i].rg.lo] (by simp; omega)
        clear hok hk hf
        by_cases ho : k[i].rg.op = true
        · have e : pcB k[i] = textB k[i].rg.lo ++ numI 1 ++ setB k[i].set := by unfold pcB rgB; rw [if_pos ho]
          have n1 := numI_one (n := 1) (by omega) (by omega)
          rw [e] at h3 hbl
          have c2 := kc_put (acc ++ [k[i].rg.lo].flatMap textB) [1] (by simp; omega) (ok_small (by omega) (by omega))
          have c4 := kc_set (acc ++ [k[i].rg.lo].flatMap textB ++ [(1 : Int)].flatMap numI) k[i].set (by simp; omega) hs hfi
          clear hs hfi hr
          (repeat' (first | refine AW_seq ?_ | refine AW_block ?_ | refine AW_skip ?_ | refine AW_exit ?_ | refine AW_ret ?_ | refine AW_region ?_ | refine AW_draw mixed0 ?_ | refine AL_nil ?_ | refine AD_nil (by kernel_rfl) ?_ | (refine AW_cl rfl rfl ⟨fun hc => ?_, fun hc => ?_⟩ <;> (repeat rw [List.length_map] at hc) <;> (try exact absd hc)) | ((first | apply AL_t rfl | apply AL_0 rfl | apply AD_t rfl | apply AD_0 rfl); focus (first | exact z_auto | exact c_A (c0) | exact c_A (c1) | exact c_A (c2) | exact c_A (c4) | fail)) | refine thenA_n ?_ | refine thenA_r ?_ | refine thenA_e ?_ | refine inB_n ?_ | refine inB_r ?_ | refine inB_hit ?_ | refine inB_miss rfl ?_ | ((first | refine AL_cl rfl rfl rfl ⟨fun hc => ?_, fun hc => ?_⟩ | refine AD_cl rfl rfl rfl ⟨fun hc => ?_, fun hc => ?_⟩) <;> (fail_if_success (have q : (true = true) := hc)) <;> (fail_if_success (have q : (false = false) := hc)) <;> (repeat rw [List.length_map] at hc) <;> (try exact absd hc)) | refine AW_cond_nil rfl rfl (fun hc => ?_) ?_))
          all_goals first | (exfalso; simp_all; done) | skip
          refine ⟨(i + 1, acc ++ [k[i].rg.lo].flatMap textB ++ [(1 : Int)].flatMap numI ++ setB k[i].set), ⟨by simp only; omega, by simp at hbl ⊢; omega, by rw [← h3]; simp⟩, by simp only; omega, Le_trans (Le_mv 52 600) ?_⟩
          exact le_auto
        · have e : pcB k[i] = textB k[i].rg.lo ++ (numI 0 ++ textB k[i].rg.hi) ++ setB k[i].set := by unfold pcB rgB; rw [if_neg ho]
          rw [e] at h3 hbl
          rw [Bool.not_eq_true] at ho
          have c2 := kc_put (acc ++ [k[i].rg.lo].flatMap textB) [0] (by simp; omega) (ok_small (by omega) (by omega))
          have c3 := varint_Text (acc ++ [k[i].rg.lo].flatMap textB ++ [(0 : Int)].flatMap numI) [k[i].rg.hi] (by simp; omega)
          have c4 := kc_set (acc ++ [k[i].rg.lo].flatMap textB ++ [(0 : Int)].flatMap numI ++ [k[i].rg.hi].flatMap textB) k[i].set (by simp; omega) hs hfi
          clear hs hfi hr
          (repeat' (first | refine AW_seq ?_ | refine AW_block ?_ | refine AW_skip ?_ | refine AW_exit ?_ | refine AW_ret ?_ | refine AW_region ?_ | refine AW_draw mixed0 ?_ | refine AL_nil ?_ | refine AD_nil (by kernel_rfl) ?_ | (refine AW_cl rfl rfl ⟨fun hc => ?_, fun hc => ?_⟩ <;> (repeat rw [List.length_map] at hc) <;> (try exact absd hc)) | ((first | apply AL_t rfl | apply AL_0 rfl | apply AD_t rfl | apply AD_0 rfl); focus (first | exact z_auto | exact c_A (c0) | exact c_A (c1) | exact c_A (c2) | exact c_A (c3) | exact c_A (c4) | fail)) | refine thenA_n ?_ | refine thenA_r ?_ | refine thenA_e ?_ | refine inB_n ?_ | refine inB_r ?_ | refine inB_hit ?_ | refine inB_miss rfl ?_ | ((first | refine AL_cl rfl rfl rfl ⟨fun hc => ?_, fun hc => ?_⟩ | refine AD_cl rfl rfl rfl ⟨fun hc => ?_, fun hc => ?_⟩) <;> (fail_if_success (have q : (true = true) := hc)) <;> (fail_if_success (have q : (false = false) := hc)) <;> (repeat rw [List.length_map] at hc) <;> (try exact absd hc)) | refine AW_cond_nil rfl rfl (fun hc => ?_) ?_))
          all_goals first | (exfalso; simp_all; done) | skip
          refine ⟨(i + 1, acc ++ [k[i].rg.lo].flatMap textB ++ [(0 : Int)].flatMap numI ++ [k[i].rg.hi].flatMap textB ++ setB k[i].set), ⟨by simp only; omega, by simp at hbl ⊢; omega, by rw [← h3]; simp⟩, by simp only; omega, Le_trans (Le_mv 52 600) ?_⟩
          exact le_auto
      · rw [List.drop_of_length_le (by omega), List.flatMap_nil, List.append_nil] at h3
        (repeat' (first | refine AW_seq ?_ | refine AW_block ?_ | refine AW_skip ?_ | refine AW_exit ?_ | refine AW_ret ?_ | refine AW_region ?_ | refine AW_draw mixed0 ?_ | refine AL_nil ?_ | refine AD_nil (by kernel_rfl) ?_ | (refine AW_cl rfl rfl ⟨fun hc => ?_, fun hc => ?_⟩ <;> (repeat rw [List.length_map] at hc) <;> (try exact absd hc)) | ((first | apply AL_t rfl | apply AL_0 rfl | apply AD_t rfl | apply AD_0 rfl); focus (first | exact z_auto | fail)) | refine thenA_n ?_ | refine thenA_r ?_ | refine thenA_e ?_ | refine inB_n ?_ | refine inB_r ?_ | refine inB_hit ?_ | refine inB_miss rfl ?_ | ((first | refine AL_cl rfl rfl rfl ⟨fun hc => ?_, fun hc => ?_⟩ | refine AD_cl rfl rfl rfl ⟨fun hc => ?_, fun hc => ?_⟩) <;> (fail_if_success (have q : (true = true) := hc)) <;> (fail_if_success (have q : (false = false) := hc)) <;> (repeat rw [List.length_map] at hc) <;> (try exact absd hc)) | refine AW_cond_nil rfl rfl (fun hc => ?_) ?_))
        (refine ⟨(by first | exact .inl rfl | exact .inr rfl), res2 rfl ?_ ?_⟩)
        · exact rv_ownM rfl rfl rfl h3
        · exact rv_int rfl rfl
theorem rkc_Know (k : List Pc) (hf : fewK k) (hl : k.length ≤ 4096) (hok : pcsOk k) : Fn Try.prog 48 [pcsB k] (ownB (knowB k)) := by
  have hp0 := ref_Bytes (k.length : Int) (by unfold okNum; omega)
  have hn0 := numI_len (k.length : Int) (by omega)
  refine fn_intro Try.func48 rfl (by kernel_rfl) Try.ntmps48 (Nat.le_of_ble_eq_true rfl) ?_
  (repeat' (first | refine AW_seq ?_ | refine AW_block ?_ | refine AW_skip ?_ | refine AW_exit ?_ | refine AW_ret ?_ | refine AW_region ?_ | refine AW_draw mixed0 ?_ | refine AL_nil ?_ | refine AD_nil (by kernel_rfl) ?_ | (refine AW_cl rfl rfl ⟨fun hc => ?_, fun hc => ?_⟩ <;> (repeat rw [List.length_map] at hc) <;> (try exact absd hc)) | ((first | apply AL_t rfl | apply AL_0 rfl | apply AD_t rfl | apply AD_0 rfl); focus (first | exact z_auto | exact c_A (hp0) | fail)) | refine thenA_n ?_ | refine thenA_r ?_ | refine thenA_e ?_ | refine inB_n ?_ | refine inB_r ?_ | refine inB_hit ?_ | refine inB_miss rfl ?_ | ((first | refine AL_cl rfl rfl rfl ⟨fun hc => ?_, fun hc => ?_⟩ | refine AD_cl rfl rfl rfl ⟨fun hc => ?_, fun hc => ?_⟩) <;> (fail_if_success (have q : (true = true) := hc)) <;> (fail_if_success (have q : (false = false) := hc)) <;> (repeat rw [List.length_map] at hc) <;> (try exact absd hc)) | refine AW_cond_nil rfl rfl (fun hc => ?_) ?_))
  refine AW_le (Le_mv 8 600) ?_
  refine AW_loopP (X := Nat × List UInt8) (fun x => x.1 ≤ k.length ∧ x.2.length ≤ 10 + 1500040 * x.1 ∧ x.2 ++ (k.drop x.1).flatMap pcB = knowB k)
    (fun x => mkSt [(0, pcsB k), (3, .row 600 0), (4, iC .i64 (x.1 : Nat))] [(600, .row 5 1 (x.2.map byteP))]) (fun x => k.length - x.1) (0, numI (k.length : Int)) ⟨Nat.zero_le _, by simp only; omega, by simp [knowB]⟩ ?_ ?_
  · exact le_auto
  · clear hp0
    rintro ⟨i, acc⟩ ⟨h1, h2, h3⟩
    simp only at h1 h2 h3 ⊢
    by_cases hlt : i < k.length
    · obtain ⟨hr, hs⟩ := pcsOk_get hok hlt
      have hfi := hf _ (List.getElem_mem hlt)
      have hbl := pcB_len hr hs hfi
      have hrl := rgB_len hr
      have hsz := (rgR_iff _).1 hr
      have t1 := textB_len k[i].rg.lo (by omega)
      have t2 := textB_len k[i].rg.hi (by omega)
      have n0 := numI_one (n := 0) (by omega) (by omega)
      have n1 := numI_one (n := 1) (by omega) (by omega)
      rw [List.drop_eq_getElem_cons hlt, List.flatMap_cons] at h3
      have c1 := ref_Text k[i].rg.lo (by omega)
      have c2 := ref_Text k[i].rg.hi (by omega)
      have c4 := rkc_Set k[i].set hs hfi
      have hsl := setB_len hs hfi
      clear hok hf hs hfi hr
      by_cases ho : k[i].rg.op = true
      · have e : pcB k[i] = textB k[i].rg.lo ++ numI 1 ++ setB k[i].set := by unfold pcB rgB; rw [if_pos ho]
        rw [e] at h3 hbl
        (repeat' (first | refine AW_seq ?_ | refine AW_block ?_ | refine AW_skip ?_ | refine AW_exit ?_ | refine AW_ret ?_ | refine AW_region ?_ | refine AW_draw mixed0 ?_ | refine AL_nil ?_ | refine AD_nil (by kernel_rfl) ?_ | (refine AW_cl rfl rfl ⟨fun hc => ?_, fun hc => ?_⟩ <;> (repeat rw [List.length_map] at hc) <;> (try exact absd hc)) | ((first | apply AL_t rfl | apply AL_0 rfl | apply AD_t rfl | apply AD_0 rfl); focus (first | exact z_auto | ((refine c_O (c1) (hg := ?_); ((repeat (first | exact GL.nil | (refine GL.cons ?_ ?_; focus (first | exact gl_per rfl | exact gl_lst rfl | exact gl_row rfl rfl rfl | exact gl_bor rfl | exact gl_nil rfl | exact gl_nil' rfl)))); done))) | (apply u_g; (focus rfl); apply op_gyes rfl rfl rfl rfl rfl; ((refine c_O (c1) (hg := ?_); ((repeat (first | exact GL.nil | (refine GL.cons ?_ ?_; focus (first | exact gl_per rfl | exact gl_lst rfl | exact gl_row rfl rfl rfl | exact gl_bor rfl | exact gl_nil rfl | exact gl_nil' rfl)))); done)))) | ((refine c_O (c2) (hg := ?_); ((repeat (first | exact GL.nil | (refine GL.cons ?_ ?_; focus (first | exact gl_per rfl | exact gl_lst rfl | exact gl_row rfl rfl rfl | exact gl_bor rfl | exact gl_nil rfl | exact gl_nil' rfl)))); done))) | (apply u_g; (focus rfl); apply op_gyes rfl rfl rfl rfl rfl; ((refine c_O (c2) (hg := ?_); ((repeat (first | exact GL.nil | (refine GL.cons ?_ ?_; focus (first | exact gl_per rfl | exact gl_lst rfl | exact gl_row rfl rfl rfl | exact gl_bor rfl | exact gl_nil rfl | exact gl_nil' rfl)))); done)))) | exact c_A (c4) | ((apply u_k 5; (focus rfl); first | exact u_load_bpT ⟨rfl, rfl, rfl⟩ rfl inferInstance inferInstance rfl rfl rfl rfl | exact u_load_rpT ⟨rfl, rfl, rfl⟩ rfl inferInstance inferInstance rfl rfl rfl rfl)) | (apply u_g; (focus rfl); apply op_gyes rfl rfl rfl rfl rfl; ((apply u_k 5; (focus rfl); first | exact u_load_bpT ⟨rfl, rfl, rfl⟩ rfl inferInstance inferInstance rfl rfl rfl rfl | exact u_load_rpT ⟨rfl, rfl, rfl⟩ rfl inferInstance inferInstance rfl rfl rfl rfl))) | fail)) | refine thenA_n ?_ | refine thenA_r ?_ | refine thenA_e ?_ | refine inB_n ?_ | refine inB_r ?_ | refine inB_hit ?_ | refine inB_miss rfl ?_ | ((first | refine AL_cl rfl rfl rfl ⟨fun hc => ?_, fun hc => ?_⟩ | refine AD_cl rfl rfl rfl ⟨fun hc => ?_, fun hc => ?_⟩) <;> (fail_if_success (have q : (true = true) := hc)) <;> (fail_if_success (have q : (false = false) := hc)) <;> (repeat rw [List.length_map] at hc) <;> (try exact absd hc)) | refine AW_cond_nil rfl rfl (fun hc => ?_) ?_))
        all_goals first | (exfalso; simp_all; done) | skip
        refine ⟨(i + 1, acc ++ textB k[i].rg.lo ++ numI 1 ++ setB k[i].set), ⟨by simp only; omega, by simp at hbl ⊢; omega, by rw [← h3]; simp⟩, by simp only; omega, ?_⟩
        (refine Le_mk ?_ ?_; (focus ((repeat (first | exact AllG.nil | (refine AllG.cons ?_ ?_; rotate_left))); (all_goals try (first | rfl | (refine eqI ?_; first | omega | (simp; done) | (simp; omega)) | (refine eqBo ?_; first | (simp; done) | (simp [*]; done)))))); (focus ((repeat (first | exact AllB.nil | (refine AllB.cons ?_ ?_; rotate_left))); (all_goals try (first | rfl | (refine eqRw ?_; (rw [List.map_append] <;> rfl); done) | (refine eqMix ?_; (rw [List.map_append] <;> rfl); done))))))
        show Blk.row _ _ (((acc.map byteP ++ _) ++ [[rawP (.int .u8 1)]]) ++ _) = _
        rw [← numI_1, ← List.map_append, ← List.map_append, ← List.map_append]
      · have e : pcB k[i] = textB k[i].rg.lo ++ (numI 0 ++ textB k[i].rg.hi) ++ setB k[i].set := by unfold pcB rgB; rw [if_neg ho]
        rw [e] at h3 hbl
        rw [Bool.not_eq_true] at ho
        (repeat' (first | refine AW_seq ?_ | refine AW_block ?_ | refine AW_skip ?_ | refine AW_exit ?_ | refine AW_ret ?_ | refine AW_region ?_ | refine AW_draw mixed0 ?_ | refine AL_nil ?_ | refine AD_nil (by kernel_rfl) ?_ | (refine AW_cl rfl rfl ⟨fun hc => ?_, fun hc => ?_⟩ <;> (repeat rw [List.length_map] at hc) <;> (try exact absd hc)) | ((first | apply AL_t rfl | apply AL_0 rfl | apply AD_t rfl | apply AD_0 rfl); focus (first | exact z_auto | ((refine c_O (c1) (hg := ?_); ((repeat (first | exact GL.nil | (refine GL.cons ?_ ?_; focus (first | exact gl_per rfl | exact gl_lst rfl | exact gl_row rfl rfl rfl | exact gl_bor rfl | exact gl_nil rfl | exact gl_nil' rfl)))); done))) | (apply u_g; (focus rfl); apply op_gyes rfl rfl rfl rfl rfl; ((refine c_O (c1) (hg := ?_); ((repeat (first | exact GL.nil | (refine GL.cons ?_ ?_; focus (first | exact gl_per rfl | exact gl_lst rfl | exact gl_row rfl rfl rfl | exact gl_bor rfl | exact gl_nil rfl | exact gl_nil' rfl)))); done)))) | ((refine c_O (c2) (hg := ?_); ((repeat (first | exact GL.nil | (refine GL.cons ?_ ?_; focus (first | exact gl_per rfl | exact gl_lst rfl | exact gl_row rfl rfl rfl | exact gl_bor rfl | exact gl_nil rfl | exact gl_nil' rfl)))); done))) | (apply u_g; (focus rfl); apply op_gyes rfl rfl rfl rfl rfl; ((refine c_O (c2) (hg := ?_); ((repeat (first | exact GL.nil | (refine GL.cons ?_ ?_; focus (first | exact gl_per rfl | exact gl_lst rfl | exact gl_row rfl rfl rfl | exact gl_bor rfl | exact gl_nil rfl | exact gl_nil' rfl)))); done)))) | exact c_A (c4) | ((apply u_k 5; (focus rfl); first | exact u_load_bpT ⟨rfl, rfl, rfl⟩ rfl inferInstance inferInstance rfl rfl rfl rfl | exact u_load_rpT ⟨rfl, rfl, rfl⟩ rfl inferInstance inferInstance rfl rfl rfl rfl)) | (apply u_g; (focus rfl); apply op_gyes rfl rfl rfl rfl rfl; ((apply u_k 5; (focus rfl); first | exact u_load_bpT ⟨rfl, rfl, rfl⟩ rfl inferInstance inferInstance rfl rfl rfl rfl | exact u_load_rpT ⟨rfl, rfl, rfl⟩ rfl inferInstance inferInstance rfl rfl rfl rfl))) | fail)) | refine thenA_n ?_ | refine thenA_r ?_ | refine thenA_e ?_ | refine inB_n ?_ | refine inB_r ?_ | refine inB_hit ?_ | refine inB_miss rfl ?_ | ((first | refine AL_cl rfl rfl rfl ⟨fun hc => ?_, fun hc => ?_⟩ | refine AD_cl rfl rfl rfl ⟨fun hc => ?_, fun hc => ?_⟩) <;> (fail_if_success (have q : (true = true) := hc)) <;> (fail_if_success (have q : (false = false) := hc)) <;> (repeat rw [List.length_map] at hc) <;> (try exact absd hc)) | refine AW_cond_nil rfl rfl (fun hc => ?_) ?_))
        all_goals first | (exfalso; simp_all; done) | skip
        refine ⟨(i + 1, acc ++ textB k[i].rg.lo ++ numI 0 ++ textB k[i].rg.hi ++ setB k[i].set), ⟨by simp only; omega, by simp at hbl ⊢; omega, by rw [← h3]; simp⟩, by simp only; omega, ?_⟩
        (refine Le_mk ?_ ?_; (focus ((repeat (first | exact AllG.nil | (refine AllG.cons ?_ ?_; rotate_left))); (all_goals try (first | rfl | (refine eqI ?_; first | omega | (simp; done) | (simp; omega)) | (refine eqBo ?_; first | (simp; done) | (simp [*]; done)))))); (focus ((repeat (first | exact AllB.nil | (refine AllB.cons ?_ ?_; rotate_left))); (all_goals try (first | rfl | (refine eqRw ?_; (rw [List.map_append] <;> rfl); done) | (refine eqMix ?_; (rw [List.map_append] <;> rfl); done))))))
        show Blk.row _ _ ((((acc.map byteP ++ _) ++ [[rawP (.int .u8 0)]]) ++ _) ++ _) = _
        rw [← numI_0, ← List.map_append, ← List.map_append, ← List.map_append, ← List.map_append]
    · rw [List.drop_of_length_le (by omega), List.flatMap_nil, List.append_nil] at h3
      (repeat' (first | refine AW_seq ?_ | refine AW_block ?_ | refine AW_skip ?_ | refine AW_exit ?_ | refine AW_ret ?_ | refine AW_region ?_ | refine AW_draw mixed0 ?_ | refine AL_nil ?_ | refine AD_nil (by kernel_rfl) ?_ | (refine AW_cl rfl rfl ⟨fun hc => ?_, fun hc => ?_⟩ <;> (repeat rw [List.length_map] at hc) <;> (try exact absd hc)) | ((first | apply AL_t rfl | apply AL_0 rfl | apply AD_t rfl | apply AD_0 rfl); focus (first | exact z_auto | fail)) | refine thenA_n ?_ | refine thenA_r ?_ | refine thenA_e ?_ | refine inB_n ?_ | refine inB_r ?_ | refine inB_hit ?_ | refine inB_miss rfl ?_ | ((first | refine AL_cl rfl rfl rfl ⟨fun hc => ?_, fun hc => ?_⟩ | refine AD_cl rfl rfl rfl ⟨fun hc => ?_, fun hc => ?_⟩) <;> (fail_if_success (have q : (true = true) := hc)) <;> (fail_if_success (have q : (false = false) := hc)) <;> (repeat rw [List.length_map] at hc) <;> (try exact absd hc)) | refine AW_cond_nil rfl rfl (fun hc => ?_) ?_))
      (refine ⟨(by first | exact .inl rfl | exact .inr rfl), res1 rfl ?_⟩)
      exact rv_ownM rfl rfl rfl h3
theorem kc_piece (l : List UInt8) (e : Int) : FnM Try.prog 100 [.aggK rdC .aggN] [(1000, rdBox l e)] (pcC (pcSt l e).1) [(1000, rdBox (pcSt l e).2.1 (pcSt l e).2.2)] := by
  dsimp only [pcSt, rgSt]
  have h1 := r_Text l e 17
  generalize textSt 17 l e = t at *
  have h2 := r_Bool t.2.1 t.2.2
  generalize withinSt 0 1 t.2.1 t.2.2 = o at *
  by_cases ho : (o.1 == 1) = true
  · rw [if_pos ho]
    rw [ho] at h2
    dsimp only
    have h4 := (kc_rset o.2.1 o.2.2).frz3
    generalize lisSt knSt 16 o.2.1 o.2.2 = s at *
    refine fnm_intro Try.func100 rfl (by kernel_rfl) Try.ntmps100 (Nat.le_of_ble_eq_true rfl) ?_
    (repeat' (first | refine AW_seq ?_ | refine AW_block ?_ | refine AW_skip ?_ | refine AW_exit ?_ | refine AW_ret ?_ | refine AW_region ?_ | refine AW_draw mixed0 ?_ | refine AL_nil ?_ | refine AD_nil (by kernel_rfl) ?_ | (refine AW_cl rfl rfl ⟨fun hc => ?_, fun hc => ?_⟩ <;> (repeat rw [List.length_map] at hc) <;> (try exact absd hc)) | ((first | apply AL_t rfl | apply AL_0 rfl | apply AD_t rfl | apply AD_0 rfl); focus (first | exact z_auto | exact c_RA (h1) | exact c_RA (h2) | exact c_MA [(1000, 1000)] (h4) | fail)) | refine thenA_n ?_ | refine thenA_r ?_ | refine thenA_e ?_ | refine inB_n ?_ | refine inB_r ?_ | refine inB_hit ?_ | refine inB_miss rfl ?_ | ((first | refine AL_cl rfl rfl rfl ⟨fun hc => ?_, fun hc => ?_⟩ | refine AD_cl rfl rfl rfl ⟨fun hc => ?_, fun hc => ?_⟩) <;> (fail_if_success (have q : (true = true) := hc)) <;> (fail_if_success (have q : (false = false) := hc)) <;> (repeat rw [List.length_map] at hc) <;> (try exact absd hc)) | refine AW_cond_nil rfl rfl (fun hc => ?_) ?_))
    (refine ⟨(by first | exact .inl rfl | exact .inr rfl), resM1 [(1000, 1000)] rfl rfl ?_ ?_⟩; (focus (repeat (first | exact AllX.nil | (refine AllX.cons rfl ?_ ?_; (focus first | rfl | skip))))))
    exact rvm_cellA inferInstance inferInstance rfl rfl rfl rfl rfl rfl
  · rw [if_neg ho]
    rw [show (o.1 == 1) = false by simpa using ho] at h2
    dsimp only
    have h3 := r_Text o.2.1 o.2.2 17
    generalize textSt 17 o.2.1 o.2.2 = h at *
    have h4 := (kc_rset h.2.1 h.2.2).frz3
    generalize lisSt knSt 16 h.2.1 h.2.2 = s at *
    refine fnm_intro Try.func100 rfl (by kernel_rfl) Try.ntmps100 (Nat.le_of_ble_eq_true rfl) ?_
    (repeat' (first | refine AW_seq ?_ | refine AW_block ?_ | refine AW_skip ?_ | refine AW_exit ?_ | refine AW_ret ?_ | refine AW_region ?_ | refine AW_draw mixed0 ?_ | refine AL_nil ?_ | refine AD_nil (by kernel_rfl) ?_ | (refine AW_cl rfl rfl ⟨fun hc => ?_, fun hc => ?_⟩ <;> (repeat rw [List.length_map] at hc) <;> (try exact absd hc)) | ((first | apply AL_t rfl | apply AL_0 rfl | apply AD_t rfl | apply AD_0 rfl); focus (first | exact z_auto | exact c_RA (h1) | exact c_RA (h2) | exact c_RA (h3) | exact c_MA [(1000, 1000)] (h4) | fail)) | refine thenA_n ?_ | refine thenA_r ?_ | refine thenA_e ?_ | refine inB_n ?_ | refine inB_r ?_ | refine inB_hit ?_ | refine inB_miss rfl ?_ | ((first | refine AL_cl rfl rfl rfl ⟨fun hc => ?_, fun hc => ?_⟩ | refine AD_cl rfl rfl rfl ⟨fun hc => ?_, fun hc => ?_⟩) <;> (fail_if_success (have q : (true = true) := hc)) <;> (fail_if_success (have q : (false = false) := hc)) <;> (repeat rw [List.length_map] at hc) <;> (try exact absd hc)) | refine AW_cond_nil rfl rfl (fun hc => ?_) ?_))
    (refine ⟨(by first | exact .inl rfl | exact .inr rfl), resM1 [(1000, 1000)] rfl rfl ?_ ?_⟩; (focus (repeat (first | exact AllX.nil | (refine AllX.cons rfl ?_ ?_; (focus first | rfl | skip))))))
    exact rvm_cellA inferInstance inferInstance rfl rfl rfl rfl rfl rfl
end
end Go.Proofs.Ytbpmafpmlapekaa
