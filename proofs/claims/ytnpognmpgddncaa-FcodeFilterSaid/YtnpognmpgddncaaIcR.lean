/- Items read of bytes: the program's way and the references', by abstract walks. -/
import Derived.Test.YtnpognmpgddncaaRd
import Derived.Test.YtnpognmpgddncaaIc
namespace Go.Proofs.Ytnpognmpgddncaa
open Go.RowKit
/-- all but the key, read; what is left, and the first error -/
def restSt (k : ByteArray) (l : List UInt8) (e : Int) : It × List UInt8 × Int :=
  let a := withinSt 1 16 l e
  let b := withinSt 1 1099511627776 a.2.1 a.2.2
  let c := withinSt 1 1099511627776 b.2.1 b.2.2
  let d := withinSt 0 255 c.2.1 c.2.2
  let f := withinSt 0 1 d.2.1 d.2.2
  let g := textSt 64 f.2.1 f.2.2
  (⟨k, a.1, b.1, c.1, d.1, f.1 == 1, ⟨g.1.toArray⟩⟩, g.2.1, g.2.2)
section
set_option maxRecDepth 10000
set_option maxHeartbeats 4000000
theorem ic_rest (k : ByteArray) (l : List UInt8) (e : Int) : FnM Try.prog 78 [.aggK rdC .aggN, sC k] [(1000, rdBox l e)] (itC (restSt k l e).1) [(1000, rdBox (restSt k l e).2.1 (restSt k l e).2.2)] := by
  dsimp only [restSt]
  have h1 := r_Within l e 1 16
  generalize withinSt 1 16 l e = a at *
  have h2 := r_Within a.2.1 a.2.2 1 1099511627776
  generalize withinSt 1 1099511627776 a.2.1 a.2.2 = b at *
  have h3 := r_Within b.2.1 b.2.2 1 1099511627776
  generalize withinSt 1 1099511627776 b.2.1 b.2.2 = c at *
  have h4 := r_Within c.2.1 c.2.2 0 255
  generalize withinSt 0 255 c.2.1 c.2.2 = d at *
  have h5 := r_Bool d.2.1 d.2.2
  generalize withinSt 0 1 d.2.1 d.2.2 = f at *
  have h6 := r_Text f.2.1 f.2.2 64
  generalize textSt 64 f.2.1 f.2.2 = g at *
  refine fnm_intro Try.func78 rfl (by kernel_rfl) Try.ntmps78 (Nat.le_of_ble_eq_true rfl) ?_
  (repeat' (first | refine AW_seq ?_ | refine AW_block ?_ | (refine AW_skip ?_; (repeat (first | refine thenA_n ?_ | refine thenA_r ?_ | refine thenA_e ?_ | refine inB_n ?_ | refine inB_r ?_ | refine inB_hit ?_ | refine inB_miss rfl ?_))) | (refine AW_exit ?_; (repeat (first | refine thenA_n ?_ | refine thenA_r ?_ | refine thenA_e ?_ | refine inB_n ?_ | refine inB_r ?_ | refine inB_hit ?_ | refine inB_miss rfl ?_))) | (refine AW_ret ?_; (repeat (first | refine thenA_n ?_ | refine thenA_r ?_ | refine thenA_e ?_ | refine inB_n ?_ | refine inB_r ?_ | refine inB_hit ?_ | refine inB_miss rfl ?_))) | refine AW_region ?_ | refine AW_draw mixed0 ?_ | (refine AL_nil ?_; (repeat (first | refine thenA_n ?_ | refine thenA_r ?_ | refine thenA_e ?_ | refine inB_n ?_ | refine inB_r ?_ | refine inB_hit ?_ | refine inB_miss rfl ?_))) | (refine AD_nil (by kernel_rfl) ?_; (repeat (first | refine thenA_n ?_ | refine thenA_r ?_ | refine thenA_e ?_ | refine inB_n ?_ | refine inB_r ?_ | refine inB_hit ?_ | refine inB_miss rfl ?_))) | (refine AW_cond_per rfl rfl (fun hc => ?_) (fun hc => ?_) <;> ((try rw [Bool.not_eq_true'] at hc) <;> (try rw [Bool.not_eq_false'] at hc) <;> (try first | rw [decide_eq_true_eq] at hc | rw [decide_eq_false_iff_not] at hc | rw [beq_iff_eq] at hc | rw [beq_eq_false_iff_ne] at hc | rw [bne_iff_ne] at hc | rw [bne_eq_false_iff_eq] at hc) <;> (repeat rw [List.length_map] at hc) <;> (try first | contradiction | (exfalso; omega) | (exfalso; simp [*] at hc; done)))) | ((first | apply AL_t rfl | apply AL_0 rfl | apply AD_t rfl | apply AD_0 rfl); focus (first | exact z_auto | (apply u_g; (focus rfl); apply op_gyes rfl rfl rfl rfl rfl; (first | exact c_R (h1) | exact c_R (h2) | exact c_R (h3) | exact c_R (h4) | exact c_R (h5) | exact c_R (h6) | fail)) | exact c_R (h1) | exact c_R (h2) | exact c_R (h3) | exact c_R (h4) | exact c_R (h5) | exact c_R (h6) | fail)) | ((first | apply AL_gsplit rfl rfl rfl | apply AD_gsplit rfl rfl rfl) <;> (intro hc) <;> (fail_if_success (have q : (true = true) := hc)) <;> (fail_if_success (have q : (false = false) := hc)) <;> ((try rw [Bool.not_eq_true'] at hc) <;> (try rw [Bool.not_eq_false'] at hc) <;> (try first | rw [decide_eq_true_eq] at hc | rw [decide_eq_false_iff_not] at hc | rw [beq_iff_eq] at hc | rw [beq_eq_false_iff_ne] at hc | rw [bne_iff_ne] at hc | rw [bne_eq_false_iff_eq] at hc) <;> (repeat rw [List.length_map] at hc) <;> (try first | contradiction | (exfalso; omega) | (exfalso; simp [*] at hc; done))))))
  (refine ⟨(by first | exact .inl rfl | exact .inr rfl), resM1 [(1000, 1000)] rfl rfl ?_ ?_⟩; (focus (repeat (first | exact AllX.nil | (refine AllX.cons rfl ?_ ?_; (focus first | rfl | skip))))))
  exact rvm_cellA inferInstance inferInstance rfl rfl rfl rfl rfl rfl
theorem restSt_suf (k : ByteArray) (l : List UInt8) (e : Int) : (restSt k l e).2.1 <:+ l := by
  dsimp only [restSt]
  exact (textSt_suf _ _ _).trans ((withinSt_suf _ _ _ _).trans ((withinSt_suf _ _ _ _).trans ((withinSt_suf _ _ _ _).trans ((withinSt_suf _ _ _ _).trans (withinSt_suf _ _ _ _)))))
theorem ref_more (k : ByteArray) (b l : List UInt8) (e : Int) (hs : l <:+ b) (hb : b.length ≤ 1000000000000) : FnM Try.prog 91 [rdC, sC k] [(1000, rrBox b l e)] (itC (restSt k l e).1) [(1000, rrBox b (restSt k l e).2.1 (restSt k l e).2.2)] := by
  dsimp only [restSt]
  have h1 := rr_Within b l e hs hb 1 16
  replace hs := (withinSt_suf 1 16 l e).trans hs
  generalize withinSt 1 16 l e = a at *
  have h2 := rr_Within b a.2.1 a.2.2 hs hb 1 1099511627776
  replace hs := (withinSt_suf 1 1099511627776 a.2.1 a.2.2).trans hs
  generalize withinSt 1 1099511627776 a.2.1 a.2.2 = b2 at *
  have h3 := rr_Within b b2.2.1 b2.2.2 hs hb 1 1099511627776
  replace hs := (withinSt_suf 1 1099511627776 b2.2.1 b2.2.2).trans hs
  generalize withinSt 1 1099511627776 b2.2.1 b2.2.2 = c at *
  have h4 := rr_Within b c.2.1 c.2.2 hs hb 0 255
  replace hs := (withinSt_suf 0 255 c.2.1 c.2.2).trans hs
  generalize withinSt 0 255 c.2.1 c.2.2 = d at *
  have h5 := rr_Within b d.2.1 d.2.2 hs hb 0 1
  replace hs := (withinSt_suf 0 1 d.2.1 d.2.2).trans hs
  generalize withinSt 0 1 d.2.1 d.2.2 = f at *
  have h6 := rr_Text b f.2.1 f.2.2 hs hb 64
  generalize textSt 64 f.2.1 f.2.2 = g at *
  refine fnm_intro Try.func91 rfl (by kernel_rfl) Try.ntmps91 (Nat.le_of_ble_eq_true rfl) ?_
  (repeat' (first | refine AW_seq ?_ | refine AW_block ?_ | (refine AW_skip ?_; (repeat (first | refine thenA_n ?_ | refine thenA_r ?_ | refine thenA_e ?_ | refine inB_n ?_ | refine inB_r ?_ | refine inB_hit ?_ | refine inB_miss rfl ?_))) | (refine AW_exit ?_; (repeat (first | refine thenA_n ?_ | refine thenA_r ?_ | refine thenA_e ?_ | refine inB_n ?_ | refine inB_r ?_ | refine inB_hit ?_ | refine inB_miss rfl ?_))) | (refine AW_ret ?_; (repeat (first | refine thenA_n ?_ | refine thenA_r ?_ | refine thenA_e ?_ | refine inB_n ?_ | refine inB_r ?_ | refine inB_hit ?_ | refine inB_miss rfl ?_))) | refine AW_region ?_ | refine AW_draw mixed0 ?_ | (refine AL_nil ?_; (repeat (first | refine thenA_n ?_ | refine thenA_r ?_ | refine thenA_e ?_ | refine inB_n ?_ | refine inB_r ?_ | refine inB_hit ?_ | refine inB_miss rfl ?_))) | (refine AD_nil (by kernel_rfl) ?_; (repeat (first | refine thenA_n ?_ | refine thenA_r ?_ | refine thenA_e ?_ | refine inB_n ?_ | refine inB_r ?_ | refine inB_hit ?_ | refine inB_miss rfl ?_))) | (refine AW_cond_per rfl rfl (fun hc => ?_) (fun hc => ?_) <;> ((try rw [Bool.not_eq_true'] at hc) <;> (try rw [Bool.not_eq_false'] at hc) <;> (try first | rw [decide_eq_true_eq] at hc | rw [decide_eq_false_iff_not] at hc | rw [beq_iff_eq] at hc | rw [beq_eq_false_iff_ne] at hc | rw [bne_iff_ne] at hc | rw [bne_eq_false_iff_eq] at hc) <;> (repeat rw [List.length_map] at hc) <;> (try first | contradiction | (exfalso; omega) | (exfalso; simp [*] at hc; done)))) | ((first | apply AL_t rfl | apply AL_0 rfl | apply AD_t rfl | apply AD_0 rfl); focus (first | exact z_auto | (apply u_g; (focus rfl); apply op_gyes rfl rfl rfl rfl rfl; (first | exact c_R (h1) | exact c_R (h2) | exact c_R (h3) | exact c_R (h4) | exact c_R (h5) | exact c_R (h6) | fail)) | exact c_R (h1) | exact c_R (h2) | exact c_R (h3) | exact c_R (h4) | exact c_R (h5) | exact c_R (h6) | fail)) | ((first | apply AL_gsplit rfl rfl rfl | apply AD_gsplit rfl rfl rfl) <;> (intro hc) <;> (fail_if_success (have q : (true = true) := hc)) <;> (fail_if_success (have q : (false = false) := hc)) <;> ((try rw [Bool.not_eq_true'] at hc) <;> (try rw [Bool.not_eq_false'] at hc) <;> (try first | rw [decide_eq_true_eq] at hc | rw [decide_eq_false_iff_not] at hc | rw [beq_iff_eq] at hc | rw [beq_eq_false_iff_ne] at hc | rw [bne_iff_ne] at hc | rw [bne_eq_false_iff_eq] at hc) <;> (repeat rw [List.length_map] at hc) <;> (try first | contradiction | (exfalso; omega) | (exfalso; simp [*] at hc; done))))))
  (refine ⟨(by first | exact .inl rfl | exact .inr rfl), resM1 [(1000, 1000)] rfl rfl ?_ ?_⟩; (focus (repeat (first | exact AllX.nil | (refine AllX.cons rfl ?_ ?_; (focus first | rfl | skip))))))
  exact rvm_cellA inferInstance inferInstance rfl rfl rfl rfl rfl rfl
/-- an item read of bytes: it, or the zero one, and what is wrong -/
def it0 : It := ⟨⟨#[]⟩, 0, 0, 0, 0, false, ⟨#[]⟩⟩
def rdItem (b : List UInt8) : It × Int :=
  let t := textSt 16 b 0
  let x := restSt ⟨t.1.toArray⟩ t.2.1 t.2.2
  let e := endSt x.2.1 x.2.2
  if e ≠ 0 then (it0, e) else if itR x.1 = false then (it0, 11) else (x.1, 0)
theorem ic_ReadItem (b : List UInt8) (hb : b.length ≤ 1000000000) : Fn Try.prog 20 [bytesB b] (.tup2 (.per (aggP (itP (rdItem b).1))) (inR (rdItem b).2)) := by
  have h1 := r_Text b 0 16
  generalize hQ : rdItem b = Q at *
  dsimp only [rdItem] at hQ
  generalize textSt 16 b 0 = t at *
  have h2 := ic_rest ⟨t.1.toArray⟩ t.2.1 t.2.2
  generalize restSt ⟨t.1.toArray⟩ t.2.1 t.2.2 = x at *
  have h3 := r_End x.2.1 x.2.2
  refine fn_intro Try.func20 rfl (by kernel_rfl) Try.ntmps20 (Nat.le_of_ble_eq_true rfl) ?_
  (repeat' (first | refine AW_seq ?_ | refine AW_block ?_ | (refine AW_skip ?_; (repeat (first | refine thenA_n ?_ | refine thenA_r ?_ | refine thenA_e ?_ | refine inB_n ?_ | refine inB_r ?_ | refine inB_hit ?_ | refine inB_miss rfl ?_))) | (refine AW_exit ?_; (repeat (first | refine thenA_n ?_ | refine thenA_r ?_ | refine thenA_e ?_ | refine inB_n ?_ | refine inB_r ?_ | refine inB_hit ?_ | refine inB_miss rfl ?_))) | (refine AW_ret ?_; (repeat (first | refine thenA_n ?_ | refine thenA_r ?_ | refine thenA_e ?_ | refine inB_n ?_ | refine inB_r ?_ | refine inB_hit ?_ | refine inB_miss rfl ?_))) | refine AW_region ?_ | refine AW_draw mixed0 ?_ | (refine AL_nil ?_; (repeat (first | refine thenA_n ?_ | refine thenA_r ?_ | refine thenA_e ?_ | refine inB_n ?_ | refine inB_r ?_ | refine inB_hit ?_ | refine inB_miss rfl ?_))) | (refine AD_nil (by kernel_rfl) ?_; (repeat (first | refine thenA_n ?_ | refine thenA_r ?_ | refine thenA_e ?_ | refine inB_n ?_ | refine inB_r ?_ | refine inB_hit ?_ | refine inB_miss rfl ?_))) | (refine AW_cond_per rfl rfl (fun hc => ?_) (fun hc => ?_) <;> ((try rw [Bool.not_eq_true'] at hc) <;> (try rw [Bool.not_eq_false'] at hc) <;> (try first | rw [decide_eq_true_eq] at hc | rw [decide_eq_false_iff_not] at hc | rw [beq_iff_eq] at hc | rw [beq_eq_false_iff_ne] at hc | rw [bne_iff_ne] at hc | rw [bne_eq_false_iff_eq] at hc) <;> (repeat rw [List.length_map] at hc) <;> (try first | contradiction | (exfalso; omega) | (exfalso; simp [*] at hc; done)))) | ((first | apply AL_t rfl | apply AL_0 rfl | apply AD_t rfl | apply AD_0 rfl); focus (first | exact z_auto | (apply u_g; (focus rfl); apply op_gyes rfl rfl rfl rfl rfl; (first | exact c_N (v_New b hb) | exact c_R (h1) | exact c_R (h3) | exact c_F (item_Right _) | exact c_O (item_Right _) | exact c_O2 (item_Right _) | exact c_M [(1000, 8)] (h2) | fail)) | exact c_N (v_New b hb) | exact c_R (h1) | exact c_R (h3) | exact c_F (item_Right _) | exact c_O (item_Right _) | exact c_O2 (item_Right _) | exact c_M [(1000, 8)] (h2) | fail)) | ((first | apply AL_gsplit rfl rfl rfl | apply AD_gsplit rfl rfl rfl) <;> (intro hc) <;> (fail_if_success (have q : (true = true) := hc)) <;> (fail_if_success (have q : (false = false) := hc)) <;> ((try rw [Bool.not_eq_true'] at hc) <;> (try rw [Bool.not_eq_false'] at hc) <;> (try first | rw [decide_eq_true_eq] at hc | rw [decide_eq_false_iff_not] at hc | rw [beq_iff_eq] at hc | rw [beq_eq_false_iff_ne] at hc | rw [bne_iff_ne] at hc | rw [bne_eq_false_iff_eq] at hc) <;> (repeat rw [List.length_map] at hc) <;> (try first | contradiction | (exfalso; omega) | (exfalso; simp [*] at hc; done))))))
  · rw [if_pos (by assumption)] at hQ
    subst hQ
    (refine ⟨(by first | exact .inl rfl | exact .inr rfl), res2 rfl ?_ ?_⟩)
    · exact rv_cA inferInstance inferInstance rfl rfl rfl rfl rfl rfl
    · exact rv_int rfl rfl
  · rw [if_neg (by omega), if_pos (by assumption)] at hQ
    subst hQ
    (refine ⟨(by first | exact .inl rfl | exact .inr rfl), res2 rfl ?_ ?_⟩)
    · exact rv_cA inferInstance inferInstance rfl rfl rfl rfl rfl rfl
    · exact rv_int rfl rfl
  · rw [if_neg (by omega), if_neg (by simp [*])] at hQ
    subst hQ
    (refine ⟨(by first | exact .inl rfl | exact .inr rfl), res2 rfl ?_ ?_⟩)
    · exact rv_cA inferInstance inferInstance rfl rfl rfl rfl rfl rfl
    · exact rv_int rfl rfl
theorem ref_ReadItem (b : List UInt8) (hb : b.length ≤ 1000000000) : Fn Try.prog 31 [.per (bysP b)] (.tup2 (.per (aggP (itP (rdItem b).1))) (inR (rdItem b).2)) := by
  have hs : b <:+ b := List.suffix_refl b
  have hb' : b.length ≤ 1000000000000 := by omega
  have h1 := rr_Text b b 0 hs hb' 16
  replace hs := (textSt_suf 16 b 0).trans hs
  generalize hQ : rdItem b = Q at *
  dsimp only [rdItem] at hQ
  generalize textSt 16 b 0 = t at *
  have h2 := ref_more ⟨t.1.toArray⟩ b t.2.1 t.2.2 hs hb'
  replace hs := (restSt_suf ⟨t.1.toArray⟩ t.2.1 t.2.2).trans hs
  generalize restSt ⟨t.1.toArray⟩ t.2.1 t.2.2 = x at *
  have h3 := rr_End b x.2.1 x.2.2 hs
  have e0 : ((b.length - b.length : Nat) : Int) = 0 := by omega
  unfold rrBox at h1
  rw [e0] at h1
  refine fn_intro Try.func31 rfl (by kernel_rfl) Try.ntmps31 (Nat.le_of_ble_eq_true rfl) ?_
  (repeat' (first | refine AW_seq ?_ | refine AW_block ?_ | (refine AW_skip ?_; (repeat (first | refine thenA_n ?_ | refine thenA_r ?_ | refine thenA_e ?_ | refine inB_n ?_ | refine inB_r ?_ | refine inB_hit ?_ | refine inB_miss rfl ?_))) | (refine AW_exit ?_; (repeat (first | refine thenA_n ?_ | refine thenA_r ?_ | refine thenA_e ?_ | refine inB_n ?_ | refine inB_r ?_ | refine inB_hit ?_ | refine inB_miss rfl ?_))) | (refine AW_ret ?_; (repeat (first | refine thenA_n ?_ | refine thenA_r ?_ | refine thenA_e ?_ | refine inB_n ?_ | refine inB_r ?_ | refine inB_hit ?_ | refine inB_miss rfl ?_))) | refine AW_region ?_ | refine AW_draw mixed0 ?_ | (refine AL_nil ?_; (repeat (first | refine thenA_n ?_ | refine thenA_r ?_ | refine thenA_e ?_ | refine inB_n ?_ | refine inB_r ?_ | refine inB_hit ?_ | refine inB_miss rfl ?_))) | (refine AD_nil (by kernel_rfl) ?_; (repeat (first | refine thenA_n ?_ | refine thenA_r ?_ | refine thenA_e ?_ | refine inB_n ?_ | refine inB_r ?_ | refine inB_hit ?_ | refine inB_miss rfl ?_))) | (refine AW_cond_per rfl rfl (fun hc => ?_) (fun hc => ?_) <;> ((try rw [Bool.not_eq_true'] at hc) <;> (try rw [Bool.not_eq_false'] at hc) <;> (try first | rw [decide_eq_true_eq] at hc | rw [decide_eq_false_iff_not] at hc | rw [beq_iff_eq] at hc | rw [beq_eq_false_iff_ne] at hc | rw [bne_iff_ne] at hc | rw [bne_eq_false_iff_eq] at hc) <;> (repeat rw [List.length_map] at hc) <;> (try first | contradiction | (exfalso; omega) | (exfalso; simp [*] at hc; done)))) | ((first | apply AL_t rfl | apply AL_0 rfl | apply AD_t rfl | apply AD_0 rfl); focus (first | exact z_auto | (apply u_g; (focus rfl); apply op_gyes rfl rfl rfl rfl rfl; (first | exact c_R (h1) | exact c_R (h2) | exact c_R (h3) | exact c_F (ritem_Right _) | exact c_O (ritem_Right _) | exact c_O2 (ritem_Right _) | fail)) | exact c_R (h1) | exact c_R (h2) | exact c_R (h3) | exact c_F (ritem_Right _) | exact c_O (ritem_Right _) | exact c_O2 (ritem_Right _) | fail)) | ((first | apply AL_gsplit rfl rfl rfl | apply AD_gsplit rfl rfl rfl) <;> (intro hc) <;> (fail_if_success (have q : (true = true) := hc)) <;> (fail_if_success (have q : (false = false) := hc)) <;> ((try rw [Bool.not_eq_true'] at hc) <;> (try rw [Bool.not_eq_false'] at hc) <;> (try first | rw [decide_eq_true_eq] at hc | rw [decide_eq_false_iff_not] at hc | rw [beq_iff_eq] at hc | rw [beq_eq_false_iff_ne] at hc | rw [bne_iff_ne] at hc | rw [bne_eq_false_iff_eq] at hc) <;> (repeat rw [List.length_map] at hc) <;> (try first | contradiction | (exfalso; omega) | (exfalso; simp [*] at hc; done))))))
  · rw [if_pos (by assumption)] at hQ
    subst hQ
    (refine ⟨(by first | exact .inl rfl | exact .inr rfl), res2 rfl ?_ ?_⟩)
    · exact rv_cA inferInstance inferInstance rfl rfl rfl rfl rfl rfl
    · exact rv_int rfl rfl
  · rw [if_neg (by omega), if_pos (by assumption)] at hQ
    subst hQ
    (refine ⟨(by first | exact .inl rfl | exact .inr rfl), res2 rfl ?_ ?_⟩)
    · exact rv_cA inferInstance inferInstance rfl rfl rfl rfl rfl rfl
    · exact rv_int rfl rfl
  · rw [if_neg (by omega), if_neg (by simp [*])] at hQ
    subst hQ
    (refine ⟨(by first | exact .inl rfl | exact .inr rfl), res2 rfl ?_ ?_⟩)
    · exact rv_cA inferInstance inferInstance rfl rfl rfl rfl rfl rfl
    · exact rv_int rfl rfl
end
end Go.Proofs.Ytnpognmpgddncaa
