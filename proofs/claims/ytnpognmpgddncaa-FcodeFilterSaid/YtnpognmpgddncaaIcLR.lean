/- Lists of items read of bytes: the program's way and the references', by abstract walks. -/
import Derived.Test.YtnpognmpgddncaaIcL
import Derived.Test.YtnpognmpgddncaaLaw19P
namespace Go.Proofs.Ytnpognmpgddncaa
open Go.RowKit
theorem within_rng0 {most : Int} (h : 0 ≤ most) (l : List UInt8) (e : Int) : 0 ≤ (withinSt 0 most l e).1 ∧ (withinSt 0 most l e).1 ≤ most := by
  by_cases he : e = 0
  · subst he
    rw [withinSt_0]
    split
    · exact ⟨by simp, h⟩
    · split
      · exact ⟨by simp, h⟩
      · simp only; omega
  · rw [withinSt_e he]; exact ⟨by simp, h⟩
theorem text_len16 (l : List UInt8) (e : Int) : (textSt 16 l e).1.length ≤ 16 := by
  unfold textSt
  have := within_rng0 (most := 16) (by omega) l e
  split
  · simp
  · split
    · simp
    · rw [List.length_take]; omega
/-- the next key of a list: how much is as before, the key, what is left, and the first error -/
def rdKey (was : ByteArray) (l : List UInt8) (e : Int) : Int × ByteArray × List UInt8 × Int :=
  let s := withinSt 0 was.size l e
  let t := textSt 16 s.2.1 s.2.2
  (s.1, was.extract 0 s.1.toNat ++ ⟨t.1.toArray⟩, t.2.1, t.2.2)
def rdsGo : Nat → ByteArray → Bool → List It → List UInt8 → Int → List It × Bool × List UInt8 × Int
  | 0, _, f, acc, l, e => (acc, f, l, e)
  | n + 1, was, f, acc, l, e =>
    if e ≠ 0 then (acc, f, l, e) else
      let q := rdKey was l e
      let x := restSt q.2.1 q.2.2.1 q.2.2.2
      rdsGo n q.2.1 (f && itR x.1 && ((alike was q.2.1 : Int) == q.1)) (acc ++ [x.1]) x.2.1 x.2.2
def rdIn (l : List UInt8) (e : Int) : List It × Bool × List UInt8 × Int :=
  let s := withinSt 0 4096 l e
  rdsGo s.1.toNat s0 true [] s.2.1 s.2.2
def finI (r : List It × Bool × List UInt8 × Int) : List It × Int :=
  if endSt r.2.2.1 r.2.2.2 ≠ 0 then ([], endSt r.2.2.1 r.2.2.2) else if r.2.1 = false then ([], 11) else (r.1, 0)
def rdItems (b : List UInt8) : List It × Int := finI (rdIn b 0)
theorem rdKey_size (was : ByteArray) (l : List UInt8) (e : Int) : (rdKey was l e).2.1.size ≤ was.size + 16 ∧ 0 ≤ (rdKey was l e).1 ∧ (rdKey was l e).1 ≤ was.size := by
  dsimp only [rdKey]
  have h1 := within_rng0 (most := (was.size : Int)) (by omega) l e
  have h2 := text_len16 (withinSt 0 was.size l e).2.1 (withinSt 0 was.size l e).2.2
  refine ⟨?_, h1⟩
  rw [ByteArray.size_append, ByteArray.size_extract]
  show _ + (textSt 16 _ _).1.toArray.size ≤ _
  rw [List.size_toArray]
  omega
section
set_option maxRecDepth 10000
set_option maxHeartbeats 8000000
theorem icode_ReadItems (b : List UInt8) (hb : b.length ≤ 1000000000) : Fn Try.prog 32 [bytesB b] (.tup2 (.own 25 7 ((rdItems b).1.map itP)) (inR (rdItems b).2)) := by
  generalize hQ : rdItems b = Q at *
  dsimp only [rdItems, rdIn] at hQ
  have h1 := r_Within b 0 0 4096
  have hn := within_rng0 (most := 4096) (by omega) b 0
  generalize withinSt 0 4096 b 0 = s at *
  obtain ⟨n, l0, e0⟩ := s
  simp only at h1 hn hQ
  obtain ⟨hn0, hn1⟩ := hn
  obtain ⟨n, rfl⟩ := Int.eq_ofNat_of_zero_le hn0
  rw [Int.toNat_natCast] at hQ
  generalize hR : rdsGo n s0 true [] l0 e0 = R at *
  refine fn_intro Try.func32 rfl (by kernel_rfl) Try.ntmps32 (Nat.le_of_ble_eq_true rfl) ?_
  (repeat' (first | refine AW_seq ?_ | refine AW_block ?_ | (refine AW_skip ?_; (repeat (first | refine thenA_n ?_ | refine thenA_r ?_ | refine thenA_e ?_ | refine inB_n ?_ | refine inB_r ?_ | refine inB_hit ?_ | refine inB_miss rfl ?_))) | (refine AW_exit ?_; (repeat (first | refine thenA_n ?_ | refine thenA_r ?_ | refine thenA_e ?_ | refine inB_n ?_ | refine inB_r ?_ | refine inB_hit ?_ | refine inB_miss rfl ?_))) | (refine AW_ret ?_; (repeat (first | refine thenA_n ?_ | refine thenA_r ?_ | refine thenA_e ?_ | refine inB_n ?_ | refine inB_r ?_ | refine inB_hit ?_ | refine inB_miss rfl ?_))) | refine AW_region ?_ | refine AW_draw mixed0 ?_ | (refine AL_nil ?_; (repeat (first | refine thenA_n ?_ | refine thenA_r ?_ | refine thenA_e ?_ | refine inB_n ?_ | refine inB_r ?_ | refine inB_hit ?_ | refine inB_miss rfl ?_))) | (refine AD_nil (by kernel_rfl) ?_; (repeat (first | refine thenA_n ?_ | refine thenA_r ?_ | refine thenA_e ?_ | refine inB_n ?_ | refine inB_r ?_ | refine inB_hit ?_ | refine inB_miss rfl ?_))) | (refine AW_cond_per rfl rfl (fun hc => ?_) (fun hc => ?_) <;> ((try rw [Bool.not_eq_true'] at hc) <;> (try rw [Bool.not_eq_false'] at hc) <;> (try first | rw [decide_eq_true_eq] at hc | rw [decide_eq_false_iff_not] at hc | rw [beq_iff_eq] at hc | rw [beq_eq_false_iff_ne] at hc | rw [bne_iff_ne] at hc | rw [bne_eq_false_iff_eq] at hc) <;> (repeat rw [List.length_map] at hc) <;> (try first | contradiction | (exfalso; omega) | (exfalso; simp [*] at hc; done)))) | ((first | apply AL_t rfl | apply AL_0 rfl | apply AD_t rfl | apply AD_0 rfl); focus (first | exact z_auto | (apply u_g; (focus rfl); apply op_gyes rfl rfl rfl rfl rfl; (first | exact c_N (v_New b hb) | exact c_R (h1) | fail)) | exact c_N (v_New b hb) | exact c_R (h1) | fail)) | ((first | apply AL_gsplit rfl rfl rfl | apply AD_gsplit rfl rfl rfl) <;> (intro hc) <;> (fail_if_success (have q : (true = true) := hc)) <;> (fail_if_success (have q : (false = false) := hc)) <;> ((try rw [Bool.not_eq_true'] at hc) <;> (try rw [Bool.not_eq_false'] at hc) <;> (try first | rw [decide_eq_true_eq] at hc | rw [decide_eq_false_iff_not] at hc | rw [beq_iff_eq] at hc | rw [beq_eq_false_iff_ne] at hc | rw [bne_iff_ne] at hc | rw [bne_eq_false_iff_eq] at hc) <;> (repeat rw [List.length_map] at hc) <;> (try first | contradiction | (exfalso; omega) | (exfalso; simp [*] at hc; done))))))
  refine AW_le (Le_nil 6 600 25 7 rfl rfl) ?_
  refine AW_loopP (X := Nat × ByteArray × Bool × List It × List UInt8 × Int) (fun x => x.1 ≤ n ∧ x.2.1.size ≤ 16 * x.1 ∧ x.2.2.2.1.length ≤ x.1 ∧ rdsGo (n - x.1) x.2.1 x.2.2.1 x.2.2.2.1 x.2.2.2.2.1 x.2.2.2.2.2 = R)
    (fun x => mkSt [(4, .ptr 4 0 0), (5, iC .i64 (n : Nat)), (6, .row 600 0), (7, sC x.2.1), (8, bC x.2.2.1), (9, iC .i64 (x.1 : Nat))] [(4, .box 115 [.ptr 15 0 0]), (15, rdBox x.2.2.2.2.1 x.2.2.2.2.2), (600, .row 25 7 (x.2.2.2.1.map itP))]) (fun x => n - x.1) (0, s0, true, [], l0, e0) ⟨Nat.zero_le _, (by decide : s0.size ≤ 0), Nat.le_refl _, hR⟩ ?_ ?_
  · (refine Le_mk ?_ ?_; (focus ((repeat (first | exact AllG.nil | (refine AllG.cons ?_ ?_; rotate_left))); (all_goals try (first | rfl | (refine eqI ?_; first | omega | (simp; done) | (simp; omega)) | (refine eqBo ?_; first | (simp; done) | (simp [*]; done)))))); (focus ((repeat (first | exact AllB.nil | (refine AllB.cons ?_ ?_; rotate_left))); (all_goals try (first | rfl | (refine eqRw ?_; (rw [List.map_append] <;> rfl); done) | (refine eqMix ?_; (rw [List.map_append] <;> rfl); done))))))
  · rintro ⟨i, was, f, acc, l, e⟩ ⟨hi, hws, hacc, hR⟩
    simp only at hi hws hacc hR ⊢
    have hE := r_Err l e
    have hD := r_End l e
    by_cases hlt : i < n
    · by_cases he : e = 0
      · subst he
        obtain ⟨m, hm⟩ : ∃ m, n - i = m + 1 := ⟨n - i - 1, by omega⟩
        rw [hm, rdsGo, if_neg (by simp)] at hR
        dsimp only at hR
        have hks := rdKey_size was l 0
        have h2 := r_Within l 0 0 (was.size : Int)
        have h3 := r_Text (withinSt 0 was.size l 0).2.1 (withinSt 0 was.size l 0).2.2 16
        have h23 : rdKey was l 0 = ((withinSt 0 was.size l 0).1, was.extract 0 (withinSt 0 was.size l 0).1.toNat ++ ⟨(textSt 16 (withinSt 0 was.size l 0).2.1 (withinSt 0 was.size l 0).2.2).1.toArray⟩, (textSt 16 (withinSt 0 was.size l 0).2.1 (withinSt 0 was.size l 0).2.2).2.1, (textSt 16 (withinSt 0 was.size l 0).2.1 (withinSt 0 was.size l 0).2.2).2.2) := rfl
        have hx := text_len16 (withinSt 0 was.size l 0).2.1 (withinSt 0 was.size l 0).2.2
        rw [h23] at hR hks
        clear h23
        generalize withinSt 0 was.size l 0 = s at *
        generalize textSt 16 s.2.1 s.2.2 = t at *
        obtain ⟨sm, l1, e1⟩ := s
        obtain ⟨tx, l2, e2⟩ := t
        simp only at hR hks h2 h3 hx
        obtain ⟨hk1, hk2, hk3⟩ := hks
        obtain ⟨sm, rfl⟩ := Int.eq_ofNat_of_zero_le hk2
        rw [Int.toNat_natCast] at hR hk1
        have htx : (⟨tx.toArray⟩ : ByteArray).size ≤ 16 := by show tx.toArray.size ≤ 16; rw [List.size_toArray]; exact hx
        have hes : (was.extract 0 sm).size ≤ was.size := by simp; omega
        have h4 := ic_rest (was.extract 0 sm ++ ⟨tx.toArray⟩) l2 e2
        have h6 := key_Common was (was.extract 0 sm ++ ⟨tx.toArray⟩) (by omega)
        have hal := alike_le was (was.extract 0 sm ++ ⟨tx.toArray⟩)
        have hcs : (was.extract 0 (alike was (was.extract 0 sm ++ ⟨tx.toArray⟩))).size = alike was (was.extract 0 sm ++ ⟨tx.toArray⟩) := by simp; omega
        generalize was.extract 0 (alike was (was.extract 0 sm ++ ⟨tx.toArray⟩)) = cm at *
        generalize restSt (was.extract 0 sm ++ ⟨tx.toArray⟩) l2 e2 = x at *
        obtain ⟨x, l3, e3⟩ := x
        simp only at hR h4
        have h5 := item_Right x
        (repeat' (first | refine AW_seq ?_ | refine AW_block ?_ | (refine AW_skip ?_; (repeat (first | refine thenA_n ?_ | refine thenA_r ?_ | refine thenA_e ?_ | refine inB_n ?_ | refine inB_r ?_ | refine inB_hit ?_ | refine inB_miss rfl ?_))) | (refine AW_exit ?_; (repeat (first | refine thenA_n ?_ | refine thenA_r ?_ | refine thenA_e ?_ | refine inB_n ?_ | refine inB_r ?_ | refine inB_hit ?_ | refine inB_miss rfl ?_))) | (refine AW_ret ?_; (repeat (first | refine thenA_n ?_ | refine thenA_r ?_ | refine thenA_e ?_ | refine inB_n ?_ | refine inB_r ?_ | refine inB_hit ?_ | refine inB_miss rfl ?_))) | refine AW_region ?_ | refine AW_draw mixed0 ?_ | (refine AL_nil ?_; (repeat (first | refine thenA_n ?_ | refine thenA_r ?_ | refine thenA_e ?_ | refine inB_n ?_ | refine inB_r ?_ | refine inB_hit ?_ | refine inB_miss rfl ?_))) | (refine AD_nil (by kernel_rfl) ?_; (repeat (first | refine thenA_n ?_ | refine thenA_r ?_ | refine thenA_e ?_ | refine inB_n ?_ | refine inB_r ?_ | refine inB_hit ?_ | refine inB_miss rfl ?_))) | (refine AW_cond_per rfl rfl (fun hc => ?_) (fun hc => ?_) <;> ((try rw [Bool.not_eq_true'] at hc) <;> (try rw [Bool.not_eq_false'] at hc) <;> (try first | rw [decide_eq_true_eq] at hc | rw [decide_eq_false_iff_not] at hc | rw [beq_iff_eq] at hc | rw [beq_eq_false_iff_ne] at hc | rw [bne_iff_ne] at hc | rw [bne_eq_false_iff_eq] at hc) <;> (repeat rw [List.length_map] at hc) <;> (try first | contradiction | (exfalso; omega) | (exfalso; simp [*] at hc; done)))) | ((first | apply AL_t rfl | apply AL_0 rfl | apply AD_t rfl | apply AD_0 rfl); focus (first | exact z_auto | (apply u_g; (focus rfl); apply op_gyes rfl rfl rfl rfl rfl; (first | exact c_R (hE) | exact c_R (h2) | exact c_R (h3) | exact c_M [(1000, 15)] (h4) | exact c_F (h5) | exact c_O (h5) | exact c_O2 (h5) | exact c_F (h6) | exact c_O (h6) | exact c_O2 (h6) | fail)) | exact c_R (hE) | exact c_R (h2) | exact c_R (h3) | exact c_M [(1000, 15)] (h4) | exact c_F (h5) | exact c_O (h5) | exact c_O2 (h5) | exact c_F (h6) | exact c_O (h6) | exact c_O2 (h6) | fail)) | ((first | apply AL_gsplit rfl rfl rfl | apply AD_gsplit rfl rfl rfl) <;> (intro hc) <;> (fail_if_success (have q : (true = true) := hc)) <;> (fail_if_success (have q : (false = false) := hc)) <;> ((try rw [Bool.not_eq_true'] at hc) <;> (try rw [Bool.not_eq_false'] at hc) <;> (try first | rw [decide_eq_true_eq] at hc | rw [decide_eq_false_iff_not] at hc | rw [beq_iff_eq] at hc | rw [beq_eq_false_iff_ne] at hc | rw [bne_iff_ne] at hc | rw [bne_eq_false_iff_eq] at hc) <;> (repeat rw [List.length_map] at hc) <;> (try first | contradiction | (exfalso; omega) | (exfalso; simp [*] at hc; done))))))
        all_goals
          refine ⟨(i + 1, was.extract 0 sm ++ ⟨tx.toArray⟩, f && itR x && ((alike was (was.extract 0 sm ++ ⟨tx.toArray⟩) : Int) == sm), acc ++ [x], l3, e3), ⟨by simp only; omega, by simp only; omega, by simp; omega, ?_⟩, by simp only; omega, ?_⟩
        all_goals first | (simp only; rw [show n - (i + 1) = m by omega]; exact hR) | skip
        all_goals (refine Le_mk ?_ ?_; (focus ((repeat (first | exact AllG.nil | (refine AllG.cons ?_ ?_; rotate_left))); (all_goals try (first | rfl | (refine eqI ?_; first | omega | (simp; done) | (simp; omega)) | (refine eqBo ?_; first | (simp; done) | (simp [*]; done)))))); (focus ((repeat (first | exact AllB.nil | (refine AllB.cons ?_ ?_; rotate_left))); (all_goals try (first | rfl | (refine eqRw ?_; (rw [List.map_append] <;> rfl); done) | (refine eqMix ?_; (rw [List.map_append] <;> rfl); done))))))
      · have hR2 : R = (acc, f, l, e) := by
          rw [← hR]
          cases n - i with
          | zero => rfl
          | succ m => rw [rdsGo, if_pos he]
        subst hR2
        (repeat' (first | refine AW_seq ?_ | refine AW_block ?_ | (refine AW_skip ?_; (repeat (first | refine thenA_n ?_ | refine thenA_r ?_ | refine thenA_e ?_ | refine inB_n ?_ | refine inB_r ?_ | refine inB_hit ?_ | refine inB_miss rfl ?_))) | (refine AW_exit ?_; (repeat (first | refine thenA_n ?_ | refine thenA_r ?_ | refine thenA_e ?_ | refine inB_n ?_ | refine inB_r ?_ | refine inB_hit ?_ | refine inB_miss rfl ?_))) | (refine AW_ret ?_; (repeat (first | refine thenA_n ?_ | refine thenA_r ?_ | refine thenA_e ?_ | refine inB_n ?_ | refine inB_r ?_ | refine inB_hit ?_ | refine inB_miss rfl ?_))) | refine AW_region ?_ | refine AW_draw mixed0 ?_ | (refine AL_nil ?_; (repeat (first | refine thenA_n ?_ | refine thenA_r ?_ | refine thenA_e ?_ | refine inB_n ?_ | refine inB_r ?_ | refine inB_hit ?_ | refine inB_miss rfl ?_))) | (refine AD_nil (by kernel_rfl) ?_; (repeat (first | refine thenA_n ?_ | refine thenA_r ?_ | refine thenA_e ?_ | refine inB_n ?_ | refine inB_r ?_ | refine inB_hit ?_ | refine inB_miss rfl ?_))) | (refine AW_cond_per rfl rfl (fun hc => ?_) (fun hc => ?_) <;> ((try rw [Bool.not_eq_true'] at hc) <;> (try rw [Bool.not_eq_false'] at hc) <;> (try first | rw [decide_eq_true_eq] at hc | rw [decide_eq_false_iff_not] at hc | rw [beq_iff_eq] at hc | rw [beq_eq_false_iff_ne] at hc | rw [bne_iff_ne] at hc | rw [bne_eq_false_iff_eq] at hc) <;> (repeat rw [List.length_map] at hc) <;> (try first | contradiction | (exfalso; omega) | (exfalso; simp [*] at hc; done)))) | ((first | apply AL_t rfl | apply AL_0 rfl | apply AD_t rfl | apply AD_0 rfl); focus (first | exact z_auto | (apply u_g; (focus rfl); apply op_gyes rfl rfl rfl rfl rfl; (first | exact c_R (hE) | exact c_R (hD) | fail)) | exact c_R (hE) | exact c_R (hD) | fail)) | ((first | apply AL_gsplit rfl rfl rfl | apply AD_gsplit rfl rfl rfl) <;> (intro hc) <;> (fail_if_success (have q : (true = true) := hc)) <;> (fail_if_success (have q : (false = false) := hc)) <;> ((try rw [Bool.not_eq_true'] at hc) <;> (try rw [Bool.not_eq_false'] at hc) <;> (try first | rw [decide_eq_true_eq] at hc | rw [decide_eq_false_iff_not] at hc | rw [beq_iff_eq] at hc | rw [beq_eq_false_iff_ne] at hc | rw [bne_iff_ne] at hc | rw [bne_eq_false_iff_eq] at hc) <;> (repeat rw [List.length_map] at hc) <;> (try first | contradiction | (exfalso; omega) | (exfalso; simp [*] at hc; done))))))
        · rw [finI, if_pos (by assumption)] at hQ
          subst hQ
          (refine ⟨(by first | exact .inl rfl | exact .inr rfl), res2 rfl ?_ ?_⟩)
          · exact rv_nil rfl
          · exact rv_int rfl rfl
        · rw [finI, if_neg (by simp [*]), if_pos (by assumption)] at hQ
          subst hQ
          (refine ⟨(by first | exact .inl rfl | exact .inr rfl), res2 rfl ?_ ?_⟩)
          · exact rv_nil rfl
          · exact rv_int rfl rfl
        · rw [finI, if_neg (by simp [*]), if_neg (by simp [*])] at hQ
          subst hQ
          (refine ⟨(by first | exact .inl rfl | exact .inr rfl), res2 rfl ?_ ?_⟩)
          · exact rv_own rfl rfl rfl
          · exact rv_int rfl rfl
    · have hR2 : R = (acc, f, l, e) := by
        rw [← hR, show n - i = 0 by omega]; rfl
      subst hR2
      (repeat' (first | refine AW_seq ?_ | refine AW_block ?_ | (refine AW_skip ?_; (repeat (first | refine thenA_n ?_ | refine thenA_r ?_ | refine thenA_e ?_ | refine inB_n ?_ | refine inB_r ?_ | refine inB_hit ?_ | refine inB_miss rfl ?_))) | (refine AW_exit ?_; (repeat (first | refine thenA_n ?_ | refine thenA_r ?_ | refine thenA_e ?_ | refine inB_n ?_ | refine inB_r ?_ | refine inB_hit ?_ | refine inB_miss rfl ?_))) | (refine AW_ret ?_; (repeat (first | refine thenA_n ?_ | refine thenA_r ?_ | refine thenA_e ?_ | refine inB_n ?_ | refine inB_r ?_ | refine inB_hit ?_ | refine inB_miss rfl ?_))) | refine AW_region ?_ | refine AW_draw mixed0 ?_ | (refine AL_nil ?_; (repeat (first | refine thenA_n ?_ | refine thenA_r ?_ | refine thenA_e ?_ | refine inB_n ?_ | refine inB_r ?_ | refine inB_hit ?_ | refine inB_miss rfl ?_))) | (refine AD_nil (by kernel_rfl) ?_; (repeat (first | refine thenA_n ?_ | refine thenA_r ?_ | refine thenA_e ?_ | refine inB_n ?_ | refine inB_r ?_ | refine inB_hit ?_ | refine inB_miss rfl ?_))) | (refine AW_cond_per rfl rfl (fun hc => ?_) (fun hc => ?_) <;> ((try rw [Bool.not_eq_true'] at hc) <;> (try rw [Bool.not_eq_false'] at hc) <;> (try first | rw [decide_eq_true_eq] at hc | rw [decide_eq_false_iff_not] at hc | rw [beq_iff_eq] at hc | rw [beq_eq_false_iff_ne] at hc | rw [bne_iff_ne] at hc | rw [bne_eq_false_iff_eq] at hc) <;> (repeat rw [List.length_map] at hc) <;> (try first | contradiction | (exfalso; omega) | (exfalso; simp [*] at hc; done)))) | ((first | apply AL_t rfl | apply AL_0 rfl | apply AD_t rfl | apply AD_0 rfl); focus (first | exact z_auto | (apply u_g; (focus rfl); apply op_gyes rfl rfl rfl rfl rfl; (first | exact c_R (hE) | exact c_R (hD) | fail)) | exact c_R (hE) | exact c_R (hD) | fail)) | ((first | apply AL_gsplit rfl rfl rfl | apply AD_gsplit rfl rfl rfl) <;> (intro hc) <;> (fail_if_success (have q : (true = true) := hc)) <;> (fail_if_success (have q : (false = false) := hc)) <;> ((try rw [Bool.not_eq_true'] at hc) <;> (try rw [Bool.not_eq_false'] at hc) <;> (try first | rw [decide_eq_true_eq] at hc | rw [decide_eq_false_iff_not] at hc | rw [beq_iff_eq] at hc | rw [beq_eq_false_iff_ne] at hc | rw [bne_iff_ne] at hc | rw [bne_eq_false_iff_eq] at hc) <;> (repeat rw [List.length_map] at hc) <;> (try first | contradiction | (exfalso; omega) | (exfalso; simp [*] at hc; done))))))
      · rw [finI, if_pos (by assumption)] at hQ
        subst hQ
        (refine ⟨(by first | exact .inl rfl | exact .inr rfl), res2 rfl ?_ ?_⟩)
        · exact rv_nil rfl
        · exact rv_int rfl rfl
      · rw [finI, if_neg (by simp [*]), if_pos (by assumption)] at hQ
        subst hQ
        (refine ⟨(by first | exact .inl rfl | exact .inr rfl), res2 rfl ?_ ?_⟩)
        · exact rv_nil rfl
        · exact rv_int rfl rfl
      · rw [finI, if_neg (by simp [*]), if_neg (by simp [*])] at hQ
        subst hQ
        (refine ⟨(by first | exact .inl rfl | exact .inr rfl), res2 rfl ?_ ?_⟩)
        · exact rv_own rfl rfl rfl
        · exact rv_int rfl rfl
theorem rdsGo_suf (n : Nat) : ∀ (was : ByteArray) (f : Bool) (acc : List It) (l : List UInt8) (e : Int), (rdsGo n was f acc l e).2.2.1 <:+ l := by
  induction n with
  | zero => intro was f acc l e; exact List.suffix_refl l
  | succ n ih =>
    intro was f acc l e
    unfold rdsGo
    split
    · exact List.suffix_refl l
    · exact (ih _ _ _ _ _).trans ((restSt_suf _ _ _).trans ((textSt_suf _ _ _).trans (withinSt_suf _ _ _ _)))
theorem rdsGo_len (n : Nat) : ∀ (was : ByteArray) (f : Bool) (acc : List It) (l : List UInt8) (e : Int), (rdsGo n was f acc l e).1.length ≤ acc.length + n := by
  induction n with
  | zero => intro was f acc l e; simp [rdsGo]
  | succ n ih =>
    intro was f acc l e
    unfold rdsGo
    split
    · simp
    · have := ih (rdKey was l e).2.1 (f && itR (restSt (rdKey was l e).2.1 (rdKey was l e).2.2.1 (rdKey was l e).2.2.2).1 && ((alike was (rdKey was l e).2.1 : Int) == (rdKey was l e).1)) (acc ++ [(restSt (rdKey was l e).2.1 (rdKey was l e).2.2.1 (rdKey was l e).2.2.2).1]) (restSt (rdKey was l e).2.1 (rdKey was l e).2.2.1 (rdKey was l e).2.2.2).2.1 (restSt (rdKey was l e).2.1 (rdKey was l e).2.2.1 (rdKey was l e).2.2.2).2.2
      simp at this ⊢
      omega
theorem ref_ReadIn (b l : List UInt8) (e : Int) (hs : l <:+ b) (hb : b.length ≤ 1000000000000) : FnM Try.prog 96 [rdC] [(1000, rrBox b l e)] (.tup2 (.row 3000 0) (bC (rdIn l e).2.1)) [(1000, rrBox b (rdIn l e).2.2.1 (rdIn l e).2.2.2), (3000, .row 25 7 ((rdIn l e).1.map itP))] := by
  dsimp only [rdIn]
  have h1 := rr_Within b l e hs hb 0 4096
  have hn := within_rng0 (most := 4096) (by omega) l e
  replace hs := (withinSt_suf 0 4096 l e).trans hs
  generalize withinSt 0 4096 l e = s at *
  obtain ⟨n, l0, e0⟩ := s
  simp only at h1 hn hs ⊢
  obtain ⟨hn0, hn1⟩ := hn
  obtain ⟨n, rfl⟩ := Int.eq_ofNat_of_zero_le hn0
  rw [Int.toNat_natCast]
  generalize hR : rdsGo n s0 true [] l0 e0 = R at *
  refine fnm_intro Try.func96 rfl (by kernel_rfl) Try.ntmps96 (Nat.le_of_ble_eq_true rfl) ?_
  (repeat' (first | refine AW_seq ?_ | refine AW_block ?_ | (refine AW_skip ?_; (repeat (first | refine thenA_n ?_ | refine thenA_r ?_ | refine thenA_e ?_ | refine inB_n ?_ | refine inB_r ?_ | refine inB_hit ?_ | refine inB_miss rfl ?_))) | (refine AW_exit ?_; (repeat (first | refine thenA_n ?_ | refine thenA_r ?_ | refine thenA_e ?_ | refine inB_n ?_ | refine inB_r ?_ | refine inB_hit ?_ | refine inB_miss rfl ?_))) | (refine AW_ret ?_; (repeat (first | refine thenA_n ?_ | refine thenA_r ?_ | refine thenA_e ?_ | refine inB_n ?_ | refine inB_r ?_ | refine inB_hit ?_ | refine inB_miss rfl ?_))) | refine AW_region ?_ | refine AW_draw mixed0 ?_ | (refine AL_nil ?_; (repeat (first | refine thenA_n ?_ | refine thenA_r ?_ | refine thenA_e ?_ | refine inB_n ?_ | refine inB_r ?_ | refine inB_hit ?_ | refine inB_miss rfl ?_))) | (refine AD_nil (by kernel_rfl) ?_; (repeat (first | refine thenA_n ?_ | refine thenA_r ?_ | refine thenA_e ?_ | refine inB_n ?_ | refine inB_r ?_ | refine inB_hit ?_ | refine inB_miss rfl ?_))) | (refine AW_cond_per rfl rfl (fun hc => ?_) (fun hc => ?_) <;> ((try rw [Bool.not_eq_true'] at hc) <;> (try rw [Bool.not_eq_false'] at hc) <;> (try first | rw [decide_eq_true_eq] at hc | rw [decide_eq_false_iff_not] at hc | rw [beq_iff_eq] at hc | rw [beq_eq_false_iff_ne] at hc | rw [bne_iff_ne] at hc | rw [bne_eq_false_iff_eq] at hc) <;> (repeat rw [List.length_map] at hc) <;> (try first | contradiction | (exfalso; omega) | (exfalso; simp [*] at hc; done)))) | ((first | apply AL_t rfl | apply AL_0 rfl | apply AD_t rfl | apply AD_0 rfl); focus (first | exact z_auto | (apply u_g; (focus rfl); apply op_gyes rfl rfl rfl rfl rfl; (first | exact c_R (h1) | fail)) | exact c_R (h1) | fail)) | ((first | apply AL_gsplit rfl rfl rfl | apply AD_gsplit rfl rfl rfl) <;> (intro hc) <;> (fail_if_success (have q : (true = true) := hc)) <;> (fail_if_success (have q : (false = false) := hc)) <;> ((try rw [Bool.not_eq_true'] at hc) <;> (try rw [Bool.not_eq_false'] at hc) <;> (try first | rw [decide_eq_true_eq] at hc | rw [decide_eq_false_iff_not] at hc | rw [beq_iff_eq] at hc | rw [beq_eq_false_iff_ne] at hc | rw [bne_iff_ne] at hc | rw [bne_eq_false_iff_eq] at hc) <;> (repeat rw [List.length_map] at hc) <;> (try first | contradiction | (exfalso; omega) | (exfalso; simp [*] at hc; done))))))
  refine AW_le (Le_nil 5 600 25 7 rfl rfl) ?_
  refine AW_loopP (X := Nat × ByteArray × Bool × List It × List UInt8 × Int) (fun x => x.1 ≤ n ∧ x.2.1.size ≤ 16 * x.1 ∧ x.2.2.2.1.length ≤ x.1 ∧ x.2.2.2.2.1 <:+ b ∧ rdsGo (n - x.1) x.2.1 x.2.2.1 x.2.2.2.1 x.2.2.2.2.1 x.2.2.2.2.2 = R)
    (fun x => mkSt [(0, rdC), (4, iC .i64 (n : Nat)), (5, .row 600 0), (6, sC x.2.1), (7, bC x.2.2.1), (8, iC .i64 (x.1 : Nat))] [(1000, rrBox b x.2.2.2.2.1 x.2.2.2.2.2), (600, .row 25 7 (x.2.2.2.1.map itP))]) (fun x => n - x.1) (0, s0, true, [], l0, e0) ⟨Nat.zero_le _, (by decide : s0.size ≤ 0), Nat.le_refl _, hs, hR⟩ ?_ ?_
  · (refine Le_mk ?_ ?_; (focus ((repeat (first | exact AllG.nil | (refine AllG.cons ?_ ?_; rotate_left))); (all_goals try (first | rfl | (refine eqI ?_; first | omega | (simp; done) | (simp; omega)) | (refine eqBo ?_; first | (simp; done) | (simp [*]; done)))))); (focus ((repeat (first | exact AllB.nil | (refine AllB.cons ?_ ?_; rotate_left))); (all_goals try (first | rfl | (refine eqRw ?_; (rw [List.map_append] <;> rfl); done) | (refine eqMix ?_; (rw [List.map_append] <;> rfl); done))))))
  · rintro ⟨i, was, f, acc, l, e⟩ ⟨hi, hws, hacc, hs, hR⟩
    simp only at hi hws hacc hR hs ⊢
    by_cases hlt : i < n
    · by_cases he : e = 0
      · subst he
        obtain ⟨m, hm⟩ : ∃ m, n - i = m + 1 := ⟨n - i - 1, by omega⟩
        rw [hm, rdsGo, if_neg (by simp)] at hR
        dsimp only at hR
        have hks := rdKey_size was l 0
        have h2 := rr_Within b l 0 hs hb 0 (was.size : Int)
        replace hs := (withinSt_suf 0 was.size l 0).trans hs
        have h3 := rr_Text b (withinSt 0 was.size l 0).2.1 (withinSt 0 was.size l 0).2.2 hs hb 16
        replace hs := (textSt_suf 16 (withinSt 0 was.size l 0).2.1 (withinSt 0 was.size l 0).2.2).trans hs
        have h23 : rdKey was l 0 = ((withinSt 0 was.size l 0).1, was.extract 0 (withinSt 0 was.size l 0).1.toNat ++ ⟨(textSt 16 (withinSt 0 was.size l 0).2.1 (withinSt 0 was.size l 0).2.2).1.toArray⟩, (textSt 16 (withinSt 0 was.size l 0).2.1 (withinSt 0 was.size l 0).2.2).2.1, (textSt 16 (withinSt 0 was.size l 0).2.1 (withinSt 0 was.size l 0).2.2).2.2) := rfl
        have hx := text_len16 (withinSt 0 was.size l 0).2.1 (withinSt 0 was.size l 0).2.2
        rw [h23] at hR hks
        clear h23
        generalize withinSt 0 was.size l 0 = s at *
        generalize textSt 16 s.2.1 s.2.2 = t at *
        obtain ⟨sm, l1, e1⟩ := s
        obtain ⟨tx, l2, e2⟩ := t
        simp only at hR hks h2 h3 hx hs
        obtain ⟨hk1, hk2, hk3⟩ := hks
        obtain ⟨sm, rfl⟩ := Int.eq_ofNat_of_zero_le hk2
        rw [Int.toNat_natCast] at hR hk1
        have htx : (⟨tx.toArray⟩ : ByteArray).size ≤ 16 := by show tx.toArray.size ≤ 16; rw [List.size_toArray]; exact hx
        have hes : (was.extract 0 sm).size ≤ was.size := by simp; omega
        have h4 := ref_more (was.extract 0 sm ++ ⟨tx.toArray⟩) b l2 e2 hs hb
        replace hs := (restSt_suf (was.extract 0 sm ++ ⟨tx.toArray⟩) l2 e2).trans hs
        have h6 := ref_Alike was (was.extract 0 sm ++ ⟨tx.toArray⟩) (by omega)
        have hal := alike_le was (was.extract 0 sm ++ ⟨tx.toArray⟩)
        generalize restSt (was.extract 0 sm ++ ⟨tx.toArray⟩) l2 e2 = x at *
        obtain ⟨x, l3, e3⟩ := x
        simp only at hR h4 hs
        have h5 := ritem_Right x
        (repeat' (first | refine AW_seq ?_ | refine AW_block ?_ | (refine AW_skip ?_; (repeat (first | refine thenA_n ?_ | refine thenA_r ?_ | refine thenA_e ?_ | refine inB_n ?_ | refine inB_r ?_ | refine inB_hit ?_ | refine inB_miss rfl ?_))) | (refine AW_exit ?_; (repeat (first | refine thenA_n ?_ | refine thenA_r ?_ | refine thenA_e ?_ | refine inB_n ?_ | refine inB_r ?_ | refine inB_hit ?_ | refine inB_miss rfl ?_))) | (refine AW_ret ?_; (repeat (first | refine thenA_n ?_ | refine thenA_r ?_ | refine thenA_e ?_ | refine inB_n ?_ | refine inB_r ?_ | refine inB_hit ?_ | refine inB_miss rfl ?_))) | refine AW_region ?_ | refine AW_draw mixed0 ?_ | (refine AL_nil ?_; (repeat (first | refine thenA_n ?_ | refine thenA_r ?_ | refine thenA_e ?_ | refine inB_n ?_ | refine inB_r ?_ | refine inB_hit ?_ | refine inB_miss rfl ?_))) | (refine AD_nil (by kernel_rfl) ?_; (repeat (first | refine thenA_n ?_ | refine thenA_r ?_ | refine thenA_e ?_ | refine inB_n ?_ | refine inB_r ?_ | refine inB_hit ?_ | refine inB_miss rfl ?_))) | (refine AW_cond_per rfl rfl (fun hc => ?_) (fun hc => ?_) <;> ((try rw [Bool.not_eq_true'] at hc) <;> (try rw [Bool.not_eq_false'] at hc) <;> (try first | rw [decide_eq_true_eq] at hc | rw [decide_eq_false_iff_not] at hc | rw [beq_iff_eq] at hc | rw [beq_eq_false_iff_ne] at hc | rw [bne_iff_ne] at hc | rw [bne_eq_false_iff_eq] at hc) <;> (repeat rw [List.length_map] at hc) <;> (try first | contradiction | (exfalso; omega) | (exfalso; simp [*] at hc; done)))) | ((first | apply AL_t rfl | apply AL_0 rfl | apply AD_t rfl | apply AD_0 rfl); focus (first | exact z_auto | (apply u_g; (focus rfl); apply op_gyes rfl rfl rfl rfl rfl; (first | exact c_R (h2) | exact c_R (h3) | exact c_R (h4) | exact c_F (h5) | exact c_O (h5) | exact c_O2 (h5) | exact c_F (h6) | exact c_O (h6) | exact c_O2 (h6) | fail)) | exact c_R (h2) | exact c_R (h3) | exact c_R (h4) | exact c_F (h5) | exact c_O (h5) | exact c_O2 (h5) | exact c_F (h6) | exact c_O (h6) | exact c_O2 (h6) | fail)) | ((first | apply AL_gsplit rfl rfl rfl | apply AD_gsplit rfl rfl rfl) <;> (intro hc) <;> (fail_if_success (have q : (true = true) := hc)) <;> (fail_if_success (have q : (false = false) := hc)) <;> ((try rw [Bool.not_eq_true'] at hc) <;> (try rw [Bool.not_eq_false'] at hc) <;> (try first | rw [decide_eq_true_eq] at hc | rw [decide_eq_false_iff_not] at hc | rw [beq_iff_eq] at hc | rw [beq_eq_false_iff_ne] at hc | rw [bne_iff_ne] at hc | rw [bne_eq_false_iff_eq] at hc) <;> (repeat rw [List.length_map] at hc) <;> (try first | contradiction | (exfalso; omega) | (exfalso; simp [*] at hc; done))))))
        all_goals
          refine ⟨(i + 1, was.extract 0 sm ++ ⟨tx.toArray⟩, f && itR x && ((alike was (was.extract 0 sm ++ ⟨tx.toArray⟩) : Int) == sm), acc ++ [x], l3, e3), ⟨by simp only; omega, by simp only; omega, by simp; omega, hs, ?_⟩, by simp only; omega, ?_⟩
        all_goals first | (simp only; rw [show n - (i + 1) = m by omega]; exact hR) | skip
        all_goals (refine Le_mk ?_ ?_; (focus ((repeat (first | exact AllG.nil | (refine AllG.cons ?_ ?_; rotate_left))); (all_goals try (first | rfl | (refine eqI ?_; first | omega | (simp; done) | (simp; omega)) | (refine eqBo ?_; first | (simp; done) | (simp [*]; done)))))); (focus ((repeat (first | exact AllB.nil | (refine AllB.cons ?_ ?_; rotate_left))); (all_goals try (first | rfl | (refine eqRw ?_; (rw [List.map_append] <;> rfl); done) | (refine eqMix ?_; (rw [List.map_append] <;> rfl); done))))))
      · have hR2 : R = (acc, f, l, e) := by
          rw [← hR]
          cases n - i with
          | zero => rfl
          | succ m => rw [rdsGo, if_pos he]
        subst hR2
        (repeat' (first | refine AW_seq ?_ | refine AW_block ?_ | (refine AW_skip ?_; (repeat (first | refine thenA_n ?_ | refine thenA_r ?_ | refine thenA_e ?_ | refine inB_n ?_ | refine inB_r ?_ | refine inB_hit ?_ | refine inB_miss rfl ?_))) | (refine AW_exit ?_; (repeat (first | refine thenA_n ?_ | refine thenA_r ?_ | refine thenA_e ?_ | refine inB_n ?_ | refine inB_r ?_ | refine inB_hit ?_ | refine inB_miss rfl ?_))) | (refine AW_ret ?_; (repeat (first | refine thenA_n ?_ | refine thenA_r ?_ | refine thenA_e ?_ | refine inB_n ?_ | refine inB_r ?_ | refine inB_hit ?_ | refine inB_miss rfl ?_))) | refine AW_region ?_ | refine AW_draw mixed0 ?_ | (refine AL_nil ?_; (repeat (first | refine thenA_n ?_ | refine thenA_r ?_ | refine thenA_e ?_ | refine inB_n ?_ | refine inB_r ?_ | refine inB_hit ?_ | refine inB_miss rfl ?_))) | (refine AD_nil (by kernel_rfl) ?_; (repeat (first | refine thenA_n ?_ | refine thenA_r ?_ | refine thenA_e ?_ | refine inB_n ?_ | refine inB_r ?_ | refine inB_hit ?_ | refine inB_miss rfl ?_))) | (refine AW_cond_per rfl rfl (fun hc => ?_) (fun hc => ?_) <;> ((try rw [Bool.not_eq_true'] at hc) <;> (try rw [Bool.not_eq_false'] at hc) <;> (try first | rw [decide_eq_true_eq] at hc | rw [decide_eq_false_iff_not] at hc | rw [beq_iff_eq] at hc | rw [beq_eq_false_iff_ne] at hc | rw [bne_iff_ne] at hc | rw [bne_eq_false_iff_eq] at hc) <;> (repeat rw [List.length_map] at hc) <;> (try first | contradiction | (exfalso; omega) | (exfalso; simp [*] at hc; done)))) | ((first | apply AL_t rfl | apply AL_0 rfl | apply AD_t rfl | apply AD_0 rfl); focus (first | exact z_auto | fail)) | ((first | apply AL_gsplit rfl rfl rfl | apply AD_gsplit rfl rfl rfl) <;> (intro hc) <;> (fail_if_success (have q : (true = true) := hc)) <;> (fail_if_success (have q : (false = false) := hc)) <;> ((try rw [Bool.not_eq_true'] at hc) <;> (try rw [Bool.not_eq_false'] at hc) <;> (try first | rw [decide_eq_true_eq] at hc | rw [decide_eq_false_iff_not] at hc | rw [beq_iff_eq] at hc | rw [beq_eq_false_iff_ne] at hc | rw [bne_iff_ne] at hc | rw [bne_eq_false_iff_eq] at hc) <;> (repeat rw [List.length_map] at hc) <;> (try first | contradiction | (exfalso; omega) | (exfalso; simp [*] at hc; done))))))
        refine ⟨.inl rfl, resM2 [(1000, 1000), (600, 3000)] rfl rfl ?_ (rvm rfl rfl) (rvm_bool rfl rfl)⟩
        (repeat (first | exact AllX.nil | (refine AllX.cons rfl ?_ ?_; (focus first | rfl | skip))))
    · have hR2 : R = (acc, f, l, e) := by
        rw [← hR, show n - i = 0 by omega]; rfl
      subst hR2
      (repeat' (first | refine AW_seq ?_ | refine AW_block ?_ | (refine AW_skip ?_; (repeat (first | refine thenA_n ?_ | refine thenA_r ?_ | refine thenA_e ?_ | refine inB_n ?_ | refine inB_r ?_ | refine inB_hit ?_ | refine inB_miss rfl ?_))) | (refine AW_exit ?_; (repeat (first | refine thenA_n ?_ | refine thenA_r ?_ | refine thenA_e ?_ | refine inB_n ?_ | refine inB_r ?_ | refine inB_hit ?_ | refine inB_miss rfl ?_))) | (refine AW_ret ?_; (repeat (first | refine thenA_n ?_ | refine thenA_r ?_ | refine thenA_e ?_ | refine inB_n ?_ | refine inB_r ?_ | refine inB_hit ?_ | refine inB_miss rfl ?_))) | refine AW_region ?_ | refine AW_draw mixed0 ?_ | (refine AL_nil ?_; (repeat (first | refine thenA_n ?_ | refine thenA_r ?_ | refine thenA_e ?_ | refine inB_n ?_ | refine inB_r ?_ | refine inB_hit ?_ | refine inB_miss rfl ?_))) | (refine AD_nil (by kernel_rfl) ?_; (repeat (first | refine thenA_n ?_ | refine thenA_r ?_ | refine thenA_e ?_ | refine inB_n ?_ | refine inB_r ?_ | refine inB_hit ?_ | refine inB_miss rfl ?_))) | (refine AW_cond_per rfl rfl (fun hc => ?_) (fun hc => ?_) <;> ((try rw [Bool.not_eq_true'] at hc) <;> (try rw [Bool.not_eq_false'] at hc) <;> (try first | rw [decide_eq_true_eq] at hc | rw [decide_eq_false_iff_not] at hc | rw [beq_iff_eq] at hc | rw [beq_eq_false_iff_ne] at hc | rw [bne_iff_ne] at hc | rw [bne_eq_false_iff_eq] at hc) <;> (repeat rw [List.length_map] at hc) <;> (try first | contradiction | (exfalso; omega) | (exfalso; simp [*] at hc; done)))) | ((first | apply AL_t rfl | apply AL_0 rfl | apply AD_t rfl | apply AD_0 rfl); focus (first | exact z_auto | fail)) | ((first | apply AL_gsplit rfl rfl rfl | apply AD_gsplit rfl rfl rfl) <;> (intro hc) <;> (fail_if_success (have q : (true = true) := hc)) <;> (fail_if_success (have q : (false = false) := hc)) <;> ((try rw [Bool.not_eq_true'] at hc) <;> (try rw [Bool.not_eq_false'] at hc) <;> (try first | rw [decide_eq_true_eq] at hc | rw [decide_eq_false_iff_not] at hc | rw [beq_iff_eq] at hc | rw [beq_eq_false_iff_ne] at hc | rw [bne_iff_ne] at hc | rw [bne_eq_false_iff_eq] at hc) <;> (repeat rw [List.length_map] at hc) <;> (try first | contradiction | (exfalso; omega) | (exfalso; simp [*] at hc; done))))))
      refine ⟨.inl rfl, resM2 [(1000, 1000), (600, 3000)] rfl rfl ?_ (rvm rfl rfl) (rvm_bool rfl rfl)⟩
      (repeat (first | exact AllX.nil | (refine AllX.cons rfl ?_ ?_; (focus first | rfl | skip))))
theorem ref_ReadItems (b : List UInt8) (hb : b.length ≤ 1000000000) : Fn Try.prog 33 [.per (bysP b)] (.tup2 (.own 25 7 ((rdItems b).1.map itP)) (inR (rdItems b).2)) := by
  have hs : b <:+ b := List.suffix_refl b
  have hb' : b.length ≤ 1000000000000 := by omega
  have h1 := ref_ReadIn b b 0 hs hb'
  have hsuf : (rdIn b 0).2.2.1 <:+ b := (rdsGo_suf _ _ _ _ _ _).trans (withinSt_suf _ _ _ _)
  generalize hQ : rdItems b = Q at *
  unfold rdItems at hQ
  generalize rdIn b 0 = R at *
  obtain ⟨acc, f, l, e⟩ := R
  simp only at hQ h1 hsuf
  have h3 := rr_End b l e hsuf
  have e0 : ((b.length - b.length : Nat) : Int) = 0 := by omega
  unfold rrBox at h1
  rw [e0] at h1
  refine fn_intro Try.func33 rfl (by kernel_rfl) Try.ntmps33 (Nat.le_of_ble_eq_true rfl) ?_
  (repeat' (first | refine AW_seq ?_ | refine AW_block ?_ | (refine AW_skip ?_; (repeat (first | refine thenA_n ?_ | refine thenA_r ?_ | refine thenA_e ?_ | refine inB_n ?_ | refine inB_r ?_ | refine inB_hit ?_ | refine inB_miss rfl ?_))) | (refine AW_exit ?_; (repeat (first | refine thenA_n ?_ | refine thenA_r ?_ | refine thenA_e ?_ | refine inB_n ?_ | refine inB_r ?_ | refine inB_hit ?_ | refine inB_miss rfl ?_))) | (refine AW_ret ?_; (repeat (first | refine thenA_n ?_ | refine thenA_r ?_ | refine thenA_e ?_ | refine inB_n ?_ | refine inB_r ?_ | refine inB_hit ?_ | refine inB_miss rfl ?_))) | refine AW_region ?_ | refine AW_draw mixed0 ?_ | (refine AL_nil ?_; (repeat (first | refine thenA_n ?_ | refine thenA_r ?_ | refine thenA_e ?_ | refine inB_n ?_ | refine inB_r ?_ | refine inB_hit ?_ | refine inB_miss rfl ?_))) | (refine AD_nil (by kernel_rfl) ?_; (repeat (first | refine thenA_n ?_ | refine thenA_r ?_ | refine thenA_e ?_ | refine inB_n ?_ | refine inB_r ?_ | refine inB_hit ?_ | refine inB_miss rfl ?_))) | (refine AW_cond_per rfl rfl (fun hc => ?_) (fun hc => ?_) <;> ((try rw [Bool.not_eq_true'] at hc) <;> (try rw [Bool.not_eq_false'] at hc) <;> (try first | rw [decide_eq_true_eq] at hc | rw [decide_eq_false_iff_not] at hc | rw [beq_iff_eq] at hc | rw [beq_eq_false_iff_ne] at hc | rw [bne_iff_ne] at hc | rw [bne_eq_false_iff_eq] at hc) <;> (repeat rw [List.length_map] at hc) <;> (try first | contradiction | (exfalso; omega) | (exfalso; simp [*] at hc; done)))) | ((first | apply AL_t rfl | apply AL_0 rfl | apply AD_t rfl | apply AD_0 rfl); focus (first | exact z_auto | (apply u_g; (focus rfl); apply op_gyes rfl rfl rfl rfl rfl; (first | exact c_M [(1000, 9), (3000, 700)] (h1) | exact c_R (h3) | fail)) | exact c_M [(1000, 9), (3000, 700)] (h1) | exact c_R (h3) | fail)) | ((first | apply AL_gsplit rfl rfl rfl | apply AD_gsplit rfl rfl rfl) <;> (intro hc) <;> (fail_if_success (have q : (true = true) := hc)) <;> (fail_if_success (have q : (false = false) := hc)) <;> ((try rw [Bool.not_eq_true'] at hc) <;> (try rw [Bool.not_eq_false'] at hc) <;> (try first | rw [decide_eq_true_eq] at hc | rw [decide_eq_false_iff_not] at hc | rw [beq_iff_eq] at hc | rw [beq_eq_false_iff_ne] at hc | rw [bne_iff_ne] at hc | rw [bne_eq_false_iff_eq] at hc) <;> (repeat rw [List.length_map] at hc) <;> (try first | contradiction | (exfalso; omega) | (exfalso; simp [*] at hc; done))))))
  · rw [finI, if_pos (by assumption)] at hQ
    subst hQ
    (refine ⟨(by first | exact .inl rfl | exact .inr rfl), res2 rfl ?_ ?_⟩)
    · exact rv_nil rfl
    · exact rv_int rfl rfl
  · rw [finI, if_neg (by simp [*]), if_pos (by assumption)] at hQ
    subst hQ
    (refine ⟨(by first | exact .inl rfl | exact .inr rfl), res2 rfl ?_ ?_⟩)
    · exact rv_nil rfl
    · exact rv_int rfl rfl
  · rw [finI, if_neg (by simp [*]), if_neg (by simp [*])] at hQ
    subst hQ
    (refine ⟨(by first | exact .inl rfl | exact .inr rfl), res2 rfl ?_ ?_⟩)
    · exact rv_own rfl rfl rfl
    · exact rv_int rfl rfl
end
end Go.Proofs.Ytnpognmpgddncaa
