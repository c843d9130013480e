/- The stable sort of items, whole: ranges swapped, rotated, merged by symmetric splits. -/
import Derived.Test.YtnpognmpgddncaaMerge
import Derived.Test.YtnpognmpgddncaaStab
namespace Go.Proofs.Ytnpognmpgddncaa
open Go.RowKit
section
variable {P : Program} {n t : Nat} {ops : Array Oper} {o : Oper} {S : St}
theorem op_shr {ty ty' : TypeId} {x y : Operand} {k k' : IntKind} {p q z : Int} (hp : Pl n o t) (ho : o.op = .binOp .shr ty x y ty') (hx : S.opd x = iC k p) (hy : S.opd y = iC k' q) (hq : 0 ≤ q) (hz : p / 2 ^ min q.toNat k.bits = z) : OpOk n P ops o (opdN x ++ opdN y) (iC k z) [] S :=
  op_val hp fun C T g a w hA hR => by
    have h1 := raw_opd (x := x) hA (fun k h => by simp [h]) hR hx
    have h2 := raw_opd (x := y) hA (fun k h => by simp [h]) hR hy
    subst hz
    refine ⟨.int k (p / 2 ^ min q.toNat k.bits), exec_bin ho h1 h2 ?_, rfl⟩
    rw [show eqGuard .shr ty x y (.int k p) (.int k' q) = pure () from rfl]
    simp only [binOp_shr, shift_shr_any k k' p q hq]
    rfl
end
theorem wrap_u64 {z : Int} (h1 : 0 ≤ z) (h2 : z ≤ 18446744073709551615) : IntKind.u64.wrap z = z := by
  simp [IntKind.wrap, IntKind.bits, IntKind.signed]; omega
theorem half_u {z h : Int} (e : z / 2 = h) : z / 2 ^ min (1 : Int).toNat IntKind.u64.bits = h := by
  rw [show min (1 : Int).toNat IntKind.u64.bits = 1 from rfl, Int.pow_one]; exact e
def ltK (x y : It) : Bool := decide (cmpB x.key y.key < 0)
theorem insG_S (x : It) : ∀ (l r : List It), insG x l r = insS ltK x l r := by
  intro l
  induction l with
  | nil => intro r; rfl
  | cons y l ih => intro r; unfold insG insS ltK; simp only [decide_eq_true_eq]; rw [ih]; rfl
theorem srtK_S (l : List It) : srtK l = srtS ltK l := by
  have : insR = insT ltK := by funext p x; exact insG_S x _ _
  unfold srtK srtS; rw [this]
theorem cmpL_lt : ∀ (a b c : List UInt8), cmpL a a = 0 ∧ (cmpL a b < 0 → cmpL b c < 0 → cmpL a c < 0) ∧ (¬ cmpL a b < 0 → ¬ cmpL b c < 0 → ¬ cmpL a c < 0) := by
  intro a
  induction a with
  | nil => intro b c; cases b <;> cases c <;> simp [cmpL]
  | cons x a ih =>
    intro b c
    refine ⟨by simp [cmpL, (ih a a).1], ?_⟩
    cases b with
    | nil => cases c <;> simp [cmpL]
    | cons y b =>
      cases c with
      | nil => simp [cmpL]
      | cons z c =>
        obtain ⟨_, h1, h2⟩ := ih b c
        simp only [cmpL]
        refine ⟨?_, ?_⟩
        · intro q1 q2
          split at q1
          · split at q2
            · rw [if_pos (by omega)]; decide
            · split at q2
              · omega
              · rw [if_pos (by omega)]; decide
          · split at q1
            · omega
            · split at q2
              · rw [if_pos (by omega)]; decide
              · split at q2
                · omega
                · rw [if_neg (by omega), if_neg (by omega)]; exact h1 q1 q2
        · intro q1 q2
          split at q1
          · omega
          · split at q1
            · split at q2
              · omega
              · rw [if_neg (by omega)]
                split
                · decide
                · omega
            · split at q2
              · omega
              · split at q2
                · rw [if_neg (by omega), if_pos (by omega)]; decide
                · rw [if_neg (by omega), if_neg (by omega)]; exact h2 q1 q2
theorem ltK_wo : SWo ltK := by
  refine ⟨fun x => ?_, fun x y z h1 h2 => ?_, fun x y z h1 h2 => ?_⟩
  · exact decide_eq_false (by have := (cmpL_lt x.key.data.toList [] []).1; unfold cmpB; omega)
  · exact decide_eq_true ((cmpL_lt x.key.data.toList y.key.data.toList z.key.data.toList).2.1 (of_decide_eq_true h1) (of_decide_eq_true h2))
  · exact decide_eq_false ((cmpL_lt x.key.data.toList y.key.data.toList z.key.data.toList).2.2 (of_decide_eq_false h1) (of_decide_eq_false h2))
theorem kOk_app {l r : List It} (h1 : kOk l) (h2 : kOk r) : kOk (l ++ r) := fun x hx => (List.mem_append.1 hx).elim (h1 x) (h2 x)
theorem kOk_sub {l r : List It} (h : kOk r) (hs : ∀ x ∈ l, x ∈ r) : kOk l := fun x hx => h x (hs x hx)
theorem get_app {α : Type} (A : List α) (x : α) (T : List α) (j : Nat) (hj : j = A.length) : (A ++ x :: T)[j]? = some x := by
  subst hj; simp
section
set_option maxRecDepth 10000
set_option maxHeartbeats 4000000
theorem sym_swap (A X B Y Z : List It) (a b n : Int) (ha : a = (A.length : Nat)) (hb : b = ((A.length + X.length + B.length : Nat) : Int)) (hn : n = (X.length : Nat)) (hxy : X.length = Y.length) (hl : A.length + X.length + B.length + Y.length + Z.length ≤ 1000000000) :
    FnM Try.prog 165 [.row 1000 0, iC .i64 a, iC .i64 b, iC .i64 n, cmpC] [(1000, itsW (A ++ X ++ B ++ Y ++ Z))] .any [(1000, itsW (A ++ Y ++ B ++ X ++ Z))] := by
  subst ha hb hn
  generalize hR : A ++ Y ++ B ++ X ++ Z = R
  refine fnm_intro Try.func165 rfl (by kernel_rfl) Try.ntmps165 (Nat.le_of_ble_eq_true rfl) ?_
  (repeat' (first | refine AW_seq ?_ | refine AW_block ?_ | (refine AW_skip ?_; (repeat (first | refine thenA_n ?_ | refine thenA_r ?_ | refine thenA_e ?_ | refine inB_n ?_ | refine inB_r ?_ | refine inB_hit ?_ | refine inB_miss rfl ?_))) | (refine AW_exit ?_; (repeat (first | refine thenA_n ?_ | refine thenA_r ?_ | refine thenA_e ?_ | refine inB_n ?_ | refine inB_r ?_ | refine inB_hit ?_ | refine inB_miss rfl ?_))) | (refine AW_ret ?_; (repeat (first | refine thenA_n ?_ | refine thenA_r ?_ | refine thenA_e ?_ | refine inB_n ?_ | refine inB_r ?_ | refine inB_hit ?_ | refine inB_miss rfl ?_))) | refine AW_region ?_ | refine AW_draw mixed0 ?_ | (refine AL_nil ?_; (repeat (first | refine thenA_n ?_ | refine thenA_r ?_ | refine thenA_e ?_ | refine inB_n ?_ | refine inB_r ?_ | refine inB_hit ?_ | refine inB_miss rfl ?_))) | (refine AD_nil (by kernel_rfl) ?_; (repeat (first | refine thenA_n ?_ | refine thenA_r ?_ | refine thenA_e ?_ | refine inB_n ?_ | refine inB_r ?_ | refine inB_hit ?_ | refine inB_miss rfl ?_))) | (refine AW_cond_per rfl rfl (fun hc => ?_) (fun hc => ?_) <;> ((try rw [Bool.not_eq_true'] at hc) <;> (try rw [Bool.not_eq_false'] at hc) <;> (try first | rw [decide_eq_true_eq] at hc | rw [decide_eq_false_iff_not] at hc | rw [beq_iff_eq] at hc | rw [beq_eq_false_iff_ne] at hc | rw [bne_iff_ne] at hc | rw [bne_eq_false_iff_eq] at hc) <;> (repeat rw [List.length_map] at hc) <;> (try first | contradiction | (exfalso; omega) | (exfalso; simp [*] at hc; done)))) | ((first | apply AL_t rfl | apply AL_0 rfl | apply AD_t rfl | apply AD_0 rfl); focus (first | exact z_auto | fail)) | ((first | apply AL_gsplit rfl rfl rfl | apply AD_gsplit rfl rfl rfl) <;> (intro hc) <;> (fail_if_success (have q : (true = true) := hc)) <;> (fail_if_success (have q : (false = false) := hc)) <;> ((try rw [Bool.not_eq_true'] at hc) <;> (try rw [Bool.not_eq_false'] at hc) <;> (try first | rw [decide_eq_true_eq] at hc | rw [decide_eq_false_iff_not] at hc | rw [beq_iff_eq] at hc | rw [beq_eq_false_iff_ne] at hc | rw [bne_iff_ne] at hc | rw [bne_eq_false_iff_eq] at hc) <;> (repeat rw [List.length_map] at hc) <;> (try first | contradiction | (exfalso; omega) | (exfalso; simp [*] at hc; done))))))
  refine AW_loopP (X := List It × List It × List It × List It) (fun x => x.1.length + x.2.1.length = X.length ∧ x.1.length = x.2.2.1.length ∧ x.2.1.length = x.2.2.2.length ∧ A ++ (x.2.2.1 ++ x.2.2.2) ++ B ++ (x.1 ++ x.2.1) ++ Z = R)
    (fun x => mkSt [(0, .row 1000 0), (1, iC .i64 (A.length : Nat)), (2, iC .i64 ((A.length + X.length + B.length : Nat) : Int)), (3, iC .i64 (X.length : Nat)), (10, iC .i64 (x.1.length : Nat))] [(1000, itsW (A ++ x.2.2.1 ++ (x.2.1 ++ (B ++ (x.1 ++ (x.2.2.2 ++ Z))))))]) (fun x => x.2.1.length) ([], X, [], Y) ⟨by simp, rfl, hxy, by simpa using hR⟩ ?_ ?_
  · have e : A ++ [] ++ (X ++ (B ++ ([] ++ (Y ++ Z)))) = A ++ X ++ B ++ Y ++ Z := by simp
    rw [e]
    (refine Le_mk ?_ ?_; (focus ((repeat (first | exact AllG.nil | (refine AllG.cons ?_ ?_; rotate_left))); (all_goals try (first | rfl | (refine eqI ?_; first | omega | (simp; done) | (simp; omega)) | (refine eqBo ?_; first | (simp; done) | (simp [*]; done)))))); (focus ((repeat (first | exact AllB.nil | (refine AllB.cons ?_ ?_; rotate_left))); (all_goals try (first | rfl | (refine eqRw ?_; (rw [List.map_append] <;> rfl); done) | (refine eqMix ?_; (rw [List.map_append] <;> rfl); done))))))
  · rintro ⟨x1, x2, y1, y2⟩ ⟨h1, h2, h3, h4⟩
    simp only at h1 h2 h3 h4 ⊢
    cases x2 with
    | nil =>
      have hy2 : y2 = [] := List.eq_nil_of_length_eq_zero (by simpa using h3.symm)
      subst hy2
      have hi : x1.length = X.length := by simpa using h1
      have e : A ++ y1 ++ ([] ++ (B ++ (x1 ++ ([] ++ Z)))) = R := by rw [← h4]; simp
      rw [e, hi]
      (repeat' (first | refine AW_seq ?_ | refine AW_block ?_ | (refine AW_skip ?_; (repeat (first | refine thenA_n ?_ | refine thenA_r ?_ | refine thenA_e ?_ | refine inB_n ?_ | refine inB_r ?_ | refine inB_hit ?_ | refine inB_miss rfl ?_))) | (refine AW_exit ?_; (repeat (first | refine thenA_n ?_ | refine thenA_r ?_ | refine thenA_e ?_ | refine inB_n ?_ | refine inB_r ?_ | refine inB_hit ?_ | refine inB_miss rfl ?_))) | (refine AW_ret ?_; (repeat (first | refine thenA_n ?_ | refine thenA_r ?_ | refine thenA_e ?_ | refine inB_n ?_ | refine inB_r ?_ | refine inB_hit ?_ | refine inB_miss rfl ?_))) | refine AW_region ?_ | refine AW_draw mixed0 ?_ | (refine AL_nil ?_; (repeat (first | refine thenA_n ?_ | refine thenA_r ?_ | refine thenA_e ?_ | refine inB_n ?_ | refine inB_r ?_ | refine inB_hit ?_ | refine inB_miss rfl ?_))) | (refine AD_nil (by kernel_rfl) ?_; (repeat (first | refine thenA_n ?_ | refine thenA_r ?_ | refine thenA_e ?_ | refine inB_n ?_ | refine inB_r ?_ | refine inB_hit ?_ | refine inB_miss rfl ?_))) | (refine AW_cond_per rfl rfl (fun hc => ?_) (fun hc => ?_) <;> ((try rw [Bool.not_eq_true'] at hc) <;> (try rw [Bool.not_eq_false'] at hc) <;> (try first | rw [decide_eq_true_eq] at hc | rw [decide_eq_false_iff_not] at hc | rw [beq_iff_eq] at hc | rw [beq_eq_false_iff_ne] at hc | rw [bne_iff_ne] at hc | rw [bne_eq_false_iff_eq] at hc) <;> (repeat rw [List.length_map] at hc) <;> (try first | contradiction | (exfalso; omega) | (exfalso; simp [*] at hc; done)))) | ((first | apply AL_t rfl | apply AL_0 rfl | apply AD_t rfl | apply AD_0 rfl); focus (first | exact z_auto | fail)) | ((first | apply AL_gsplit rfl rfl rfl | apply AD_gsplit rfl rfl rfl) <;> (intro hc) <;> (fail_if_success (have q : (true = true) := hc)) <;> (fail_if_success (have q : (false = false) := hc)) <;> ((try rw [Bool.not_eq_true'] at hc) <;> (try rw [Bool.not_eq_false'] at hc) <;> (try first | rw [decide_eq_true_eq] at hc | rw [decide_eq_false_iff_not] at hc | rw [beq_iff_eq] at hc | rw [beq_eq_false_iff_ne] at hc | rw [bne_iff_ne] at hc | rw [bne_eq_false_iff_eq] at hc) <;> (repeat rw [List.length_map] at hc) <;> (try first | contradiction | (exfalso; omega) | (exfalso; simp [*] at hc; done))))))
      (refine ⟨(by first | exact .inl rfl | exact .inr rfl), resM0 [(1000, 1000)] rfl rfl ?_⟩; (focus (repeat (first | exact AllX.nil | (refine AllX.cons rfl ?_ ?_; (focus first | rfl | skip))))))
    | cons x x2 =>
      obtain ⟨y, y2, rfl⟩ : ∃ y y2', y2 = y :: y2' := by
        cases y2 with
        | nil => simp at h3
        | cons y y2 => exact ⟨y, y2, rfl⟩
      simp only [List.length_cons] at h1 h3
      obtain ⟨i, hi⟩ : ∃ i, x1.length = i := ⟨_, rfl⟩
      obtain ⟨a, ha⟩ : ∃ a, A.length = a := ⟨_, rfl⟩
      obtain ⟨b, hb⟩ : ∃ b, A.length + X.length + B.length = b := ⟨_, rfl⟩
      obtain ⟨q, hq⟩ : ∃ q, X.length = q := ⟨_, rfl⟩
      generalize hD : A ++ y1 ++ (x :: x2 ++ (B ++ (x1 ++ (y :: y2 ++ Z)))) = D
      have hlen : D.length = A.length + X.length + B.length + Y.length + Z.length := by
        rw [← hD]; simp; omega
      have HA : (D.map itP)[((a : Int) + (i : Int)).toNat]? = some (itP x) := by
        rw [List.getElem?_map, ← hD, show A ++ y1 ++ (x :: x2 ++ (B ++ (x1 ++ (y :: y2 ++ Z)))) = (A ++ y1) ++ x :: (x2 ++ (B ++ (x1 ++ (y :: y2 ++ Z)))) by simp, get_app _ _ _ _ (by simp; omega)]; rfl
      have HB : (D.map itP)[((b : Int) + (i : Int)).toNat]? = some (itP y) := by
        rw [List.getElem?_map, ← hD, show A ++ y1 ++ (x :: x2 ++ (B ++ (x1 ++ (y :: y2 ++ Z)))) = (A ++ y1 ++ x :: x2 ++ B ++ x1) ++ y :: (y2 ++ Z) by simp, get_app _ _ _ _ (by simp; omega)]; rfl
      have HS1 : (D.map itP).set ((a : Int) + (i : Int)).toNat (setP (itP x) 0 (itP y)) = (A ++ y1 ++ y :: (x2 ++ (B ++ (x1 ++ (y :: y2 ++ Z))))).map itP := by
        rw [show (D.map itP).set ((a : Int) + (i : Int)).toNat (setP (itP x) 0 (itP y)) = (D.set ((a : Int) + (i : Int)).toNat y).map itP from map_set' itP _ _ _, ← hD, show A ++ y1 ++ (x :: x2 ++ (B ++ (x1 ++ (y :: y2 ++ Z)))) = (A ++ y1) ++ x :: (x2 ++ (B ++ (x1 ++ (y :: y2 ++ Z)))) by simp, set_at _ _ _ _ _ (by simp; omega)]
      generalize hD1 : A ++ y1 ++ y :: (x2 ++ (B ++ (x1 ++ (y :: y2 ++ Z)))) = D1 at HS1
      have hlen1 : D1.length = D.length := by rw [hlen, ← hD1]; simp; omega
      have HB1 : (D1.map itP)[((b : Int) + (i : Int)).toNat]? = some (itP y) := by
        rw [List.getElem?_map, ← hD1, show A ++ y1 ++ y :: (x2 ++ (B ++ (x1 ++ (y :: y2 ++ Z)))) = (A ++ y1 ++ y :: x2 ++ B ++ x1) ++ y :: (y2 ++ Z) by simp, get_app _ _ _ _ (by simp; omega)]; rfl
      have HS2 : (D1.map itP).set ((b : Int) + (i : Int)).toNat (setP (itP y) 0 (itP x)) = (A ++ (y1 ++ [y]) ++ (x2 ++ (B ++ (x1 ++ [x] ++ (y2 ++ Z))))).map itP := by
        rw [show (D1.map itP).set ((b : Int) + (i : Int)).toNat (setP (itP y) 0 (itP x)) = (D1.set ((b : Int) + (i : Int)).toNat x).map itP from map_set' itP _ _ _, ← hD1, show A ++ y1 ++ y :: (x2 ++ (B ++ (x1 ++ (y :: y2 ++ Z)))) = (A ++ y1 ++ y :: x2 ++ B ++ x1) ++ y :: (y2 ++ Z) by simp, set_at _ _ _ _ _ (by simp; omega)]
        simp
      rw [hi, hb, ha, hq]
      (repeat' (first | refine AW_seq ?_ | refine AW_block ?_ | (refine AW_skip ?_; (repeat (first | refine thenA_n ?_ | refine thenA_r ?_ | refine thenA_e ?_ | refine inB_n ?_ | refine inB_r ?_ | refine inB_hit ?_ | refine inB_miss rfl ?_))) | (refine AW_exit ?_; (repeat (first | refine thenA_n ?_ | refine thenA_r ?_ | refine thenA_e ?_ | refine inB_n ?_ | refine inB_r ?_ | refine inB_hit ?_ | refine inB_miss rfl ?_))) | (refine AW_ret ?_; (repeat (first | refine thenA_n ?_ | refine thenA_r ?_ | refine thenA_e ?_ | refine inB_n ?_ | refine inB_r ?_ | refine inB_hit ?_ | refine inB_miss rfl ?_))) | refine AW_region ?_ | refine AW_draw mixed0 ?_ | (refine AL_nil ?_; (repeat (first | refine thenA_n ?_ | refine thenA_r ?_ | refine thenA_e ?_ | refine inB_n ?_ | refine inB_r ?_ | refine inB_hit ?_ | refine inB_miss rfl ?_))) | (refine AD_nil (by kernel_rfl) ?_; (repeat (first | refine thenA_n ?_ | refine thenA_r ?_ | refine thenA_e ?_ | refine inB_n ?_ | refine inB_r ?_ | refine inB_hit ?_ | refine inB_miss rfl ?_))) | (refine AW_cond_per rfl rfl (fun hc => ?_) (fun hc => ?_) <;> ((try rw [Bool.not_eq_true'] at hc) <;> (try rw [Bool.not_eq_false'] at hc) <;> (try first | rw [decide_eq_true_eq] at hc | rw [decide_eq_false_iff_not] at hc | rw [beq_iff_eq] at hc | rw [beq_eq_false_iff_ne] at hc | rw [bne_iff_ne] at hc | rw [bne_eq_false_iff_eq] at hc) <;> (repeat rw [List.length_map] at hc) <;> (try first | contradiction | (exfalso; omega) | (exfalso; simp [*] at hc; done)))) | ((first | apply AL_t rfl | apply AL_0 rfl | apply AD_t rfl | apply AD_0 rfl); focus (first | exact z_auto | (apply u_g; (focus rfl); apply op_gyes rfl rfl rfl rfl rfl; (first | ((apply u_k 5; (focus rfl); first | exact u_load_rA ⟨rfl, rfl, rfl⟩ rfl inferInstance inferInstance rfl rfl rfl HA rfl rfl rfl | exact u_load_rA ⟨rfl, rfl, rfl⟩ rfl inferInstance inferInstance rfl rfl rfl HB rfl rfl rfl)) | ((apply u_k 6; (focus rfl); first | exact u_store_r ⟨rfl, rfl⟩ rfl inferInstance rfl rfl rfl rfl HA rfl (.inl rfl) rfl HS1 | exact u_store_r ⟨rfl, rfl⟩ rfl inferInstance rfl rfl rfl rfl HB1 rfl (.inl rfl) rfl HS2)) | fail)) | ((apply u_k 5; (focus rfl); first | exact u_load_rA ⟨rfl, rfl, rfl⟩ rfl inferInstance inferInstance rfl rfl rfl HA rfl rfl rfl | exact u_load_rA ⟨rfl, rfl, rfl⟩ rfl inferInstance inferInstance rfl rfl rfl HB rfl rfl rfl)) | ((apply u_k 6; (focus rfl); first | exact u_store_r ⟨rfl, rfl⟩ rfl inferInstance rfl rfl rfl rfl HA rfl (.inl rfl) rfl HS1 | exact u_store_r ⟨rfl, rfl⟩ rfl inferInstance rfl rfl rfl rfl HB1 rfl (.inl rfl) rfl HS2)) | fail)) | ((first | apply AL_gsplit rfl rfl rfl | apply AD_gsplit rfl rfl rfl) <;> (intro hc) <;> (fail_if_success (have q : (true = true) := hc)) <;> (fail_if_success (have q : (false = false) := hc)) <;> ((try rw [Bool.not_eq_true'] at hc) <;> (try rw [Bool.not_eq_false'] at hc) <;> (try first | rw [decide_eq_true_eq] at hc | rw [decide_eq_false_iff_not] at hc | rw [beq_iff_eq] at hc | rw [beq_eq_false_iff_ne] at hc | rw [bne_iff_ne] at hc | rw [bne_eq_false_iff_eq] at hc) <;> (repeat rw [List.length_map] at hc) <;> (try first | contradiction | (exfalso; omega) | (exfalso; simp [*] at hc; done))))))
      refine ⟨(x1 ++ [x], x2, y1 ++ [y], y2), ⟨by simp; omega, by simp; omega, by simp only; omega, by rw [← h4]; simp⟩, by simp, ?_⟩
      simp only [List.length_append, List.length_cons, List.length_nil, hi]
      (refine Le_mk ?_ ?_; (focus ((repeat (first | exact AllG.nil | (refine AllG.cons ?_ ?_; rotate_left))); (all_goals try (first | rfl | (refine eqI ?_; first | omega | (simp; done) | (simp; omega)) | (refine eqBo ?_; first | (simp; done) | (simp [*]; done)))))); (focus ((repeat (first | exact AllB.nil | (refine AllB.cons ?_ ?_; rotate_left))); (all_goals try (first | rfl | (refine eqRw ?_; (rw [List.map_append] <;> rfl); done) | (refine eqMix ?_; (rw [List.map_append] <;> rfl); done))))))
end
end Go.Proofs.Ytnpognmpgddncaa
