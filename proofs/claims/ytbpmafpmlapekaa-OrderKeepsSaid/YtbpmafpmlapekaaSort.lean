/- Items sorted by their keys, as the library's stable sort does. -/
import Derived.Test.YtbpmafpmlapekaaCmp
namespace Go.Proofs.Ytbpmafpmlapekaa
open Go.RowKit
section
variable {P : Program} {n : Nat} {ops : Array Oper} {o : Oper} {S : St}
/-- a call of a function that lies in a slot -/
theorem c_V {f : FuncId} {x0 : Operand} {xs : List Operand} {As : List Cnt} {pre post : List (Nat × Blk)} {r : Cnt} (sg : List (Nat × Nat)) (hf : FnM P f As pre r post) (hp : PlM n o := by exact ⟨rfl, rfl⟩) (ho : isCallV o x0 xs := by exact ⟨_, rfl⟩) (hx : S.opd x0 = .per (rawP (.func (.func f) #[] #[])) := by rfl) (hok : okS sg = true := by rfl)
    (hg : GMl S sg xs As := by first | ((repeat (first | exact GMl.nil | (refine GMl.cons ?_ ?_; focus (first | exact gq_per rfl | exact gq_lst rfl | exact gq_row rfl rfl rfl rfl | exact gq_bor rfl | exact gq_nil rfl | exact gq_nil' rfl | exact gq_ref rfl rfl)))); done) | fail) (hpre : PreM S sg pre := by first | ((repeat (first | exact PreM.nil | (refine PreM.cons rfl rfl ?_))); done) | fail) : OpOk n P ops o (opdN x0 ++ (callN S xs ++ sgN sg)) (r.mp false (lk1 sg) z0 (nvM S.ver sg)) (updM S post sg sg) S :=
  op_callM (cs := []) sg hp ho (head_raw hx (fun k h => by simp [h])) (by simpa using hf) hok (fun p h => by simp [sg_mem p h]) (hg.gives (fun _ h => by simp at h ⊢; exact .inr (.inl h)) (fun _ h => by simp [h])) hpre
end
/-- an item put among others: behind the last one that it does not stand ahead of -/
def insG (x : It) : List It → List It → List It
  | [], r => x :: r
  | y :: l, r => if cmpB x.key y.key < 0 then insG x l (y :: r) else (y :: l).reverse ++ x :: r
def insR (p : List It) (x : It) : List It := insG x p.reverse []
def srtK (l : List It) : List It := l.foldl insR []
theorem insG_len (x : It) : ∀ (l r : List It), (insG x l r).length = l.length + 1 + r.length := by
  intro l
  induction l with
  | nil => intro r; simp [insG]; omega
  | cons y l ih =>
    intro r
    unfold insG
    split
    · rw [ih]; simp; omega
    · simp; omega
abbrev cmpC : Cnt := .per (rawP (.func (.func 79) #[] #[]))
abbrev itsW (l : List It) : Blk := .row 62 7 (l.map itP)
/-- no key is too long -/
def kOk (l : List It) : Prop := ∀ x ∈ l, x.key.size ≤ 1000000000
theorem set_at {α : Type} (A : List α) (x y : α) (T : List α) (j : Nat) (hj : j = A.length) : (A ++ x :: T).set j y = A ++ y :: T := by
  subst hj; simp
theorem snoc_cases {α : Type} (l : List α) : l = [] ∨ ∃ (l' : List α) (y : α), l = l' ++ [y] := by
  rcases List.eq_nil_or_concat l with h | ⟨a, y, h⟩
  · exact .inl h
  · exact .inr ⟨a, y, by rw [h]; simp⟩
theorem map_set' {α β : Type} (f : α → β) (l : List α) (j : Nat) (y : α) : (l.map f).set j (f y) = (l.set j y).map f := by rw [List.map_set]
section
set_option maxRecDepth 10000
set_option maxHeartbeats 4000000
theorem merge_1 (x y : It) (hx : x.key.size ≤ 1000000000) : FnM Try.prog 79 [itC x, itC y] [] (.per (rawP (.int .i64 (cmpB x.key y.key)))) [] := by
  have h1 := key_Cmp x.key y.key (by omega)
  refine fnm_intro Try.func79 rfl (by kernel_rfl) Try.ntmps79 (Nat.le_of_ble_eq_true rfl) ?_
  (repeat' (first | refine AW_seq ?_ | refine AW_block ?_ | refine AW_skip ?_ | refine AW_exit ?_ | refine AW_ret ?_ | refine AW_region ?_ | refine AW_draw mixed0 ?_ | refine AL_nil ?_ | refine AD_nil (by kernel_rfl) ?_ | (refine AW_cl rfl rfl ⟨fun hc => ?_, fun hc => ?_⟩ <;> (repeat rw [List.length_map] at hc) <;> (try exact absd hc)) | ((first | apply AL_t rfl | apply AL_0 rfl | apply AD_t rfl | apply AD_0 rfl); focus (first | exact z_auto | exact c_A (h1) | fail)) | refine thenA_n ?_ | refine thenA_r ?_ | refine thenA_e ?_ | refine inB_n ?_ | refine inB_r ?_ | refine inB_hit ?_ | refine inB_miss rfl ?_ | ((first | refine AL_cl rfl rfl rfl ⟨fun hc => ?_, fun hc => ?_⟩ | refine AD_cl rfl rfl rfl ⟨fun hc => ?_, fun hc => ?_⟩) <;> (fail_if_success (have q : (true = true) := hc)) <;> (fail_if_success (have q : (false = false) := hc)) <;> (repeat rw [List.length_map] at hc) <;> (try exact absd hc)) | refine AW_cond_nil rfl rfl (fun hc => ?_) ?_))
  refine ⟨(by first | exact .inl rfl | exact .inr rfl), resM1 [] rfl rfl .nil ?_⟩
  exact rvm_int rfl rfl
theorem sort_ins (A M Z : List It) (hk : kOk M) (hl : (A ++ M ++ Z).length ≤ 1000000000) : FnM Try.prog 140 [.row 1000 0, iC .i64 (A.length : Nat), iC .i64 ((A.length + M.length : Nat) : Int), cmpC] [(1000, itsW (A ++ M ++ Z))] .any [(1000, itsW (A ++ srtK M ++ Z))] := by
  generalize hR : A ++ srtK M ++ Z = R
  generalize hb : A.length + M.length = b
  simp only [List.length_append] at hl
  refine fnm_intro Try.func140 rfl (by kernel_rfl) Try.ntmps140 (Nat.le_of_ble_eq_true rfl) ?_
  (repeat' (first | refine AW_seq ?_ | refine AW_block ?_ | refine AW_skip ?_ | refine AW_exit ?_ | refine AW_ret ?_ | refine AW_region ?_ | refine AW_draw mixed0 ?_ | refine AL_nil ?_ | refine AD_nil (by kernel_rfl) ?_ | (refine AW_cl rfl rfl ⟨fun hc => ?_, fun hc => ?_⟩ <;> (repeat rw [List.length_map] at hc) <;> (try exact absd hc)) | ((first | apply AL_t rfl | apply AL_0 rfl | apply AD_t rfl | apply AD_0 rfl); focus (first | exact z_auto | fail)) | refine thenA_n ?_ | refine thenA_r ?_ | refine thenA_e ?_ | refine inB_n ?_ | refine inB_r ?_ | refine inB_hit ?_ | refine inB_miss rfl ?_ | ((first | refine AL_cl rfl rfl rfl ⟨fun hc => ?_, fun hc => ?_⟩ | refine AD_cl rfl rfl rfl ⟨fun hc => ?_, fun hc => ?_⟩) <;> (fail_if_success (have q : (true = true) := hc)) <;> (fail_if_success (have q : (false = false) := hc)) <;> (repeat rw [List.length_map] at hc) <;> (try exact absd hc)) | refine AW_cond_nil rfl rfl (fun hc => ?_) ?_))
  refine AW_loopP (X := Nat × List It × List It) (fun x => A.length < x.1 ∧ x.1 ≤ b + 1 ∧ A.length + x.2.1.length = min x.1 b ∧ A.length + x.2.1.length + x.2.2.length = b ∧ kOk x.2.1 ∧ kOk x.2.2 ∧ A ++ x.2.2.foldl insR x.2.1 ++ Z = R)
    (fun x => mkSt [(0, .row 1000 0), (1, iC .i64 (A.length : Nat)), (2, iC .i64 (b : Nat)), (3, cmpC), (8, iC .i64 (x.1 : Nat))] [(1000, itsW (A ++ x.2.1 ++ (x.2.2 ++ Z)))]) (fun x => b + 1 - x.1) (A.length + 1, M.take 1, M.drop 1) ?_ ?_ ?_
  · refine ⟨by simp only; omega, by simp only; omega, by simp only [List.length_take]; omega, by simp only [List.length_take, List.length_drop]; omega, fun x h => hk x (List.mem_of_mem_take h), fun x h => hk x (List.mem_of_mem_drop h), ?_⟩
    rw [← hR]
    cases M with
    | nil => rfl
    | cons x M => rfl
  · have e : A ++ M.take 1 ++ (M.drop 1 ++ Z) = A ++ M ++ Z := by
      rw [List.append_assoc, ← List.append_assoc (M.take 1), List.take_append_drop, List.append_assoc]
    rw [e]
    exact le_auto
  · rintro ⟨i, p, q⟩ ⟨h1, h2, h3, h4, hkp, hkq, h5⟩
    simp only at h1 h2 h3 h4 hkp hkq h5 ⊢
    by_cases hlt : i < b
    · obtain ⟨x, q, rfl⟩ : ∃ x q', q = x :: q' := by
        cases q with
        | nil => simp at h4; omega
        | cons x q => exact ⟨x, q, rfl⟩
      have hip : A.length + p.length = i := by omega
      clear h3
      have hkx := hkq x (by simp)
      simp only [List.length_cons, List.foldl_cons] at h4 h5
      (repeat' (first | refine AW_seq ?_ | refine AW_block ?_ | refine AW_skip ?_ | refine AW_exit ?_ | refine AW_ret ?_ | refine AW_region ?_ | refine AL_nil ?_ | refine AD_nil (by kernel_rfl) ?_ | (refine AW_cl rfl rfl ⟨fun hc => ?_, fun hc => ?_⟩ <;> (repeat rw [List.length_map] at hc) <;> (try exact absd hc)) | ((first | apply AL_t rfl | apply AL_0 rfl | apply AD_t rfl | apply AD_0 rfl); focus (first | exact z_auto | fail)) | refine thenA_n ?_ | refine thenA_r ?_ | refine thenA_e ?_ | refine inB_n ?_ | refine inB_r ?_ | refine inB_hit ?_ | refine inB_miss rfl ?_ | ((first | refine AL_cl rfl rfl rfl ⟨fun hc => ?_, fun hc => ?_⟩ | refine AD_cl rfl rfl rfl ⟨fun hc => ?_, fun hc => ?_⟩) <;> (fail_if_success (have q : (true = true) := hc)) <;> (fail_if_success (have q : (false = false) := hc)) <;> (repeat rw [List.length_map] at hc) <;> (try exact absd hc)) | refine AW_cond_nil rfl rfl (fun hc => ?_) ?_))
      refine AW_loopP (X := List It × List It) (fun y => y.1.length + y.2.length = p.length ∧ kOk y.1 ∧ kOk y.2 ∧ insG x y.1.reverse y.2 = insR p x)
        (fun y => mkSt [(0, .row 1000 0), (1, iC .i64 (A.length : Nat)), (2, iC .i64 (b : Nat)), (3, cmpC), (8, iC .i64 (i : Nat)), (9, iC .i64 ((A.length + y.1.length : Nat) : Int))] [(1000, itsW (A ++ y.1 ++ x :: (y.2 ++ (q ++ Z))))]) (fun y => y.1.length) (p, []) ⟨by simp, hkp, fun x h => by simp at h, rfl⟩ ?_ ?_
      · subst hip
        exact le_auto
      · rintro ⟨p1, p2⟩ ⟨g1, gk1, gk2, g2⟩
        simp only at g1 gk1 gk2 g2 ⊢
        have out : insR p x = p1 ++ x :: p2 → (∃ z : Nat × List It × List It, (A.length < z.1 ∧ z.1 ≤ b + 1 ∧ A.length + z.2.1.length = min z.1 b ∧ A.length + z.2.1.length + z.2.2.length = b ∧ kOk z.2.1 ∧ kOk z.2.2 ∧ A ++ z.2.2.foldl insR z.2.1 ++ Z = R) ∧ z = (i + 1, p1 ++ x :: p2, q)) := fun e => by
          refine ⟨_, ⟨by simp only; omega, by simp only; omega, by simp; omega, by simp; omega, fun y hy => ?_, fun y hy => hkq y (by simp [hy]), by rw [← e]; exact h5⟩, rfl⟩
          rcases List.mem_append.1 hy with h | h
          · exact gk1 y h
          · rcases List.mem_cons.1 h with h | h
            · subst h; exact hkx
            · exact gk2 y h
        have hL0 : A ++ p1 ++ x :: (p2 ++ (q ++ Z)) = A ++ (p1 ++ x :: p2) ++ (q ++ Z) := by simp
        rcases snoc_cases p1 with rfl | ⟨p1', y, rfl⟩
        · have e : insR p x = [] ++ x :: p2 := by rw [← g2]; rfl
          obtain ⟨z, hz, rfl⟩ := out e
          rw [hL0]
          (repeat' (first | refine AW_seq ?_ | refine AW_block ?_ | refine AW_skip ?_ | refine AW_exit ?_ | refine AW_ret ?_ | refine AW_region ?_ | refine AW_draw mixed0 ?_ | refine AL_nil ?_ | refine AD_nil (by kernel_rfl) ?_ | (refine AW_cl rfl rfl ⟨fun hc => ?_, fun hc => ?_⟩ <;> (repeat rw [List.length_map] at hc) <;> (try exact absd hc)) | ((first | apply AL_t rfl | apply AL_0 rfl | apply AD_t rfl | apply AD_0 rfl); focus (first | exact z_auto | fail)) | refine thenA_n ?_ | refine thenA_r ?_ | refine thenA_e ?_ | refine inB_n ?_ | refine inB_r ?_ | refine inB_hit ?_ | refine inB_miss rfl ?_ | ((first | refine AL_cl rfl rfl rfl ⟨fun hc => ?_, fun hc => ?_⟩ | refine AD_cl rfl rfl rfl ⟨fun hc => ?_, fun hc => ?_⟩) <;> (fail_if_success (have q : (true = true) := hc)) <;> (fail_if_success (have q : (false = false) := hc)) <;> (repeat rw [List.length_map] at hc) <;> (try exact absd hc)) | refine AW_cond_nil rfl rfl (fun hc => ?_) ?_))
          refine ⟨_, hz, by simp only; omega, ?_⟩
          exact le_auto
        · obtain ⟨j, hj⟩ : ∃ j, A.length + p1'.length = j := ⟨_, rfl⟩
          have hj1 : A.length + (p1' ++ [y]).length = j + 1 := by simp; omega
          have hky := gk1 y (by simp)
          have hm := merge_1 x y hkx
          generalize hL : A ++ (p1' ++ [y]) ++ x :: (p2 ++ (q ++ Z)) = L at *
          have hlen : j + 1 < L.length := by rw [← hL]; simp; omega
          have HJ : (L.map itP)[j + 1]? = some (itP x) := by
            rw [List.getElem?_map, ← hL, List.getElem?_append_right (by simp; omega), List.length_append, hj1, Nat.sub_self]; rfl
          have HJ1 : (L.map itP)[j]? = some (itP y) := by
            rw [List.getElem?_map, ← hL, List.append_assoc, List.append_assoc, List.getElem?_append_right (by omega), List.getElem?_append_right (by omega)]
            rw [show j - A.length - p1'.length = 0 by omega]; rfl
          rw [hj1]
          have hrev : (p1' ++ [y]).reverse = y :: p1'.reverse := by simp
          rw [hrev, insG] at g2
          have HS1 : (L.map itP).set (j + 1) (setP (itP x) 0 (itP y)) = (L.set (j + 1) y).map itP := by rw [← map_set']; rfl
          have HJ2 : ((L.set (j + 1) y).map itP)[j]? = some (itP y) := by
            rw [← map_set', List.getElem?_set_ne (by omega)]; exact HJ1
          have HS2 : ((L.set (j + 1) y).map itP).set j (setP (itP y) 0 (itP x)) = (A ++ p1' ++ x :: ((y :: p2) ++ (q ++ Z))).map itP := by
            rw [map_set' itP (L.set (j + 1) y) j x |>.symm.trans rfl |> fun h => (show ((L.set (j + 1) y).map itP).set j (setP (itP y) 0 (itP x)) = ((L.set (j + 1) y).set j x).map itP from map_set' itP _ j x)]
            rw [← hL, set_at (A ++ (p1' ++ [y])) x y _ (j + 1) (by simp; omega), show A ++ (p1' ++ [y]) ++ y :: (p2 ++ (q ++ Z)) = (A ++ p1') ++ y :: (y :: (p2 ++ (q ++ Z))) by simp, set_at (A ++ p1') y x _ j (by simp; omega)]
            simp
          by_cases hxy : cmpB x.key y.key < 0
          · rw [if_pos hxy] at g2
            clear out
            (repeat' (first | refine AW_seq ?_ | refine AW_block ?_ | refine AW_skip ?_ | refine AW_exit ?_ | refine AW_ret ?_ | refine AW_region ?_ | refine AW_draw mixed0 ?_ | refine AL_nil ?_ | refine AD_nil (by kernel_rfl) ?_ | (refine AW_cl rfl rfl ⟨fun hc => ?_, fun hc => ?_⟩ <;> (repeat rw [List.length_map] at hc) <;> (try exact absd hc)) | ((first | apply AL_t rfl | apply AL_0 rfl | apply AD_t rfl | apply AD_0 rfl); focus (first | exact z_auto | ((apply u_k 5; (focus rfl); first | exact u_load_rA ⟨rfl, rfl, rfl⟩ rfl inferInstance inferInstance rfl rfl rfl HJ rfl rfl rfl | exact u_load_rA ⟨rfl, rfl, rfl⟩ rfl inferInstance inferInstance rfl rfl rfl HJ1 rfl rfl rfl)) | (apply u_g; (focus rfl); apply op_gyes rfl rfl rfl rfl rfl; ((apply u_k 5; (focus rfl); first | exact u_load_rA ⟨rfl, rfl, rfl⟩ rfl inferInstance inferInstance rfl rfl rfl HJ rfl rfl rfl | exact u_load_rA ⟨rfl, rfl, rfl⟩ rfl inferInstance inferInstance rfl rfl rfl HJ1 rfl rfl rfl))) | ((apply u_k 6; (focus rfl); first | exact u_store_r ⟨rfl, rfl⟩ rfl inferInstance rfl rfl rfl rfl HJ rfl (.inl rfl) rfl HS1 | exact u_store_r ⟨rfl, rfl⟩ rfl inferInstance rfl rfl rfl rfl HJ2 rfl (.inl rfl) rfl HS2)) | (apply u_g; (focus rfl); apply op_gyes rfl rfl rfl rfl rfl; ((apply u_k 6; (focus rfl); first | exact u_store_r ⟨rfl, rfl⟩ rfl inferInstance rfl rfl rfl rfl HJ rfl (.inl rfl) rfl HS1 | exact u_store_r ⟨rfl, rfl⟩ rfl inferInstance rfl rfl rfl rfl HJ2 rfl (.inl rfl) rfl HS2))) | (exact c_V [] hm) | (apply u_g; (focus rfl); apply op_gyes rfl rfl rfl rfl rfl; (exact c_V [] hm)) | fail)) | refine thenA_n ?_ | refine thenA_r ?_ | refine thenA_e ?_ | refine inB_n ?_ | refine inB_r ?_ | refine inB_hit ?_ | refine inB_miss rfl ?_ | ((first | refine AL_cl rfl rfl rfl ⟨fun hc => ?_, fun hc => ?_⟩ | refine AD_cl rfl rfl rfl ⟨fun hc => ?_, fun hc => ?_⟩) <;> (fail_if_success (have q : (true = true) := hc)) <;> (fail_if_success (have q : (false = false) := hc)) <;> (repeat rw [List.length_map] at hc) <;> (try exact absd hc)) | refine AW_cond_nil rfl rfl (fun hc => ?_) ?_))
            refine ⟨(p1', y :: p2), ⟨by simp at g1 ⊢; omega, fun z h => gk1 z (by simp [h]), fun z h => ?_, g2⟩, by simp, ?_⟩
            · rcases List.mem_cons.1 h with h | h
              · subst h; exact hky
              · exact gk2 z h
            · simp only [hj]
              exact le_auto
          · rw [if_neg hxy] at g2
            have e : insR p x = (p1' ++ [y]) ++ x :: p2 := by rw [← g2]; simp
            obtain ⟨z, hz, rfl⟩ := out e
            (repeat' (first | refine AW_seq ?_ | refine AW_block ?_ | refine AW_skip ?_ | refine AW_exit ?_ | refine AW_ret ?_ | refine AW_region ?_ | refine AW_draw mixed0 ?_ | refine AL_nil ?_ | refine AD_nil (by kernel_rfl) ?_ | (refine AW_cl rfl rfl ⟨fun hc => ?_, fun hc => ?_⟩ <;> (repeat rw [List.length_map] at hc) <;> (try exact absd hc)) | ((first | apply AL_t rfl | apply AL_0 rfl | apply AD_t rfl | apply AD_0 rfl); focus (first | exact z_auto | ((apply u_k 5; (focus rfl); first | exact u_load_rA ⟨rfl, rfl, rfl⟩ rfl inferInstance inferInstance rfl rfl rfl HJ rfl rfl rfl | exact u_load_rA ⟨rfl, rfl, rfl⟩ rfl inferInstance inferInstance rfl rfl rfl HJ1 rfl rfl rfl)) | (apply u_g; (focus rfl); apply op_gyes rfl rfl rfl rfl rfl; ((apply u_k 5; (focus rfl); first | exact u_load_rA ⟨rfl, rfl, rfl⟩ rfl inferInstance inferInstance rfl rfl rfl HJ rfl rfl rfl | exact u_load_rA ⟨rfl, rfl, rfl⟩ rfl inferInstance inferInstance rfl rfl rfl HJ1 rfl rfl rfl))) | (exact c_V [] hm) | (apply u_g; (focus rfl); apply op_gyes rfl rfl rfl rfl rfl; (exact c_V [] hm)) | fail)) | refine thenA_n ?_ | refine thenA_r ?_ | refine thenA_e ?_ | refine inB_n ?_ | refine inB_r ?_ | refine inB_hit ?_ | refine inB_miss rfl ?_ | ((first | refine AL_cl rfl rfl rfl ⟨fun hc => ?_, fun hc => ?_⟩ | refine AD_cl rfl rfl rfl ⟨fun hc => ?_, fun hc => ?_⟩) <;> (fail_if_success (have q : (true = true) := hc)) <;> (fail_if_success (have q : (false = false) := hc)) <;> (repeat rw [List.length_map] at hc) <;> (try exact absd hc)) | refine AW_cond_nil rfl rfl (fun hc => ?_) ?_))
            refine ⟨_, hz, by simp only; omega, ?_⟩
            simp only
            rw [← hL0]
            exact le_auto
    · have hq : q = [] := List.eq_nil_of_length_eq_zero (by omega)
      subst hq
      simp only [List.foldl_nil] at h5
      (repeat' (first | refine AW_seq ?_ | refine AW_block ?_ | refine AW_skip ?_ | refine AW_exit ?_ | refine AW_ret ?_ | refine AW_region ?_ | refine AW_draw mixed0 ?_ | refine AL_nil ?_ | refine AD_nil (by kernel_rfl) ?_ | (refine AW_cl rfl rfl ⟨fun hc => ?_, fun hc => ?_⟩ <;> (repeat rw [List.length_map] at hc) <;> (try exact absd hc)) | ((first | apply AL_t rfl | apply AL_0 rfl | apply AD_t rfl | apply AD_0 rfl); focus (first | exact z_auto | fail)) | refine thenA_n ?_ | refine thenA_r ?_ | refine thenA_e ?_ | refine inB_n ?_ | refine inB_r ?_ | refine inB_hit ?_ | refine inB_miss rfl ?_ | ((first | refine AL_cl rfl rfl rfl ⟨fun hc => ?_, fun hc => ?_⟩ | refine AD_cl rfl rfl rfl ⟨fun hc => ?_, fun hc => ?_⟩) <;> (fail_if_success (have q : (true = true) := hc)) <;> (fail_if_success (have q : (false = false) := hc)) <;> (repeat rw [List.length_map] at hc) <;> (try exact absd hc)) | refine AW_cond_nil rfl rfl (fun hc => ?_) ?_))
      rw [List.nil_append, h5]
      (refine ⟨(by first | exact .inl rfl | exact .inr rfl), resM0 [(1000, 1000)] rfl rfl ?_⟩; (focus (repeat (first | exact AllX.nil | (refine AllX.cons rfl ?_ ?_; (focus first | rfl | skip))))))
end
end Go.Proofs.Ytbpmafpmlapekaa
