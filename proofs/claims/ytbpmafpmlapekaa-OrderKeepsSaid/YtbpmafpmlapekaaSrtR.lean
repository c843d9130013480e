/- Ranges sorted by where they begin (few: by insertion), as the library's sort does. Printed by wip/tools/srt.py, but for the head. -/
import Derived.Test.YtbpmafpmlapekaaRgO
import Derived.Test.YtbpmafpmlapekaaSort
import Derived.Test.YtbpmafpmlapekaaSymM
namespace Go.Proofs.Ytbpmafpmlapekaa
open Go.RowKit
def cmpLo (x y : Rg) : Int := cmpB x.lo y.lo
def loOk (x : Rg) : Prop := x.lo.size ≤ 1000000000
section
set_option maxRecDepth 10000
set_option maxHeartbeats 4000000
theorem of_1 (x y : Rg) (hx : loOk x) (hy : loOk y) : FnM Try.prog 120 [rgC x, rgC y] [] (.per (rawP (.int .i64 (cmpLo x y)))) [] := by
  obtain ⟨xl, xh, xo⟩ := x
  obtain ⟨yl, yh, yo⟩ := y
  have h1 := key_Cmp xl yl (by have : xl.size ≤ 1000000000 := hx; omega)
  show FnM Try.prog _ [.per (aggP [rawP (.string xl), rawP (.string xh), rawP (.bool xo)]), .per (aggP [rawP (.string yl), rawP (.string yh), rawP (.bool yo)])] [] (.per (rawP (.int .i64 (cmpB xl yl)))) []
  refine fnm_intro Try.func120 rfl (by kernel_rfl) Try.ntmps120 (Nat.le_of_ble_eq_true rfl) ?_
  (repeat' (first | refine AW_seq ?_ | refine AW_block ?_ | refine AW_skip ?_ | refine AW_exit ?_ | refine AW_ret ?_ | refine AW_region ?_ | refine AW_draw mixed0 ?_ | refine AL_nil ?_ | refine AD_nil (by kernel_rfl) ?_ | (refine AW_cl rfl rfl ⟨fun hc => ?_, fun hc => ?_⟩ <;> (repeat rw [List.length_map] at hc) <;> (try exact absd hc)) | ((first | apply AL_t rfl | apply AL_0 rfl | apply AD_t rfl | apply AD_0 rfl); focus (first | exact z_auto | exact c_A (h1) | fail)) | refine thenA_n ?_ | refine thenA_r ?_ | refine thenA_e ?_ | refine inB_n ?_ | refine inB_r ?_ | refine inB_hit ?_ | refine inB_miss rfl ?_ | ((first | refine AL_cl rfl rfl rfl ⟨fun hc => ?_, fun hc => ?_⟩ | refine AD_cl rfl rfl rfl ⟨fun hc => ?_, fun hc => ?_⟩) <;> (fail_if_success (have q : (true = true) := hc)) <;> (fail_if_success (have q : (false = false) := hc)) <;> (repeat rw [List.length_map] at hc) <;> (try exact absd hc)) | refine AW_cond_nil rfl rfl (fun hc => ?_) ?_))
  (refine ⟨(by first | exact .inl rfl | exact .inr rfl), resM1 [] rfl rfl .nil ?_⟩)
  exact rvm_int rfl rfl
end
abbrev cmpCR : Cnt := .per (rawP (.func (.func 120) #[] #[]))
abbrev itsWR (l : List Rg) : Blk := .row 118 3 (l.map rgP)
/-- no key is too long -/
def kOkR (l : List Rg) : Prop := ∀ x ∈ l, loOk x
section
set_option maxRecDepth 10000
set_option maxHeartbeats 4000000
theorem sort_insR (A M Z : List Rg) (hk : kOkR M) (hl : (A ++ M ++ Z).length ≤ 1000000000) : FnM Try.prog 156 [.row 1000 0, iC .i64 (A.length : Nat), iC .i64 ((A.length + M.length : Nat) : Int), cmpCR] [(1000, itsWR (A ++ M ++ Z))] .any [(1000, itsWR (A ++ srtS ltR M ++ Z))] := by
  generalize hR : A ++ srtS ltR M ++ Z = R
  generalize hb : A.length + M.length = b
  simp only [List.length_append] at hl
  refine fnm_intro Try.func156 rfl (by kernel_rfl) Try.ntmps156 (Nat.le_of_ble_eq_true rfl) ?_
  (repeat' (first | refine AW_seq ?_ | refine AW_block ?_ | refine AW_skip ?_ | refine AW_exit ?_ | refine AW_ret ?_ | refine AW_region ?_ | refine AW_draw mixed0 ?_ | refine AL_nil ?_ | refine AD_nil (by kernel_rfl) ?_ | (refine AW_cl rfl rfl ⟨fun hc => ?_, fun hc => ?_⟩ <;> (repeat rw [List.length_map] at hc) <;> (try exact absd hc)) | ((first | apply AL_t rfl | apply AL_0 rfl | apply AD_t rfl | apply AD_0 rfl); focus (first | exact z_auto | fail)) | refine thenA_n ?_ | refine thenA_r ?_ | refine thenA_e ?_ | refine inB_n ?_ | refine inB_r ?_ | refine inB_hit ?_ | refine inB_miss rfl ?_ | ((first | refine AL_cl rfl rfl rfl ⟨fun hc => ?_, fun hc => ?_⟩ | refine AD_cl rfl rfl rfl ⟨fun hc => ?_, fun hc => ?_⟩) <;> (fail_if_success (have q : (true = true) := hc)) <;> (fail_if_success (have q : (false = false) := hc)) <;> (repeat rw [List.length_map] at hc) <;> (try exact absd hc)) | refine AW_cond_nil rfl rfl (fun hc => ?_) ?_))
  refine AW_loopP (X := Nat × List Rg × List Rg) (fun x => A.length < x.1 ∧ x.1 ≤ b + 1 ∧ A.length + x.2.1.length = min x.1 b ∧ A.length + x.2.1.length + x.2.2.length = b ∧ kOkR x.2.1 ∧ kOkR x.2.2 ∧ A ++ x.2.2.foldl (insT ltR) x.2.1 ++ Z = R)
    (fun x => mkSt [(0, .row 1000 0), (1, iC .i64 (A.length : Nat)), (2, iC .i64 (b : Nat)), (3, cmpCR), (8, iC .i64 (x.1 : Nat))] [(1000, itsWR (A ++ x.2.1 ++ (x.2.2 ++ Z)))]) (fun x => b + 1 - x.1) (A.length + 1, M.take 1, M.drop 1) ?_ ?_ ?_
  · refine ⟨by simp only; omega, by simp only; omega, by simp only [List.length_take]; omega, by simp only [List.length_take, List.length_drop]; omega, fun x h => hk x (List.mem_of_mem_take h), fun x h => hk x (List.mem_of_mem_drop h), ?_⟩
    rw [← hR]
    cases M with
    | nil => rfl
    | cons x M => rfl
  · have e : A ++ M.take 1 ++ (M.drop 1 ++ Z) = A ++ M ++ Z := by
      rw [List.append_assoc, ← List.append_assoc (M.take 1), List.take_append_drop, List.append_assoc]
    rw [e]
    exact le_auto
  · rintro ⟨i, p, q⟩ ⟨h1, h2, h3, h4, hkp, hkq, h5⟩
    simp only at h1 h2 h3 h4 hkp hkq h5 ⊢
    by_cases hlt : i < b
    · obtain ⟨x, q, rfl⟩ : ∃ x q', q = x :: q' := by
        cases q with
        | nil => simp at h4; omega
        | cons x q => exact ⟨x, q, rfl⟩
      have hip : A.length + p.length = i := by omega
      clear h3
      have hkx := hkq x (by simp)
      simp only [List.length_cons, List.foldl_cons] at h4 h5
      (repeat' (first | refine AW_seq ?_ | refine AW_block ?_ | refine AW_skip ?_ | refine AW_exit ?_ | refine AW_ret ?_ | refine AW_region ?_ | refine AL_nil ?_ | refine AD_nil (by kernel_rfl) ?_ | (refine AW_cl rfl rfl ⟨fun hc => ?_, fun hc => ?_⟩ <;> (repeat rw [List.length_map] at hc) <;> (try exact absd hc)) | ((first | apply AL_t rfl | apply AL_0 rfl | apply AD_t rfl | apply AD_0 rfl); focus (first | exact z_auto | fail)) | refine thenA_n ?_ | refine thenA_r ?_ | refine thenA_e ?_ | refine inB_n ?_ | refine inB_r ?_ | refine inB_hit ?_ | refine inB_miss rfl ?_ | ((first | refine AL_cl rfl rfl rfl ⟨fun hc => ?_, fun hc => ?_⟩ | refine AD_cl rfl rfl rfl ⟨fun hc => ?_, fun hc => ?_⟩) <;> (fail_if_success (have q : (true = true) := hc)) <;> (fail_if_success (have q : (false = false) := hc)) <;> (repeat rw [List.length_map] at hc) <;> (try exact absd hc)) | refine AW_cond_nil rfl rfl (fun hc => ?_) ?_))
      refine AW_loopP (X := List Rg × List Rg) (fun y => y.1.length + y.2.length = p.length ∧ kOkR y.1 ∧ kOkR y.2 ∧ insS ltR x y.1.reverse y.2 = insT ltR p x)
        (fun y => mkSt [(0, .row 1000 0), (1, iC .i64 (A.length : Nat)), (2, iC .i64 (b : Nat)), (3, cmpCR), (8, iC .i64 (i : Nat)), (9, iC .i64 ((A.length + y.1.length : Nat) : Int))] [(1000, itsWR (A ++ y.1 ++ x :: (y.2 ++ (q ++ Z))))]) (fun y => y.1.length) (p, []) ⟨by simp, hkp, fun x h => by simp at h, rfl⟩ ?_ ?_
      · subst hip
        exact le_auto
      · rintro ⟨p1, p2⟩ ⟨g1, gk1, gk2, g2⟩
        simp only at g1 gk1 gk2 g2 ⊢
        have out : insT ltR p x = p1 ++ x :: p2 → (∃ z : Nat × List Rg × List Rg, (A.length < z.1 ∧ z.1 ≤ b + 1 ∧ A.length + z.2.1.length = min z.1 b ∧ A.length + z.2.1.length + z.2.2.length = b ∧ kOkR z.2.1 ∧ kOkR z.2.2 ∧ A ++ z.2.2.foldl (insT ltR) z.2.1 ++ Z = R) ∧ z = (i + 1, p1 ++ x :: p2, q)) := fun e => by
          refine ⟨_, ⟨by simp only; omega, by simp only; omega, by simp; omega, by simp; omega, fun y hy => ?_, fun y hy => hkq y (by simp [hy]), by rw [← e]; exact h5⟩, rfl⟩
          rcases List.mem_append.1 hy with h | h
          · exact gk1 y h
          · rcases List.mem_cons.1 h with h | h
            · subst h; exact hkx
            · exact gk2 y h
        have hL0 : A ++ p1 ++ x :: (p2 ++ (q ++ Z)) = A ++ (p1 ++ x :: p2) ++ (q ++ Z) := by simp
        rcases snoc_cases p1 with rfl | ⟨p1', y, rfl⟩
        · have e : insT ltR p x = [] ++ x :: p2 := by rw [← g2]; rfl
          obtain ⟨z, hz, rfl⟩ := out e
          rw [hL0]
          (repeat' (first | refine AW_seq ?_ | refine AW_block ?_ | refine AW_skip ?_ | refine AW_exit ?_ | refine AW_ret ?_ | refine AW_region ?_ | refine AW_draw mixed0 ?_ | refine AL_nil ?_ | refine AD_nil (by kernel_rfl) ?_ | (refine AW_cl rfl rfl ⟨fun hc => ?_, fun hc => ?_⟩ <;> (repeat rw [List.length_map] at hc) <;> (try exact absd hc)) | ((first | apply AL_t rfl | apply AL_0 rfl | apply AD_t rfl | apply AD_0 rfl); focus (first | exact z_auto | fail)) | refine thenA_n ?_ | refine thenA_r ?_ | refine thenA_e ?_ | refine inB_n ?_ | refine inB_r ?_ | refine inB_hit ?_ | refine inB_miss rfl ?_ | ((first | refine AL_cl rfl rfl rfl ⟨fun hc => ?_, fun hc => ?_⟩ | refine AD_cl rfl rfl rfl ⟨fun hc => ?_, fun hc => ?_⟩) <;> (fail_if_success (have q : (true = true) := hc)) <;> (fail_if_success (have q : (false = false) := hc)) <;> (repeat rw [List.length_map] at hc) <;> (try exact absd hc)) | refine AW_cond_nil rfl rfl (fun hc => ?_) ?_))
          refine ⟨_, hz, by simp only; omega, ?_⟩
          exact le_auto
        · obtain ⟨j, hj⟩ : ∃ j, A.length + p1'.length = j := ⟨_, rfl⟩
          have hj1 : A.length + (p1' ++ [y]).length = j + 1 := by simp; omega
          have hky := gk1 y (by simp)
          have hm := of_1 x y hkx hky
          generalize hL : A ++ (p1' ++ [y]) ++ x :: (p2 ++ (q ++ Z)) = L at *
          have hlen : j + 1 < L.length := by rw [← hL]; simp; omega
          have HJ : (L.map rgP)[j + 1]? = some (rgP x) := by
            rw [List.getElem?_map, ← hL, List.getElem?_append_right (by simp; omega), List.length_append, hj1, Nat.sub_self]; rfl
          have HJ1 : (L.map rgP)[j]? = some (rgP y) := by
            rw [List.getElem?_map, ← hL, List.append_assoc, List.append_assoc, List.getElem?_append_right (by omega), List.getElem?_append_right (by omega)]
            rw [show j - A.length - p1'.length = 0 by omega]; rfl
          rw [hj1]
          have hrev : (p1' ++ [y]).reverse = y :: p1'.reverse := by simp
          rw [hrev, insS] at g2
          have HS1 : (L.map rgP).set (j + 1) (setP (rgP x) 0 (rgP y)) = (L.set (j + 1) y).map rgP := by rw [← map_set']; rfl
          have HJ2 : ((L.set (j + 1) y).map rgP)[j]? = some (rgP y) := by
            rw [← map_set', List.getElem?_set_ne (by omega)]; exact HJ1
          have HS2 : ((L.set (j + 1) y).map rgP).set j (setP (rgP y) 0 (rgP x)) = (A ++ p1' ++ x :: ((y :: p2) ++ (q ++ Z))).map rgP := by
            rw [map_set' rgP (L.set (j + 1) y) j x |>.symm.trans rfl |> fun h => (show ((L.set (j + 1) y).map rgP).set j (setP (rgP y) 0 (rgP x)) = ((L.set (j + 1) y).set j x).map rgP from map_set' rgP _ j x)]
            rw [← hL, set_at (A ++ (p1' ++ [y])) x y _ (j + 1) (by simp; omega), show A ++ (p1' ++ [y]) ++ y :: (p2 ++ (q ++ Z)) = (A ++ p1') ++ y :: (y :: (p2 ++ (q ++ Z))) by simp, set_at (A ++ p1') y x _ j (by simp; omega)]
            simp
          by_cases hxy : cmpLo x y < 0
          · rw [if_pos (show ltR x y = true from decide_eq_true hxy)] at g2
            clear out
            (repeat' (first | refine AW_seq ?_ | refine AW_block ?_ | refine AW_skip ?_ | refine AW_exit ?_ | refine AW_ret ?_ | refine AW_region ?_ | refine AW_draw mixed0 ?_ | refine AL_nil ?_ | refine AD_nil (by kernel_rfl) ?_ | (refine AW_cl rfl rfl ⟨fun hc => ?_, fun hc => ?_⟩ <;> (repeat rw [List.length_map] at hc) <;> (try exact absd hc)) | ((first | apply AL_t rfl | apply AL_0 rfl | apply AD_t rfl | apply AD_0 rfl); focus (first | exact z_auto | ((apply u_k 5; (focus rfl); first | exact u_load_rA ⟨rfl, rfl, rfl⟩ rfl inferInstance inferInstance rfl rfl rfl HJ rfl rfl rfl | exact u_load_rA ⟨rfl, rfl, rfl⟩ rfl inferInstance inferInstance rfl rfl rfl HJ1 rfl rfl rfl)) | (apply u_g; (focus rfl); apply op_gyes rfl rfl rfl rfl rfl; ((apply u_k 5; (focus rfl); first | exact u_load_rA ⟨rfl, rfl, rfl⟩ rfl inferInstance inferInstance rfl rfl rfl HJ rfl rfl rfl | exact u_load_rA ⟨rfl, rfl, rfl⟩ rfl inferInstance inferInstance rfl rfl rfl HJ1 rfl rfl rfl))) | ((apply u_k 6; (focus rfl); first | exact u_store_r ⟨rfl, rfl⟩ rfl inferInstance rfl rfl rfl rfl HJ rfl (.inl rfl) rfl HS1 | exact u_store_r ⟨rfl, rfl⟩ rfl inferInstance rfl rfl rfl rfl HJ2 rfl (.inl rfl) rfl HS2)) | (apply u_g; (focus rfl); apply op_gyes rfl rfl rfl rfl rfl; ((apply u_k 6; (focus rfl); first | exact u_store_r ⟨rfl, rfl⟩ rfl inferInstance rfl rfl rfl rfl HJ rfl (.inl rfl) rfl HS1 | exact u_store_r ⟨rfl, rfl⟩ rfl inferInstance rfl rfl rfl rfl HJ2 rfl (.inl rfl) rfl HS2))) | (exact c_V [] hm) | (apply u_g; (focus rfl); apply op_gyes rfl rfl rfl rfl rfl; (exact c_V [] hm)) | fail)) | refine thenA_n ?_ | refine thenA_r ?_ | refine thenA_e ?_ | refine inB_n ?_ | refine inB_r ?_ | refine inB_hit ?_ | refine inB_miss rfl ?_ | ((first | refine AL_cl rfl rfl rfl ⟨fun hc => ?_, fun hc => ?_⟩ | refine AD_cl rfl rfl rfl ⟨fun hc => ?_, fun hc => ?_⟩) <;> (fail_if_success (have q : (true = true) := hc)) <;> (fail_if_success (have q : (false = false) := hc)) <;> (repeat rw [List.length_map] at hc) <;> (try exact absd hc)) | refine AW_cond_nil rfl rfl (fun hc => ?_) ?_))
            refine ⟨(p1', y :: p2), ⟨by simp at g1 ⊢; omega, fun z h => gk1 z (by simp [h]), fun z h => ?_, g2⟩, by simp, ?_⟩
            · rcases List.mem_cons.1 h with h | h
              · subst h; exact hky
              · exact gk2 z h
            · simp only [hj]
              exact le_auto
          · rw [if_neg (show ¬ ltR x y = true by unfold ltR; rw [decide_eq_true_iff]; exact hxy)] at g2
            have e : insT ltR p x = (p1' ++ [y]) ++ x :: p2 := by rw [← g2]; simp
            obtain ⟨z, hz, rfl⟩ := out e
            (repeat' (first | refine AW_seq ?_ | refine AW_block ?_ | refine AW_skip ?_ | refine AW_exit ?_ | refine AW_ret ?_ | refine AW_region ?_ | refine AW_draw mixed0 ?_ | refine AL_nil ?_ | refine AD_nil (by kernel_rfl) ?_ | (refine AW_cl rfl rfl ⟨fun hc => ?_, fun hc => ?_⟩ <;> (repeat rw [List.length_map] at hc) <;> (try exact absd hc)) | ((first | apply AL_t rfl | apply AL_0 rfl | apply AD_t rfl | apply AD_0 rfl); focus (first | exact z_auto | ((apply u_k 5; (focus rfl); first | exact u_load_rA ⟨rfl, rfl, rfl⟩ rfl inferInstance inferInstance rfl rfl rfl HJ rfl rfl rfl | exact u_load_rA ⟨rfl, rfl, rfl⟩ rfl inferInstance inferInstance rfl rfl rfl HJ1 rfl rfl rfl)) | (apply u_g; (focus rfl); apply op_gyes rfl rfl rfl rfl rfl; ((apply u_k 5; (focus rfl); first | exact u_load_rA ⟨rfl, rfl, rfl⟩ rfl inferInstance inferInstance rfl rfl rfl HJ rfl rfl rfl | exact u_load_rA ⟨rfl, rfl, rfl⟩ rfl inferInstance inferInstance rfl rfl rfl HJ1 rfl rfl rfl))) | (exact c_V [] hm) | (apply u_g; (focus rfl); apply op_gyes rfl rfl rfl rfl rfl; (exact c_V [] hm)) | fail)) | refine thenA_n ?_ | refine thenA_r ?_ | refine thenA_e ?_ | refine inB_n ?_ | refine inB_r ?_ | refine inB_hit ?_ | refine inB_miss rfl ?_ | ((first | refine AL_cl rfl rfl rfl ⟨fun hc => ?_, fun hc => ?_⟩ | refine AD_cl rfl rfl rfl ⟨fun hc => ?_, fun hc => ?_⟩) <;> (fail_if_success (have q : (true = true) := hc)) <;> (fail_if_success (have q : (false = false) := hc)) <;> (repeat rw [List.length_map] at hc) <;> (try exact absd hc)) | refine AW_cond_nil rfl rfl (fun hc => ?_) ?_))
            refine ⟨_, hz, by simp only; omega, ?_⟩
            simp only
            rw [← hL0]
            exact le_auto
    · have hq : q = [] := List.eq_nil_of_length_eq_zero (by omega)
      subst hq
      simp only [List.foldl_nil] at h5
      (repeat' (first | refine AW_seq ?_ | refine AW_block ?_ | refine AW_skip ?_ | refine AW_exit ?_ | refine AW_ret ?_ | refine AW_region ?_ | refine AW_draw mixed0 ?_ | refine AL_nil ?_ | refine AD_nil (by kernel_rfl) ?_ | (refine AW_cl rfl rfl ⟨fun hc => ?_, fun hc => ?_⟩ <;> (repeat rw [List.length_map] at hc) <;> (try exact absd hc)) | ((first | apply AL_t rfl | apply AL_0 rfl | apply AD_t rfl | apply AD_0 rfl); focus (first | exact z_auto | fail)) | refine thenA_n ?_ | refine thenA_r ?_ | refine thenA_e ?_ | refine inB_n ?_ | refine inB_r ?_ | refine inB_hit ?_ | refine inB_miss rfl ?_ | ((first | refine AL_cl rfl rfl rfl ⟨fun hc => ?_, fun hc => ?_⟩ | refine AD_cl rfl rfl rfl ⟨fun hc => ?_, fun hc => ?_⟩) <;> (fail_if_success (have q : (true = true) := hc)) <;> (fail_if_success (have q : (false = false) := hc)) <;> (repeat rw [List.length_map] at hc) <;> (try exact absd hc)) | refine AW_cond_nil rfl rfl (fun hc => ?_) ?_))
      rw [List.nil_append, h5]
      (refine ⟨(by first | exact .inl rfl | exact .inr rfl), resM0 [(1000, 1000)] rfl rfl ?_⟩; (focus (repeat (first | exact AllX.nil | (refine AllX.cons rfl ?_ ?_; (focus first | rfl | skip))))))
end

section
variable {P : Program} {n : Nat} {ops : Array Oper} {o : Oper} {S : St} {t : Nat}
def blen (k : Nat) : Nat := if k = 0 then 0 else k.log2 + 1
def tabL : List UInt8 := (List.range 256).map fun k => UInt8.ofNat (blen k)
theorem tabL_get : ∀ k : Fin 256, (tabL[k.val]?).map UInt8.toNat = some (blen k.val) := by decide +kernel
theorem u_tab8 {ty : TypeId} {x ix : Operand} {kk : IntKind} {k : Nat} {z : Int} {s : ByteArray} (hp : Pl n o t) (ho : o.op = .index ty x ix) (hT : Und P ty .string) (hx : S.opd x = sC s) (hs : s.data.toList = tabL) (hi : S.opd ix = iC kk z) (hz : z = (k : Int)) (hk : k < 256) :
    OpOk n P ops o (opdN x ++ opdN ix) (iC .u8 ((blen k : Nat) : Int)) [] S := by
  have h := tabL_get ⟨k, hk⟩
  simp only at h
  cases hc : tabL[k]? with
  | none => rw [hc] at h; cases h
  | some c =>
    rw [hc] at h
    simp only [Option.map_some, Option.some.injEq] at h
    rw [← h]
    exact u_sindex hp ho hT hx hi (i := k) hz (by rw [hs]; exact hc)
theorem AW_cond_f {Q : Exit → St → Prop} {x y : Code} (h : AW P n y Q S) : AW P n (.cond (.const (.bool false)) x y) Q S :=
  ⟨fun C a w hr => wp_cond_split (t := false) rfl (fun h => by cases h) (fun _ => h.run C a w hr)⟩
theorem wrap_u8 {z : Nat} (h : z < 256) : IntKind.u8.wrap (z : Int) = (z : Int) := by
  simp [IntKind.wrap, IntKind.bits, IntKind.signed]; omega
end
section
set_option maxRecDepth 10000
set_option maxHeartbeats 4000000
theorem blen_le {k : Nat} (h : k < 256) : blen k ≤ 8 := by
  have : ∀ k : Fin 256, blen k.val ≤ 8 := by decide +kernel
  exact this ⟨k, h⟩
theorem bits_Len64 (k : Nat) (hk : k < 256) : Fn Try.prog 165 [iC .u64 (k : Nat)] (inR ((blen k : Nat) : Int)) := by
  have hb := blen_le hk
  have e : (0 : Int) + ((blen k : Nat) : Int) = ((blen k : Nat) : Int) := by omega
  have c1 : ((k : Nat) : Int) < 256 := by omega
  refine fn_intro Try.func165 rfl (by kernel_rfl) Try.ntmps165 (Nat.le_of_ble_eq_true rfl) ?_
  (repeat' (first | refine AW_seq ?_ | refine AW_block ?_ | refine AW_skip ?_ | refine AW_exit ?_ | refine AW_ret ?_ | refine AW_region ?_ | refine AW_draw mixed0 ?_ | refine AL_nil ?_ | refine AD_nil (by kernel_rfl) ?_ | (refine AW_cl rfl rfl ⟨fun hc => ?_, fun hc => ?_⟩ <;> (repeat rw [List.length_map] at hc) <;> (try exact absd hc)) | ((first | apply AL_t rfl | apply AL_0 rfl | apply AD_t rfl | apply AD_0 rfl); focus (first | ((apply u_k 13; (focus rfl); exact u_tab8 (k := k) ⟨rfl, rfl, rfl⟩ rfl inferInstance rfl (by decide +kernel) rfl (wrap_u8 hk) hk)) | (apply u_g; (focus rfl); apply op_gyes rfl rfl rfl rfl rfl; ((apply u_k 13; (focus rfl); exact u_tab8 (k := k) ⟨rfl, rfl, rfl⟩ rfl inferInstance rfl (by decide +kernel) rfl (wrap_u8 hk) hk))) | ((apply u_k 8; (focus rfl); exact op_num ⟨rfl, rfl, rfl⟩ rfl rfl rfl rfl ((wrap_id64 (by omega) (by omega)).trans e))) | (apply u_g; (focus rfl); apply op_gyes rfl rfl rfl rfl rfl; ((apply u_k 8; (focus rfl); exact op_num ⟨rfl, rfl, rfl⟩ rfl rfl rfl rfl ((wrap_id64 (by omega) (by omega)).trans e)))) | exact z_auto | fail)) | refine thenA_n ?_ | refine thenA_r ?_ | refine thenA_e ?_ | refine inB_n ?_ | refine inB_r ?_ | refine inB_hit ?_ | refine inB_miss rfl ?_ | ((first | refine AL_cl rfl rfl rfl ⟨fun hc => ?_, fun hc => ?_⟩ | refine AD_cl rfl rfl rfl ⟨fun hc => ?_, fun hc => ?_⟩) <;> (fail_if_success (have q : (true = true) := hc)) <;> (fail_if_success (have q : (false = false) := hc)) <;> (repeat rw [List.length_map] at hc) <;> (try exact absd hc)) | refine AW_cond_nil rfl rfl (fun hc => ?_) ?_))
  (refine ⟨(by first | exact .inl rfl | exact .inr rfl), res1 rfl ?_⟩)
  exact rv_int rfl rfl
theorem bits_Len (k : Nat) (hk : k < 256) : Fn Try.prog 145 [iC .u64 (k : Nat)] (inR ((blen k : Nat) : Int)) := by
  have h := bits_Len64 k hk
  refine fn_intro Try.func145 rfl (by kernel_rfl) Try.ntmps145 (Nat.le_of_ble_eq_true rfl) ?_
  (repeat' (first | refine AW_seq ?_ | refine AW_block ?_ | refine AW_skip ?_ | refine AW_exit ?_ | refine AW_ret ?_ | refine AW_region ?_ | refine AW_draw mixed0 ?_ | refine AL_nil ?_ | refine AD_nil (by kernel_rfl) ?_ | (refine AW_cl rfl rfl ⟨fun hc => ?_, fun hc => ?_⟩ <;> (repeat rw [List.length_map] at hc) <;> (try exact absd hc)) | ((first | apply AL_t rfl | apply AL_0 rfl | apply AD_t rfl | apply AD_0 rfl); focus (first | exact z_auto | fail)) | refine thenA_n ?_ | refine thenA_r ?_ | refine thenA_e ?_ | refine inB_n ?_ | refine inB_r ?_ | refine inB_hit ?_ | refine inB_miss rfl ?_ | ((first | refine AL_cl rfl rfl rfl ⟨fun hc => ?_, fun hc => ?_⟩ | refine AD_cl rfl rfl rfl ⟨fun hc => ?_, fun hc => ?_⟩) <;> (fail_if_success (have q : (true = true) := hc)) <;> (fail_if_success (have q : (false = false) := hc)) <;> (repeat rw [List.length_map] at hc) <;> (try exact absd hc)) | refine AW_cond_nil rfl rfl (fun hc => ?_) ?_))
  refine AW_cond_f ?_
  (repeat' (first | refine AW_seq ?_ | refine AW_block ?_ | refine AW_skip ?_ | refine AW_exit ?_ | refine AW_ret ?_ | refine AW_region ?_ | refine AW_draw mixed0 ?_ | refine AL_nil ?_ | refine AD_nil (by kernel_rfl) ?_ | (refine AW_cl rfl rfl ⟨fun hc => ?_, fun hc => ?_⟩ <;> (repeat rw [List.length_map] at hc) <;> (try exact absd hc)) | ((first | apply AL_t rfl | apply AL_0 rfl | apply AD_t rfl | apply AD_0 rfl); focus (first | ((apply u_k 10; (focus rfl); exact u_conv ⟨rfl, rfl, rfl⟩ rfl inferInstance inferInstance rfl (by with_reducible exact wrap_u64 (by omega) (by omega)))) | (apply u_g; (focus rfl); apply op_gyes rfl rfl rfl rfl rfl; ((apply u_k 10; (focus rfl); exact u_conv ⟨rfl, rfl, rfl⟩ rfl inferInstance inferInstance rfl (by with_reducible exact wrap_u64 (by omega) (by omega))))) | exact z_auto | exact c_A (h) | fail)) | refine thenA_n ?_ | refine thenA_r ?_ | refine thenA_e ?_ | refine inB_n ?_ | refine inB_r ?_ | refine inB_hit ?_ | refine inB_miss rfl ?_ | ((first | refine AL_cl rfl rfl rfl ⟨fun hc => ?_, fun hc => ?_⟩ | refine AD_cl rfl rfl rfl ⟨fun hc => ?_, fun hc => ?_⟩) <;> (fail_if_success (have q : (true = true) := hc)) <;> (fail_if_success (have q : (false = false) := hc)) <;> (repeat rw [List.length_map] at hc) <;> (try exact absd hc)) | refine AW_cond_nil rfl rfl (fun hc => ?_) ?_))
  (refine ⟨(by first | exact .inl rfl | exact .inr rfl), res1 rfl ?_⟩)
  exact rv_int rfl rfl
theorem pdq_few (M : List Rg) (lim : Int) (hk : kOkR M) (hl : M.length ≤ 12) : FnM Try.prog 144 [.row 1000 0, iC .i64 0, iC .i64 (M.length : Nat), iC .i64 lim, cmpCR] [(1000, itsWR M)] .any [(1000, itsWR (srtS ltR M))] := by
  have h := sort_insR [] M [] hk (by simp; omega)
  simp only [List.nil_append, List.append_nil, List.length_nil, Nat.zero_add] at h
  generalize srtS ltR M = R at *
  have e : ((M.length : Nat) : Int) - 0 = ((M.length : Nat) : Int) := by omega
  refine fnm_intro Try.func144 rfl (by kernel_rfl) Try.ntmps144 (Nat.le_of_ble_eq_true rfl) ?_
  (repeat' (first | refine AW_seq ?_ | refine AW_block ?_ | refine AW_skip ?_ | refine AW_exit ?_ | refine AW_ret ?_ | refine AW_region ?_ | refine AW_draw mixed0 ?_ | refine AL_nil ?_ | refine AD_nil (by kernel_rfl) ?_ | (refine AW_cl rfl rfl ⟨fun hc => ?_, fun hc => ?_⟩ <;> (repeat rw [List.length_map] at hc) <;> (try exact absd hc)) | ((first | apply AL_t rfl | apply AL_0 rfl | apply AD_t rfl | apply AD_0 rfl); focus (first | ((apply u_k 8; (focus rfl); exact op_num ⟨rfl, rfl, rfl⟩ rfl rfl rfl rfl ((wrap_id64 (by omega) (by omega)).trans e))) | (apply u_g; (focus rfl); apply op_gyes rfl rfl rfl rfl rfl; ((apply u_k 8; (focus rfl); exact op_num ⟨rfl, rfl, rfl⟩ rfl rfl rfl rfl ((wrap_id64 (by omega) (by omega)).trans e)))) | exact z_auto | exact c_MA [(1000, 1000)] (h) | fail)) | refine thenA_n ?_ | refine thenA_r ?_ | refine thenA_e ?_ | refine inB_n ?_ | refine inB_r ?_ | refine inB_hit ?_ | refine inB_miss rfl ?_ | ((first | refine AL_cl rfl rfl rfl ⟨fun hc => ?_, fun hc => ?_⟩ | refine AD_cl rfl rfl rfl ⟨fun hc => ?_, fun hc => ?_⟩) <;> (fail_if_success (have q : (true = true) := hc)) <;> (fail_if_success (have q : (false = false) := hc)) <;> (repeat rw [List.length_map] at hc) <;> (try exact absd hc)) | refine AW_cond_nil rfl rfl (fun hc => ?_) ?_))
  refine AW_loopP (X := Unit) (fun _ => True) (fun _ => mkSt [(0, .row 1000 0), (1, iC .i64 0), (2, iC .i64 (M.length : Nat)), (3, iC .i64 lim), (4, cmpCR)] [(1000, itsWR M)]) (fun _ => 0) () trivial ?_ ?_
  · exact le_auto
  · rintro _ -
    (repeat' (first | refine AW_seq ?_ | refine AW_block ?_ | refine AW_skip ?_ | refine AW_exit ?_ | refine AW_ret ?_ | refine AW_region ?_ | refine AW_draw mixed0 ?_ | refine AL_nil ?_ | refine AD_nil (by kernel_rfl) ?_ | (refine AW_cl rfl rfl ⟨fun hc => ?_, fun hc => ?_⟩ <;> (repeat rw [List.length_map] at hc) <;> (try exact absd hc)) | ((first | apply AL_t rfl | apply AL_0 rfl | apply AD_t rfl | apply AD_0 rfl); focus (first | ((apply u_k 8; (focus rfl); exact op_num ⟨rfl, rfl, rfl⟩ rfl rfl rfl rfl ((wrap_id64 (by omega) (by omega)).trans e))) | (apply u_g; (focus rfl); apply op_gyes rfl rfl rfl rfl rfl; ((apply u_k 8; (focus rfl); exact op_num ⟨rfl, rfl, rfl⟩ rfl rfl rfl rfl ((wrap_id64 (by omega) (by omega)).trans e)))) | exact z_auto | exact c_MA [(1000, 1000)] (h) | fail)) | refine thenA_n ?_ | refine thenA_r ?_ | refine thenA_e ?_ | refine inB_n ?_ | refine inB_r ?_ | refine inB_hit ?_ | refine inB_miss rfl ?_ | ((first | refine AL_cl rfl rfl rfl ⟨fun hc => ?_, fun hc => ?_⟩ | refine AD_cl rfl rfl rfl ⟨fun hc => ?_, fun hc => ?_⟩) <;> (fail_if_success (have q : (true = true) := hc)) <;> (fail_if_success (have q : (false = false) := hc)) <;> (repeat rw [List.length_map] at hc) <;> (try exact absd hc)) | refine AW_cond_nil rfl rfl (fun hc => ?_) ?_))
    (refine ⟨(by first | exact .inl rfl | exact .inr rfl), resM0 [(1000, 1000)] rfl rfl ?_⟩; (focus (repeat (first | exact AllX.nil | (refine AllX.cons rfl ?_ ?_; (focus first | rfl | skip))))))
theorem sort_few (M : List Rg) (hk : kOkR M) (hl : M.length ≤ 12) : FnM Try.prog 119 [.row 1000 0, cmpCR] [(1000, itsWR M)] .any [(1000, itsWR (srtS ltR M))] := by
  have h1 := bits_Len M.length (by omega)
  have h := pdq_few M ((blen M.length : Nat) : Int) hk hl
  generalize srtS ltR M = R at *
  refine fnm_intro Try.func119 rfl (by kernel_rfl) Try.ntmps119 (Nat.le_of_ble_eq_true rfl) ?_
  (repeat' (first | refine AW_seq ?_ | refine AW_block ?_ | refine AW_skip ?_ | refine AW_exit ?_ | refine AW_ret ?_ | refine AW_region ?_ | refine AW_draw mixed0 ?_ | refine AL_nil ?_ | refine AD_nil (by kernel_rfl) ?_ | (refine AW_cl rfl rfl ⟨fun hc => ?_, fun hc => ?_⟩ <;> (repeat rw [List.length_map] at hc) <;> (try exact absd hc)) | ((first | apply AL_t rfl | apply AL_0 rfl | apply AD_t rfl | apply AD_0 rfl); focus (first | ((apply u_k 10; (focus rfl); exact u_conv ⟨rfl, rfl, rfl⟩ rfl inferInstance inferInstance rfl (by with_reducible exact wrap_u64 (by omega) (by omega)))) | (apply u_g; (focus rfl); apply op_gyes rfl rfl rfl rfl rfl; ((apply u_k 10; (focus rfl); exact u_conv ⟨rfl, rfl, rfl⟩ rfl inferInstance inferInstance rfl (by with_reducible exact wrap_u64 (by omega) (by omega))))) | exact z_auto | exact c_A (h1) | exact c_MA [(1000, 1000)] (h) | fail)) | refine thenA_n ?_ | refine thenA_r ?_ | refine thenA_e ?_ | refine inB_n ?_ | refine inB_r ?_ | refine inB_hit ?_ | refine inB_miss rfl ?_ | ((first | refine AL_cl rfl rfl rfl ⟨fun hc => ?_, fun hc => ?_⟩ | refine AD_cl rfl rfl rfl ⟨fun hc => ?_, fun hc => ?_⟩) <;> (fail_if_success (have q : (true = true) := hc)) <;> (fail_if_success (have q : (false = false) := hc)) <;> (repeat rw [List.length_map] at hc) <;> (try exact absd hc)) | refine AW_cond_nil rfl rfl (fun hc => ?_) ?_))
  (refine ⟨(by first | exact .inl rfl | exact .inr rfl), resM0 [(1000, 1000)] rfl rfl ?_⟩; (focus (repeat (first | exact AllX.nil | (refine AllX.cons rfl ?_ ?_; (focus first | rfl | skip))))))
end
end Go.Proofs.Ytbpmafpmlapekaa
