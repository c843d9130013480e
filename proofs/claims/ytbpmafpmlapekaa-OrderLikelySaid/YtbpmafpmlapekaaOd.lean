/- Items with their classes: which of two is sent ahead; sorted stably (at most 20). The sort's walk is printed by wip/tools/srt.py. -/
import Derived.Test.YtbpmafpmlapekaaSymM
import Derived.Test.YtbpmafpmlapekaaOrd
import Derived.Test.YtbpmafpmlapekaaRgW
import Derived.Test.YtbpmafpmlapekaaBl
import Derived.Test.YtbpmafpmlapekaaWins
namespace Go.Proofs.Ytbpmafpmlapekaa
open Go.RowKit
abbrev Snt := It × Int
abbrev sntP (x : Snt) : List PV := itP x.1 ++ [rawP (.int .i64 x.2)]
abbrev sntC (x : Snt) : Cnt := .per (aggP (sntP x))
def cmpSn (x y : Snt) : Int := if x.1.prio > y.1.prio then -1 else if x.1.prio < y.1.prio then 1 else if x.2 ≠ y.2 then x.2 - y.2 else cmpB x.1.key y.1.key
def ltSn (x y : Snt) : Bool := decide (cmpSn x y < 0)
def sntOk (x : Snt) : Prop := x.1.key.size ≤ 1000000000 ∧ 0 ≤ x.2 ∧ x.2 ≤ 3
theorem ltSn_iff (x y : Snt) : ltSn x y = true ↔ (y.1.prio < x.1.prio ∨ (x.1.prio = y.1.prio ∧ (x.2 < y.2 ∨ (x.2 = y.2 ∧ x.1.key < y.1.key)))) := by
  unfold ltSn cmpSn
  rw [decide_eq_true_iff, ← o_lt]
  split
  · constructor
    · intro _; left; omega
    · intro _; omega
  · split
    · constructor
      · intro h; omega
      · rintro (h | ⟨h, _⟩) <;> omega
    · split
      · constructor
        · intro h; right; exact ⟨by omega, .inl (by omega)⟩
        · rintro (h | ⟨_, h | ⟨h, _⟩⟩) <;> omega
      · rename_i h3
        have h3 := Decidable.of_not_not h3
        constructor
        · intro h; right; exact ⟨by omega, .inr ⟨h3, h⟩⟩
        · rintro (h | ⟨_, h | ⟨_, h⟩⟩)
          · omega
          · omega
          · exact h
theorem ltSn_wo : SWo ltSn where
  irr x := by
    rw [← Bool.not_eq_true, ltSn_iff]
    rintro (h | ⟨_, h | ⟨_, h⟩⟩)
    · omega
    · omega
    · grind
  tr x y z h1 h2 := by
    rw [ltSn_iff] at *
    rcases h1 with h1 | ⟨h1, h1' | ⟨h1', h1''⟩⟩ <;> rcases h2 with h2 | ⟨h2, h2' | ⟨h2', h2''⟩⟩
    all_goals first
      | (left; omega)
      | (right; refine ⟨by omega, .inl (by omega)⟩)
      | (right; refine ⟨by omega, .inr ⟨by omega, by grind⟩⟩)
  ntr x y z h1 h2 := by
    rw [← Bool.not_eq_true, ltSn_iff] at *
    rintro (h | ⟨h, h' | ⟨h', h''⟩⟩)
    · apply h1
      by_cases q : y.1.prio < x.1.prio
      · exact .inl q
      · exfalso; exact h2 (.inl (by omega))
    · by_cases q : y.1.prio = x.1.prio
      · by_cases q2 : x.2 < y.2
        · exact h1 (.inr ⟨by omega, .inl q2⟩)
        · exact h2 (.inr ⟨by omega, .inl (by omega)⟩)
      · rcases Int.lt_or_gt_of_ne q with g | g
        · exact h1 (.inl g)
        · exact h2 (.inl (by omega))
    · by_cases q : y.1.prio = x.1.prio
      · by_cases q2 : x.2 = y.2
        · by_cases q3 : x.1.key < y.1.key
          · exact h1 (.inr ⟨by omega, .inr ⟨q2, q3⟩⟩)
          · exact h2 (.inr ⟨by omega, .inr ⟨by omega, by grind⟩⟩)
        · rcases Int.lt_or_gt_of_ne q2 with g | g
          · exact h1 (.inr ⟨by omega, .inl g⟩)
          · exact h2 (.inr ⟨by omega, .inl (by omega)⟩)
      · rcases Int.lt_or_gt_of_ne q with g | g
        · exact h1 (.inl g)
        · exact h2 (.inl (by omega))
section
set_option maxRecDepth 10000
set_option maxHeartbeats 4000000
theorem cmp_snt (x y : Snt) (hx : sntOk x) (hy : sntOk y) : FnM Try.prog 87 [sntC x, sntC y] [] (.per (rawP (.int .i64 (cmpSn x y)))) [] := by
  obtain ⟨⟨xk, xr, xc, xa, xp, xd, xb⟩, xs⟩ := x
  obtain ⟨⟨yk, yr, yc, ya, yp, yd, yb⟩, ys⟩ := y
  obtain ⟨hk, hx0, hx3⟩ := hx
  obtain ⟨-, hy0, hy3⟩ := hy
  simp only at hk hx0 hx3 hy0 hy3
  have h1 := key_Cmp xk yk (by omega)
  have hE : cmpSn (⟨xk, xr, xc, xa, xp, xd, xb⟩, xs) (⟨yk, yr, yc, ya, yp, yd, yb⟩, ys) = (if xp > yp then -1 else if xp < yp then 1 else if xs ≠ ys then xs - ys else cmpB xk yk) := rfl
  rw [hE]
  show FnM Try.prog _ [.per (aggP [rawP (.string xk), rawP (.int .i64 xr), rawP (.int .i64 xc), rawP (.int .i64 xa), rawP (.int .i64 xp), rawP (.bool xd), rawP (.string xb), rawP (.int .i64 xs)]), .per (aggP [rawP (.string yk), rawP (.int .i64 yr), rawP (.int .i64 yc), rawP (.int .i64 ya), rawP (.int .i64 yp), rawP (.bool yd), rawP (.string yb), rawP (.int .i64 ys)])] [] _ []
  refine fnm_intro Try.func87 rfl (by kernel_rfl) Try.ntmps87 (Nat.le_of_ble_eq_true rfl) ?_
  (repeat' (first | refine AW_seq ?_ | refine AW_block ?_ | refine AW_skip ?_ | refine AW_exit ?_ | refine AW_ret ?_ | refine AW_region ?_ | refine AW_draw mixed0 ?_ | refine AL_nil ?_ | refine AD_nil (by kernel_rfl) ?_ | (refine AW_cl rfl rfl ⟨fun hc => ?_, fun hc => ?_⟩ <;> (repeat rw [List.length_map] at hc) <;> (try exact absd hc)) | ((first | apply AL_t rfl | apply AL_0 rfl | apply AD_t rfl | apply AD_0 rfl); focus (first | exact z_auto | exact c_A (h1) | fail)) | refine thenA_n ?_ | refine thenA_r ?_ | refine thenA_e ?_ | refine inB_n ?_ | refine inB_r ?_ | refine inB_hit ?_ | refine inB_miss rfl ?_ | ((first | refine AL_cl rfl rfl rfl ⟨fun hc => ?_, fun hc => ?_⟩ | refine AD_cl rfl rfl rfl ⟨fun hc => ?_, fun hc => ?_⟩) <;> (fail_if_success (have q : (true = true) := hc)) <;> (fail_if_success (have q : (false = false) := hc)) <;> (repeat rw [List.length_map] at hc) <;> (try exact absd hc)) | refine AW_cond_nil rfl rfl (fun hc => ?_) ?_))
  · rw [if_pos (by assumption)]
    (refine ⟨(by first | exact .inl rfl | exact .inr rfl), resM1 [] rfl rfl .nil ?_⟩)
    exact rvm_int rfl rfl
  · rw [if_neg (by assumption), if_pos (by assumption)]
    (refine ⟨(by first | exact .inl rfl | exact .inr rfl), resM1 [] rfl rfl .nil ?_⟩)
    exact rvm_int rfl rfl
  · rw [if_neg (by assumption), if_neg (by assumption), if_pos (by assumption)]
    (refine ⟨(by first | exact .inl rfl | exact .inr rfl), resM1 [] rfl rfl .nil ?_⟩)
    exact rvm_int rfl rfl
  · rw [if_neg (by assumption), if_neg (by assumption), if_neg (by omega)]
    (refine ⟨(by first | exact .inl rfl | exact .inr rfl), resM1 [] rfl rfl .nil ?_⟩)
    exact rvm_int rfl rfl
end
abbrev cmpCS : Cnt := .per (rawP (.func (.func 87) #[] #[]))
abbrev itsWS (l : List Snt) : Blk := .row 127 8 (l.map sntP)
/-- no key is too long -/
def kOkS (l : List Snt) : Prop := ∀ x ∈ l, sntOk x
section
set_option maxRecDepth 10000
set_option maxHeartbeats 4000000
theorem sort_insS (A M Z : List Snt) (hk : kOkS M) (hl : (A ++ M ++ Z).length ≤ 1000000000) : FnM Try.prog 147 [.row 1000 0, iC .i64 (A.length : Nat), iC .i64 ((A.length + M.length : Nat) : Int), cmpCS] [(1000, itsWS (A ++ M ++ Z))] .any [(1000, itsWS (A ++ srtS ltSn M ++ Z))] := by
  generalize hR : A ++ srtS ltSn M ++ Z = R
  generalize hb : A.length + M.length = b
  simp only [List.length_append] at hl
  refine fnm_intro Try.func147 rfl (by kernel_rfl) Try.ntmps147 (Nat.le_of_ble_eq_true rfl) ?_
  (repeat' (first | refine AW_seq ?_ | refine AW_block ?_ | refine AW_skip ?_ | refine AW_exit ?_ | refine AW_ret ?_ | refine AW_region ?_ | refine AW_draw mixed0 ?_ | refine AL_nil ?_ | refine AD_nil (by kernel_rfl) ?_ | (refine AW_cl rfl rfl ⟨fun hc => ?_, fun hc => ?_⟩ <;> (repeat rw [List.length_map] at hc) <;> (try exact absd hc)) | ((first | apply AL_t rfl | apply AL_0 rfl | apply AD_t rfl | apply AD_0 rfl); focus (first | exact z_auto | fail)) | refine thenA_n ?_ | refine thenA_r ?_ | refine thenA_e ?_ | refine inB_n ?_ | refine inB_r ?_ | refine inB_hit ?_ | refine inB_miss rfl ?_ | ((first | refine AL_cl rfl rfl rfl ⟨fun hc => ?_, fun hc => ?_⟩ | refine AD_cl rfl rfl rfl ⟨fun hc => ?_, fun hc => ?_⟩) <;> (fail_if_success (have q : (true = true) := hc)) <;> (fail_if_success (have q : (false = false) := hc)) <;> (repeat rw [List.length_map] at hc) <;> (try exact absd hc)) | refine AW_cond_nil rfl rfl (fun hc => ?_) ?_))
  refine AW_loopP (X := Nat × List Snt × List Snt) (fun x => A.length < x.1 ∧ x.1 ≤ b + 1 ∧ A.length + x.2.1.length = min x.1 b ∧ A.length + x.2.1.length + x.2.2.length = b ∧ kOkS x.2.1 ∧ kOkS x.2.2 ∧ A ++ x.2.2.foldl (insT ltSn) x.2.1 ++ Z = R)
    (fun x => mkSt [(0, .row 1000 0), (1, iC .i64 (A.length : Nat)), (2, iC .i64 (b : Nat)), (3, cmpCS), (8, iC .i64 (x.1 : Nat))] [(1000, itsWS (A ++ x.2.1 ++ (x.2.2 ++ Z)))]) (fun x => b + 1 - x.1) (A.length + 1, M.take 1, M.drop 1) ?_ ?_ ?_
  · refine ⟨by simp only; omega, by simp only; omega, by simp only [List.length_take]; omega, by simp only [List.length_take, List.length_drop]; omega, fun x h => hk x (List.mem_of_mem_take h), fun x h => hk x (List.mem_of_mem_drop h), ?_⟩
    rw [← hR]
    cases M with
    | nil => rfl
    | cons x M => rfl
  · have e : A ++ M.take 1 ++ (M.drop 1 ++ Z) = A ++ M ++ Z := by
      rw [List.append_assoc, ← List.append_assoc (M.take 1), List.take_append_drop, List.append_assoc]
    rw [e]
    exact le_auto
  · rintro ⟨i, p, q⟩ ⟨h1, h2, h3, h4, hkp, hkq, h5⟩
    simp only at h1 h2 h3 h4 hkp hkq h5 ⊢
    by_cases hlt : i < b
    · obtain ⟨x, q, rfl⟩ : ∃ x q', q = x :: q' := by
        cases q with
        | nil => simp at h4; omega
        | cons x q => exact ⟨x, q, rfl⟩
      have hip : A.length + p.length = i := by omega
      clear h3
      have hkx := hkq x (by simp)
      simp only [List.length_cons, List.foldl_cons] at h4 h5
      (repeat' (first | refine AW_seq ?_ | refine AW_block ?_ | refine AW_skip ?_ | refine AW_exit ?_ | refine AW_ret ?_ | refine AW_region ?_ | refine AL_nil ?_ | refine AD_nil (by kernel_rfl) ?_ | (refine AW_cl rfl rfl ⟨fun hc => ?_, fun hc => ?_⟩ <;> (repeat rw [List.length_map] at hc) <;> (try exact absd hc)) | ((first | apply AL_t rfl | apply AL_0 rfl | apply AD_t rfl | apply AD_0 rfl); focus (first | exact z_auto | fail)) | refine thenA_n ?_ | refine thenA_r ?_ | refine thenA_e ?_ | refine inB_n ?_ | refine inB_r ?_ | refine inB_hit ?_ | refine inB_miss rfl ?_ | ((first | refine AL_cl rfl rfl rfl ⟨fun hc => ?_, fun hc => ?_⟩ | refine AD_cl rfl rfl rfl ⟨fun hc => ?_, fun hc => ?_⟩) <;> (fail_if_success (have q : (true = true) := hc)) <;> (fail_if_success (have q : (false = false) := hc)) <;> (repeat rw [List.length_map] at hc) <;> (try exact absd hc)) | refine AW_cond_nil rfl rfl (fun hc => ?_) ?_))
      refine AW_loopP (X := List Snt × List Snt) (fun y => y.1.length + y.2.length = p.length ∧ kOkS y.1 ∧ kOkS y.2 ∧ insS ltSn x y.1.reverse y.2 = insT ltSn p x)
        (fun y => mkSt [(0, .row 1000 0), (1, iC .i64 (A.length : Nat)), (2, iC .i64 (b : Nat)), (3, cmpCS), (8, iC .i64 (i : Nat)), (9, iC .i64 ((A.length + y.1.length : Nat) : Int))] [(1000, itsWS (A ++ y.1 ++ x :: (y.2 ++ (q ++ Z))))]) (fun y => y.1.length) (p, []) ⟨by simp, hkp, fun x h => by simp at h, rfl⟩ ?_ ?_
      · subst hip
        exact le_auto
      · rintro ⟨p1, p2⟩ ⟨g1, gk1, gk2, g2⟩
        simp only at g1 gk1 gk2 g2 ⊢
        have out : insT ltSn p x = p1 ++ x :: p2 → (∃ z : Nat × List Snt × List Snt, (A.length < z.1 ∧ z.1 ≤ b + 1 ∧ A.length + z.2.1.length = min z.1 b ∧ A.length + z.2.1.length + z.2.2.length = b ∧ kOkS z.2.1 ∧ kOkS z.2.2 ∧ A ++ z.2.2.foldl (insT ltSn) z.2.1 ++ Z = R) ∧ z = (i + 1, p1 ++ x :: p2, q)) := fun e => by
          refine ⟨_, ⟨by simp only; omega, by simp only; omega, by simp; omega, by simp; omega, fun y hy => ?_, fun y hy => hkq y (by simp [hy]), by rw [← e]; exact h5⟩, rfl⟩
          rcases List.mem_append.1 hy with h | h
          · exact gk1 y h
          · rcases List.mem_cons.1 h with h | h
            · subst h; exact hkx
            · exact gk2 y h
        have hL0 : A ++ p1 ++ x :: (p2 ++ (q ++ Z)) = A ++ (p1 ++ x :: p2) ++ (q ++ Z) := by simp
        rcases snoc_cases p1 with rfl | ⟨p1', y, rfl⟩
        · have e : insT ltSn p x = [] ++ x :: p2 := by rw [← g2]; rfl
          obtain ⟨z, hz, rfl⟩ := out e
          rw [hL0]
          (repeat' (first | refine AW_seq ?_ | refine AW_block ?_ | refine AW_skip ?_ | refine AW_exit ?_ | refine AW_ret ?_ | refine AW_region ?_ | refine AW_draw mixed0 ?_ | refine AL_nil ?_ | refine AD_nil (by kernel_rfl) ?_ | (refine AW_cl rfl rfl ⟨fun hc => ?_, fun hc => ?_⟩ <;> (repeat rw [List.length_map] at hc) <;> (try exact absd hc)) | ((first | apply AL_t rfl | apply AL_0 rfl | apply AD_t rfl | apply AD_0 rfl); focus (first | exact z_auto | fail)) | refine thenA_n ?_ | refine thenA_r ?_ | refine thenA_e ?_ | refine inB_n ?_ | refine inB_r ?_ | refine inB_hit ?_ | refine inB_miss rfl ?_ | ((first | refine AL_cl rfl rfl rfl ⟨fun hc => ?_, fun hc => ?_⟩ | refine AD_cl rfl rfl rfl ⟨fun hc => ?_, fun hc => ?_⟩) <;> (fail_if_success (have q : (true = true) := hc)) <;> (fail_if_success (have q : (false = false) := hc)) <;> (repeat rw [List.length_map] at hc) <;> (try exact absd hc)) | refine AW_cond_nil rfl rfl (fun hc => ?_) ?_))
          refine ⟨_, hz, by simp only; omega, ?_⟩
          exact le_auto
        · obtain ⟨j, hj⟩ : ∃ j, A.length + p1'.length = j := ⟨_, rfl⟩
          have hj1 : A.length + (p1' ++ [y]).length = j + 1 := by simp; omega
          have hky := gk1 y (by simp)
          have hm := cmp_snt x y hkx hky
          generalize hL : A ++ (p1' ++ [y]) ++ x :: (p2 ++ (q ++ Z)) = L at *
          have hlen : j + 1 < L.length := by rw [← hL]; simp; omega
          have HJ : (L.map sntP)[j + 1]? = some (sntP x) := by
            rw [List.getElem?_map, ← hL, List.getElem?_append_right (by simp; omega), List.length_append, hj1, Nat.sub_self]; rfl
          have HJ1 : (L.map sntP)[j]? = some (sntP y) := by
            rw [List.getElem?_map, ← hL, List.append_assoc, List.append_assoc, List.getElem?_append_right (by omega), List.getElem?_append_right (by omega)]
            rw [show j - A.length - p1'.length = 0 by omega]; rfl
          rw [hj1]
          have hrev : (p1' ++ [y]).reverse = y :: p1'.reverse := by simp
          rw [hrev, insS] at g2
          have HS1 : (L.map sntP).set (j + 1) (setP (sntP x) 0 (sntP y)) = (L.set (j + 1) y).map sntP := by rw [← map_set']; rfl
          have HJ2 : ((L.set (j + 1) y).map sntP)[j]? = some (sntP y) := by
            rw [← map_set', List.getElem?_set_ne (by omega)]; exact HJ1
          have HS2 : ((L.set (j + 1) y).map sntP).set j (setP (sntP y) 0 (sntP x)) = (A ++ p1' ++ x :: ((y :: p2) ++ (q ++ Z))).map sntP := by
            rw [map_set' sntP (L.set (j + 1) y) j x |>.symm.trans rfl |> fun h => (show ((L.set (j + 1) y).map sntP).set j (setP (sntP y) 0 (sntP x)) = ((L.set (j + 1) y).set j x).map sntP from map_set' sntP _ j x)]
            rw [← hL, set_at (A ++ (p1' ++ [y])) x y _ (j + 1) (by simp; omega), show A ++ (p1' ++ [y]) ++ y :: (p2 ++ (q ++ Z)) = (A ++ p1') ++ y :: (y :: (p2 ++ (q ++ Z))) by simp, set_at (A ++ p1') y x _ j (by simp; omega)]
            simp
          by_cases hxy : cmpSn x y < 0
          · rw [if_pos (show ltSn x y = true from decide_eq_true hxy)] at g2
            clear out
            (repeat' (first | refine AW_seq ?_ | refine AW_block ?_ | refine AW_skip ?_ | refine AW_exit ?_ | refine AW_ret ?_ | refine AW_region ?_ | refine AW_draw mixed0 ?_ | refine AL_nil ?_ | refine AD_nil (by kernel_rfl) ?_ | (refine AW_cl rfl rfl ⟨fun hc => ?_, fun hc => ?_⟩ <;> (repeat rw [List.length_map] at hc) <;> (try exact absd hc)) | ((first | apply AL_t rfl | apply AL_0 rfl | apply AD_t rfl | apply AD_0 rfl); focus (first | exact z_auto | ((apply u_k 5; (focus rfl); first | exact u_load_rA ⟨rfl, rfl, rfl⟩ rfl inferInstance inferInstance rfl rfl rfl HJ rfl rfl rfl | exact u_load_rA ⟨rfl, rfl, rfl⟩ rfl inferInstance inferInstance rfl rfl rfl HJ1 rfl rfl rfl)) | (apply u_g; (focus rfl); apply op_gyes rfl rfl rfl rfl rfl; ((apply u_k 5; (focus rfl); first | exact u_load_rA ⟨rfl, rfl, rfl⟩ rfl inferInstance inferInstance rfl rfl rfl HJ rfl rfl rfl | exact u_load_rA ⟨rfl, rfl, rfl⟩ rfl inferInstance inferInstance rfl rfl rfl HJ1 rfl rfl rfl))) | ((apply u_k 6; (focus rfl); first | exact u_store_r ⟨rfl, rfl⟩ rfl inferInstance rfl rfl rfl rfl HJ rfl (.inl rfl) rfl HS1 | exact u_store_r ⟨rfl, rfl⟩ rfl inferInstance rfl rfl rfl rfl HJ2 rfl (.inl rfl) rfl HS2)) | (apply u_g; (focus rfl); apply op_gyes rfl rfl rfl rfl rfl; ((apply u_k 6; (focus rfl); first | exact u_store_r ⟨rfl, rfl⟩ rfl inferInstance rfl rfl rfl rfl HJ rfl (.inl rfl) rfl HS1 | exact u_store_r ⟨rfl, rfl⟩ rfl inferInstance rfl rfl rfl rfl HJ2 rfl (.inl rfl) rfl HS2))) | (exact c_V [] hm) | (apply u_g; (focus rfl); apply op_gyes rfl rfl rfl rfl rfl; (exact c_V [] hm)) | fail)) | refine thenA_n ?_ | refine thenA_r ?_ | refine thenA_e ?_ | refine inB_n ?_ | refine inB_r ?_ | refine inB_hit ?_ | refine inB_miss rfl ?_ | ((first | refine AL_cl rfl rfl rfl ⟨fun hc => ?_, fun hc => ?_⟩ | refine AD_cl rfl rfl rfl ⟨fun hc => ?_, fun hc => ?_⟩) <;> (fail_if_success (have q : (true = true) := hc)) <;> (fail_if_success (have q : (false = false) := hc)) <;> (repeat rw [List.length_map] at hc) <;> (try exact absd hc)) | refine AW_cond_nil rfl rfl (fun hc => ?_) ?_))
            refine ⟨(p1', y :: p2), ⟨by simp at g1 ⊢; omega, fun z h => gk1 z (by simp [h]), fun z h => ?_, g2⟩, by simp, ?_⟩
            · rcases List.mem_cons.1 h with h | h
              · subst h; exact hky
              · exact gk2 z h
            · simp only [hj]
              exact le_auto
          · rw [if_neg (show ¬ ltSn x y = true by unfold ltSn; rw [decide_eq_true_iff]; exact hxy)] at g2
            have e : insT ltSn p x = (p1' ++ [y]) ++ x :: p2 := by rw [← g2]; simp
            obtain ⟨z, hz, rfl⟩ := out e
            (repeat' (first | refine AW_seq ?_ | refine AW_block ?_ | refine AW_skip ?_ | refine AW_exit ?_ | refine AW_ret ?_ | refine AW_region ?_ | refine AW_draw mixed0 ?_ | refine AL_nil ?_ | refine AD_nil (by kernel_rfl) ?_ | (refine AW_cl rfl rfl ⟨fun hc => ?_, fun hc => ?_⟩ <;> (repeat rw [List.length_map] at hc) <;> (try exact absd hc)) | ((first | apply AL_t rfl | apply AL_0 rfl | apply AD_t rfl | apply AD_0 rfl); focus (first | exact z_auto | ((apply u_k 5; (focus rfl); first | exact u_load_rA ⟨rfl, rfl, rfl⟩ rfl inferInstance inferInstance rfl rfl rfl HJ rfl rfl rfl | exact u_load_rA ⟨rfl, rfl, rfl⟩ rfl inferInstance inferInstance rfl rfl rfl HJ1 rfl rfl rfl)) | (apply u_g; (focus rfl); apply op_gyes rfl rfl rfl rfl rfl; ((apply u_k 5; (focus rfl); first | exact u_load_rA ⟨rfl, rfl, rfl⟩ rfl inferInstance inferInstance rfl rfl rfl HJ rfl rfl rfl | exact u_load_rA ⟨rfl, rfl, rfl⟩ rfl inferInstance inferInstance rfl rfl rfl HJ1 rfl rfl rfl))) | (exact c_V [] hm) | (apply u_g; (focus rfl); apply op_gyes rfl rfl rfl rfl rfl; (exact c_V [] hm)) | fail)) | refine thenA_n ?_ | refine thenA_r ?_ | refine thenA_e ?_ | refine inB_n ?_ | refine inB_r ?_ | refine inB_hit ?_ | refine inB_miss rfl ?_ | ((first | refine AL_cl rfl rfl rfl ⟨fun hc => ?_, fun hc => ?_⟩ | refine AD_cl rfl rfl rfl ⟨fun hc => ?_, fun hc => ?_⟩) <;> (fail_if_success (have q : (true = true) := hc)) <;> (fail_if_success (have q : (false = false) := hc)) <;> (repeat rw [List.length_map] at hc) <;> (try exact absd hc)) | refine AW_cond_nil rfl rfl (fun hc => ?_) ?_))
            refine ⟨_, hz, by simp only; omega, ?_⟩
            simp only
            rw [← hL0]
            exact le_auto
    · have hq : q = [] := List.eq_nil_of_length_eq_zero (by omega)
      subst hq
      simp only [List.foldl_nil] at h5
      (repeat' (first | refine AW_seq ?_ | refine AW_block ?_ | refine AW_skip ?_ | refine AW_exit ?_ | refine AW_ret ?_ | refine AW_region ?_ | refine AW_draw mixed0 ?_ | refine AL_nil ?_ | refine AD_nil (by kernel_rfl) ?_ | (refine AW_cl rfl rfl ⟨fun hc => ?_, fun hc => ?_⟩ <;> (repeat rw [List.length_map] at hc) <;> (try exact absd hc)) | ((first | apply AL_t rfl | apply AL_0 rfl | apply AD_t rfl | apply AD_0 rfl); focus (first | exact z_auto | fail)) | refine thenA_n ?_ | refine thenA_r ?_ | refine thenA_e ?_ | refine inB_n ?_ | refine inB_r ?_ | refine inB_hit ?_ | refine inB_miss rfl ?_ | ((first | refine AL_cl rfl rfl rfl ⟨fun hc => ?_, fun hc => ?_⟩ | refine AD_cl rfl rfl rfl ⟨fun hc => ?_, fun hc => ?_⟩) <;> (fail_if_success (have q : (true = true) := hc)) <;> (fail_if_success (have q : (false = false) := hc)) <;> (repeat rw [List.length_map] at hc) <;> (try exact absd hc)) | refine AW_cond_nil rfl rfl (fun hc => ?_) ?_))
      rw [List.nil_append, h5]
      (refine ⟨(by first | exact .inl rfl | exact .inr rfl), resM0 [(1000, 1000)] rfl rfl ?_⟩; (focus (repeat (first | exact AllX.nil | (refine AllX.cons rfl ?_ ?_; (focus first | rfl | skip))))))
end

section
set_option maxRecDepth 10000
set_option maxHeartbeats 4000000
theorem stableS (M : List Snt) (hk : kOkS M) (hl : M.length ≤ 20) : FnM Try.prog 125 [.row 1000 0, iC .i64 (M.length : Nat), cmpCS] [(1000, itsWS M)] .any [(1000, itsWS (srtS ltSn M))] := by
  have h := sort_insS [] M [] hk (by simp; omega)
  have hRl : (srtS ltSn M).length = M.length := srtS_len M
  have h2 := sort_insS (srtS ltSn M) [] [] (fun x hx => by simp at hx) (by simp [hRl]; omega)
  simp only [List.nil_append, List.append_nil, List.length_nil, Nat.zero_add, Nat.add_zero, srtS, List.foldl_nil] at h h2
  rw [show List.foldl (insT ltSn) [] M = srtS ltSn M from rfl] at h h2
  rw [hRl] at h2
  generalize srtS ltSn M = R at *
  by_cases h20 : M.length = 20
  · rw [h20] at h h2 ⊢
    refine fnm_intro Try.func125 rfl (by kernel_rfl) Try.ntmps125 (Nat.le_of_ble_eq_true rfl) ?_
    (repeat' (first | refine AW_seq ?_ | refine AW_block ?_ | refine AW_skip ?_ | refine AW_exit ?_ | refine AW_ret ?_ | refine AW_region ?_ | refine AW_draw mixed0 ?_ | refine AL_nil ?_ | refine AD_nil (by kernel_rfl) ?_ | (refine AW_cl rfl rfl ⟨fun hc => ?_, fun hc => ?_⟩ <;> (repeat rw [List.length_map] at hc) <;> (try exact absd hc)) | ((first | apply AL_t rfl | apply AL_0 rfl | apply AD_t rfl | apply AD_0 rfl); focus (first | exact z_auto | fail)) | refine thenA_n ?_ | refine thenA_r ?_ | refine thenA_e ?_ | refine inB_n ?_ | refine inB_r ?_ | refine inB_hit ?_ | refine inB_miss rfl ?_ | ((first | refine AL_cl rfl rfl rfl ⟨fun hc => ?_, fun hc => ?_⟩ | refine AD_cl rfl rfl rfl ⟨fun hc => ?_, fun hc => ?_⟩) <;> (fail_if_success (have q : (true = true) := hc)) <;> (fail_if_success (have q : (false = false) := hc)) <;> (repeat rw [List.length_map] at hc) <;> (try exact absd hc)) | refine AW_cond_nil rfl rfl (fun hc => ?_) ?_))
    refine AW_loopP (X := Bool) (fun _ => True) (fun b => mkSt [(0, .row 1000 0), (1, iC .i64 (20 : Nat)), (2, cmpCS), (6, iC .i64 20), (7, iC .i64 (if b then 20 else 0)), (8, iC .i64 (if b then 40 else 20))] [(1000, itsWS (if b then R else M))]) (fun b => if b then 0 else 1) false trivial ?_ ?_
    · exact le_auto
    · rintro b -
      cases b with
      | false =>
        simp only [Bool.false_eq_true, if_false]
        (repeat' (first | refine AW_seq ?_ | refine AW_block ?_ | refine AW_skip ?_ | refine AW_exit ?_ | refine AW_ret ?_ | refine AW_region ?_ | refine AW_draw mixed0 ?_ | refine AL_nil ?_ | refine AD_nil (by kernel_rfl) ?_ | (refine AW_cl rfl rfl ⟨fun hc => ?_, fun hc => ?_⟩ <;> (repeat rw [List.length_map] at hc) <;> (try exact absd hc)) | ((first | apply AL_t rfl | apply AL_0 rfl | apply AD_t rfl | apply AD_0 rfl); focus (first | exact z_auto | exact c_MA [(1000, 1000)] (h) | fail)) | refine thenA_n ?_ | refine thenA_r ?_ | refine thenA_e ?_ | refine inB_n ?_ | refine inB_r ?_ | refine inB_hit ?_ | refine inB_miss rfl ?_ | ((first | refine AL_cl rfl rfl rfl ⟨fun hc => ?_, fun hc => ?_⟩ | refine AD_cl rfl rfl rfl ⟨fun hc => ?_, fun hc => ?_⟩) <;> (fail_if_success (have q : (true = true) := hc)) <;> (fail_if_success (have q : (false = false) := hc)) <;> (repeat rw [List.length_map] at hc) <;> (try exact absd hc)) | refine AW_cond_nil rfl rfl (fun hc => ?_) ?_))
        refine ⟨true, trivial, by simp, ?_⟩
        exact le_auto
      | true =>
        simp only [if_true]
        (repeat' (first | refine AW_seq ?_ | refine AW_block ?_ | refine AW_skip ?_ | refine AW_exit ?_ | refine AW_ret ?_ | refine AW_region ?_ | refine AW_draw mixed0 ?_ | refine AL_nil ?_ | refine AD_nil (by kernel_rfl) ?_ | (refine AW_cl rfl rfl ⟨fun hc => ?_, fun hc => ?_⟩ <;> (repeat rw [List.length_map] at hc) <;> (try exact absd hc)) | ((first | apply AL_t rfl | apply AL_0 rfl | apply AD_t rfl | apply AD_0 rfl); focus (first | exact z_auto | exact c_MA [(1000, 1000)] (h2) | fail)) | refine thenA_n ?_ | refine thenA_r ?_ | refine thenA_e ?_ | refine inB_n ?_ | refine inB_r ?_ | refine inB_hit ?_ | refine inB_miss rfl ?_ | ((first | refine AL_cl rfl rfl rfl ⟨fun hc => ?_, fun hc => ?_⟩ | refine AD_cl rfl rfl rfl ⟨fun hc => ?_, fun hc => ?_⟩) <;> (fail_if_success (have q : (true = true) := hc)) <;> (fail_if_success (have q : (false = false) := hc)) <;> (repeat rw [List.length_map] at hc) <;> (try exact absd hc)) | refine AW_cond_nil rfl rfl (fun hc => ?_) ?_))
        refine AW_loopP (X := Unit) (fun _ => True) (fun _ => mkSt [(1, iC .i64 (20 : Nat)), (6, iC .i64 20)] [(1000, itsWS R)]) (fun _ => 0) () trivial ?_ ?_
        · exact le_auto
        · rintro _ -
          (repeat' (first | refine AW_seq ?_ | refine AW_block ?_ | refine AW_skip ?_ | refine AW_exit ?_ | refine AW_ret ?_ | refine AW_region ?_ | refine AW_draw mixed0 ?_ | refine AL_nil ?_ | refine AD_nil (by kernel_rfl) ?_ | (refine AW_cl rfl rfl ⟨fun hc => ?_, fun hc => ?_⟩ <;> (repeat rw [List.length_map] at hc) <;> (try exact absd hc)) | ((first | apply AL_t rfl | apply AL_0 rfl | apply AD_t rfl | apply AD_0 rfl); focus (first | exact z_auto | fail)) | refine thenA_n ?_ | refine thenA_r ?_ | refine thenA_e ?_ | refine inB_n ?_ | refine inB_r ?_ | refine inB_hit ?_ | refine inB_miss rfl ?_ | ((first | refine AL_cl rfl rfl rfl ⟨fun hc => ?_, fun hc => ?_⟩ | refine AD_cl rfl rfl rfl ⟨fun hc => ?_, fun hc => ?_⟩) <;> (fail_if_success (have q : (true = true) := hc)) <;> (fail_if_success (have q : (false = false) := hc)) <;> (repeat rw [List.length_map] at hc) <;> (try exact absd hc)) | refine AW_cond_nil rfl rfl (fun hc => ?_) ?_))
          (refine ⟨(by first | exact .inl rfl | exact .inr rfl), resM0 [(1000, 1000)] rfl rfl ?_⟩; (focus (repeat (first | exact AllX.nil | (refine AllX.cons rfl ?_ ?_; (focus first | rfl | skip))))))
  · refine fnm_intro Try.func125 rfl (by kernel_rfl) Try.ntmps125 (Nat.le_of_ble_eq_true rfl) ?_
    (repeat' (first | refine AW_seq ?_ | refine AW_block ?_ | refine AW_skip ?_ | refine AW_exit ?_ | refine AW_ret ?_ | refine AW_region ?_ | refine AW_draw mixed0 ?_ | refine AL_nil ?_ | refine AD_nil (by kernel_rfl) ?_ | (refine AW_cl rfl rfl ⟨fun hc => ?_, fun hc => ?_⟩ <;> (repeat rw [List.length_map] at hc) <;> (try exact absd hc)) | ((first | apply AL_t rfl | apply AL_0 rfl | apply AD_t rfl | apply AD_0 rfl); focus (first | exact z_auto | exact c_MA [(1000, 1000)] (h) | fail)) | refine thenA_n ?_ | refine thenA_r ?_ | refine thenA_e ?_ | refine inB_n ?_ | refine inB_r ?_ | refine inB_hit ?_ | refine inB_miss rfl ?_ | ((first | refine AL_cl rfl rfl rfl ⟨fun hc => ?_, fun hc => ?_⟩ | refine AD_cl rfl rfl rfl ⟨fun hc => ?_, fun hc => ?_⟩) <;> (fail_if_success (have q : (true = true) := hc)) <;> (fail_if_success (have q : (false = false) := hc)) <;> (repeat rw [List.length_map] at hc) <;> (try exact absd hc)) | refine AW_cond_nil rfl rfl (fun hc => ?_) ?_))
    refine AW_loopP (X := Unit) (fun _ => True) (fun _ => mkSt [(0, .row 1000 0), (1, iC .i64 (M.length : Nat)), (2, cmpCS), (6, iC .i64 20), (7, iC .i64 0), (8, iC .i64 20)] [(1000, itsWS M)]) (fun _ => 0) () trivial ?_ ?_
    · exact le_auto
    · rintro _ -
      (repeat' (first | refine AW_seq ?_ | refine AW_block ?_ | refine AW_skip ?_ | refine AW_exit ?_ | refine AW_ret ?_ | refine AW_region ?_ | refine AW_draw mixed0 ?_ | refine AL_nil ?_ | refine AD_nil (by kernel_rfl) ?_ | (refine AW_cl rfl rfl ⟨fun hc => ?_, fun hc => ?_⟩ <;> (repeat rw [List.length_map] at hc) <;> (try exact absd hc)) | ((first | apply AL_t rfl | apply AL_0 rfl | apply AD_t rfl | apply AD_0 rfl); focus (first | exact z_auto | exact c_MA [(1000, 1000)] (h) | fail)) | refine thenA_n ?_ | refine thenA_r ?_ | refine thenA_e ?_ | refine inB_n ?_ | refine inB_r ?_ | refine inB_hit ?_ | refine inB_miss rfl ?_ | ((first | refine AL_cl rfl rfl rfl ⟨fun hc => ?_, fun hc => ?_⟩ | refine AD_cl rfl rfl rfl ⟨fun hc => ?_, fun hc => ?_⟩) <;> (fail_if_success (have q : (true = true) := hc)) <;> (fail_if_success (have q : (false = false) := hc)) <;> (repeat rw [List.length_map] at hc) <;> (try exact absd hc)) | refine AW_cond_nil rfl rfl (fun hc => ?_) ?_))
      refine AW_loopP (X := Unit) (fun _ => True) (fun _ => mkSt [(1, iC .i64 (M.length : Nat)), (6, iC .i64 20)] [(1000, itsWS R)]) (fun _ => 0) () trivial ?_ ?_
      · exact le_auto
      · rintro _ -
        (repeat' (first | refine AW_seq ?_ | refine AW_block ?_ | refine AW_skip ?_ | refine AW_exit ?_ | refine AW_ret ?_ | refine AW_region ?_ | refine AW_draw mixed0 ?_ | refine AL_nil ?_ | refine AD_nil (by kernel_rfl) ?_ | (refine AW_cl rfl rfl ⟨fun hc => ?_, fun hc => ?_⟩ <;> (repeat rw [List.length_map] at hc) <;> (try exact absd hc)) | ((first | apply AL_t rfl | apply AL_0 rfl | apply AD_t rfl | apply AD_0 rfl); focus (first | exact z_auto | fail)) | refine thenA_n ?_ | refine thenA_r ?_ | refine thenA_e ?_ | refine inB_n ?_ | refine inB_r ?_ | refine inB_hit ?_ | refine inB_miss rfl ?_ | ((first | refine AL_cl rfl rfl rfl ⟨fun hc => ?_, fun hc => ?_⟩ | refine AD_cl rfl rfl rfl ⟨fun hc => ?_, fun hc => ?_⟩) <;> (fail_if_success (have q : (true = true) := hc)) <;> (fail_if_success (have q : (false = false) := hc)) <;> (repeat rw [List.length_map] at hc) <;> (try exact absd hc)) | refine AW_cond_nil rfl rfl (fun hc => ?_) ?_))
        (refine ⟨(by first | exact .inl rfl | exact .inr rfl), resM0 [(1000, 1000)] rfl rfl ?_⟩; (focus (repeat (first | exact AllX.nil | (refine AllX.cons rfl ?_ ?_; (focus first | rfl | skip))))))
theorem sort_stableS (M : List Snt) (hk : kOkS M) (hl : M.length ≤ 20) : FnM Try.prog 86 [.row 1000 0, cmpCS] [(1000, itsWS M)] .any [(1000, itsWS (srtS ltSn M))] := by
  have h := stableS M hk hl
  generalize srtS ltSn M = R at *
  refine fnm_intro Try.func86 rfl (by kernel_rfl) Try.ntmps86 (Nat.le_of_ble_eq_true rfl) ?_
  (repeat' (first | refine AW_seq ?_ | refine AW_block ?_ | refine AW_skip ?_ | refine AW_exit ?_ | refine AW_ret ?_ | refine AW_region ?_ | refine AW_draw mixed0 ?_ | refine AL_nil ?_ | refine AD_nil (by kernel_rfl) ?_ | (refine AW_cl rfl rfl ⟨fun hc => ?_, fun hc => ?_⟩ <;> (repeat rw [List.length_map] at hc) <;> (try exact absd hc)) | ((first | apply AL_t rfl | apply AL_0 rfl | apply AD_t rfl | apply AD_0 rfl); focus (first | exact z_auto | exact c_MA [(1000, 1000)] (h) | fail)) | refine thenA_n ?_ | refine thenA_r ?_ | refine thenA_e ?_ | refine inB_n ?_ | refine inB_r ?_ | refine inB_hit ?_ | refine inB_miss rfl ?_ | ((first | refine AL_cl rfl rfl rfl ⟨fun hc => ?_, fun hc => ?_⟩ | refine AD_cl rfl rfl rfl ⟨fun hc => ?_, fun hc => ?_⟩) <;> (fail_if_success (have q : (true = true) := hc)) <;> (fail_if_success (have q : (false = false) := hc)) <;> (repeat rw [List.length_map] at hc) <;> (try exact absd hc)) | refine AW_cond_nil rfl rfl (fun hc => ?_) ?_))
  (refine ⟨(by first | exact .inl rfl | exact .inr rfl), resM0 [(1000, 1000)] rfl rfl ?_⟩; (focus (repeat (first | exact AllX.nil | (refine AllX.cons rfl ?_ ?_; (focus first | rfl | skip))))))
end
end Go.Proofs.Ytbpmafpmlapekaa
namespace Go.Proofs.Ytbpmafpmlapekaa
open Go.RowKit
/-- how early an item goes -/
def clsOf (R : List Rg) (hs : Int → Int → Bool) (x : It) : Int := (if anyR R x.key then 0 else 2) + (if hs x.rep x.cnt then 1 else 0)
theorem clsOf_rng (R : List Rg) (hs : Int → Int → Bool) (x : It) : 0 ≤ clsOf R hs x ∧ clsOf R hs x ≤ 3 := by
  unfold clsOf; split <;> split <;> omega
def snt (R : List Rg) (hs : Int → Int → Bool) (x : It) : Snt := (x, clsOf R hs x)
def sortL (R : List Rg) (hs : Int → Int → Bool) (l : List It) : List It := (srtS ltSn (l.map (snt R hs))).map Prod.fst
theorem snt_ok {R : List Rg} {hs : Int → Int → Bool} {l : List It} (hk : kOk l) : kOkS (l.map (snt R hs)) := fun x hx => by
  obtain ⟨y, hy, rfl⟩ := List.mem_map.1 hx
  have := clsOf_rng R hs y
  exact ⟨hk y hy, this.1, this.2⟩
theorem zbl_imp {N : BP} {w : World} {v : Value} (h : zblP.p N w v) : (rblP [] 0 0).p N w v := by
  obtain ⟨vs, e, h1, h2⟩ := h
  refine ⟨vs, e, h1, fun j A hj => ?_⟩
  match j, hj with
  | 0, hj =>
    cases hj
    obtain ⟨y, q1, q2, q3⟩ := h2 0 _ rfl
    have q3 : y = .slice none 0 0 := q3
    subst q3
    exact ⟨_, q1, q2, none, 0, 0, 0, rfl, by simp, by decide, fun _ => rfl, by simp, fun i cs hi => by simp at hi⟩
  | 1, hj => cases hj; exact h2 1 _ rfl
  | 2, hj => cases hj; exact h2 2 _ rfl
  | _ + 3, hj => simp at hj
section
set_option maxRecDepth 10000
set_option maxHeartbeats 4000000
theorem od_Class (R R' : List Rg) (hR : R'.length ≤ 12) (hA : ∀ s, anyR R' s = anyR R s) (th : PV) (hs : Int → Int → Bool) (x : It) (hk : x.key.size ≤ 1000000000)
    (hH : Fn Try.prog 15 [.per th, vrC x.rep x.cnt] (boR (hs x.rep x.cnt))) : Fn Try.prog 53 [.per (rgsP R'), .per th, itC x] (inR (clsOf R hs x)) := by
  have h1 := rgs_Has R' x.key hR hk
  rw [hA] at h1
  unfold clsOf
  generalize anyR R x.key = a at *
  generalize hs x.rep x.cnt = c at *
  cases a <;> cases c
  all_goals
    refine fn_intro Try.func53 rfl (by kernel_rfl) Try.ntmps53 (Nat.le_of_ble_eq_true rfl) ?_
    (repeat' (first | refine AW_seq ?_ | refine AW_block ?_ | refine AW_skip ?_ | refine AW_exit ?_ | refine AW_ret ?_ | refine AW_region ?_ | refine AW_draw mixed0 ?_ | refine AL_nil ?_ | refine AD_nil (by kernel_rfl) ?_ | (refine AW_cl rfl rfl ⟨fun hc => ?_, fun hc => ?_⟩ <;> (repeat rw [List.length_map] at hc) <;> (try exact absd hc)) | ((first | apply AL_t rfl | apply AL_0 rfl | apply AD_t rfl | apply AD_0 rfl); focus (first | exact z_auto | exact c_A (h1) | exact c_A (hH) | fail)) | refine thenA_n ?_ | refine thenA_r ?_ | refine thenA_e ?_ | refine inB_n ?_ | refine inB_r ?_ | refine inB_hit ?_ | refine inB_miss rfl ?_ | ((first | refine AL_cl rfl rfl rfl ⟨fun hc => ?_, fun hc => ?_⟩ | refine AD_cl rfl rfl rfl ⟨fun hc => ?_, fun hc => ?_⟩) <;> (fail_if_success (have q : (true = true) := hc)) <;> (fail_if_success (have q : (false = false) := hc)) <;> (repeat rw [List.length_map] at hc) <;> (try exact absd hc)) | refine AW_cond_nil rfl rfl (fun hc => ?_) ?_))
    (refine ⟨(by first | exact .inl rfl | exact .inr rfl), res1 rfl ?_⟩)
    exact rv_int rfl (by simp)
theorem od_Sort (R : List Rg) (hR : R.length ≤ 12) (th : PV) (hs : Int → Int → Bool) (hH : ∀ r c, Fn Try.prog 15 [.per th, vrC r c] (boR (hs r c))) (l : List It) (hk : kOk l) (hl : l.length ≤ 20) :
    Fn Try.prog 35 [rgsB R, .per th, itsB l] (ownI (sortL R hs l)) := by
  have h1 := (rgs_Of R (by have := List.length_filter_le rgR R; omega) (by omega)).frz
  have hA := (rgOf_spec R).2
  have hRl : (rgOf R).length ≤ 12 := by have := rgOf_len R; omega
  have h2 : ∀ x ∈ l, Fn Try.prog 53 [.per (rgsP (rgOf R)), .per th, itC x] (inR (clsOf R hs x)) := fun x hx => od_Class R (rgOf R) hRl hA th hs x (hk x hx) (hH _ _)
  have h3 := sort_stableS (l.map (snt R hs)) (snt_ok hk) (by simpa using hl)
  have hQl : (srtS ltSn (l.map (snt R hs))).length = l.length := by rw [srtS_len, List.length_map]
  unfold sortL
  generalize rgOf R = R' at *
  generalize srtS ltSn (l.map (snt R hs)) = Q at *
  clear hH hA hRl hR
  refine fn_intro Try.func35 rfl (by kernel_rfl) Try.ntmps35 (Nat.le_of_ble_eq_true rfl) ?_
  (repeat' (first | refine AW_seq ?_ | refine AW_block ?_ | refine AW_skip ?_ | refine AW_exit ?_ | refine AW_ret ?_ | refine AW_region ?_ | refine AW_draw mixed0 ?_ | refine AL_nil ?_ | refine AD_nil (by kernel_rfl) ?_ | (refine AW_cl rfl rfl ⟨fun hc => ?_, fun hc => ?_⟩ <;> (repeat rw [List.length_map] at hc) <;> (try exact absd hc)) | ((first | apply AL_t rfl | apply AL_0 rfl | apply AD_t rfl | apply AD_0 rfl); focus (first | exact z_auto | exact c_A (h1) | fail)) | refine thenA_n ?_ | refine thenA_r ?_ | refine thenA_e ?_ | refine inB_n ?_ | refine inB_r ?_ | refine inB_hit ?_ | refine inB_miss rfl ?_ | ((first | refine AL_cl rfl rfl rfl ⟨fun hc => ?_, fun hc => ?_⟩ | refine AD_cl rfl rfl rfl ⟨fun hc => ?_, fun hc => ?_⟩) <;> (fail_if_success (have q : (true = true) := hc)) <;> (fail_if_success (have q : (false = false) := hc)) <;> (repeat rw [List.length_map] at hc) <;> (try exact absd hc)) | refine AW_cond_nil rfl rfl (fun hc => ?_) ?_))
  refine AW_le (Le_nil 7 600 127 8 rfl rfl) ?_
  refine AW_loopP (X := Nat) (fun k => k ≤ l.length)
    (fun k => mkSt [(0, .per (rgsP R')), (1, .per th), (7, .row 600 0), (15, itsB l), (16, iC .i64 (l.length : Nat)), (17, iC .i64 (k : Nat))] [(600, itsWS ((l.take k).map (snt R hs)))]) (fun k => l.length - k) 0 (Nat.zero_le _) ?_ ?_
  · exact le_auto
  · rintro k g1
    by_cases hlt : k < l.length
    · have h4 := h2 l[k] (List.getElem_mem hlt)
      have ht : ((l.take (k + 1)).map (snt R hs)).map sntP = ((l.take k).map (snt R hs)).map sntP ++ [sntP (snt R hs l[k])] := by
        rw [List.take_succ_eq_append_getElem hlt, List.map_append, List.map_append]; rfl
      have htl : ((l.take k).map (snt R hs)).length ≤ 20 := by rw [List.length_map, List.length_take]; omega
      generalize (l.take k).map (snt R hs) = A at *
      generalize hB : (l.take (k + 1)).map (snt R hs) = B at *
      clear h1 h2 h3
      (repeat' (first | refine AW_seq ?_ | refine AW_block ?_ | refine AW_skip ?_ | refine AW_exit ?_ | refine AW_ret ?_ | refine AW_region ?_ | refine AW_draw mixed0 ?_ | refine AL_nil ?_ | refine AD_nil (by kernel_rfl) ?_ | (refine AW_cl rfl rfl ⟨fun hc => ?_, fun hc => ?_⟩ <;> (repeat rw [List.length_map] at hc) <;> (try exact absd hc)) | ((first | apply AL_t rfl | apply AL_0 rfl | apply AD_t rfl | apply AD_0 rfl); focus (first | exact z_auto | exact c_A (h4) | fail)) | refine thenA_n ?_ | refine thenA_r ?_ | refine thenA_e ?_ | refine inB_n ?_ | refine inB_r ?_ | refine inB_hit ?_ | refine inB_miss rfl ?_ | ((first | refine AL_cl rfl rfl rfl ⟨fun hc => ?_, fun hc => ?_⟩ | refine AD_cl rfl rfl rfl ⟨fun hc => ?_, fun hc => ?_⟩) <;> (fail_if_success (have q : (true = true) := hc)) <;> (fail_if_success (have q : (false = false) := hc)) <;> (repeat rw [List.length_map] at hc) <;> (try exact absd hc)) | refine AW_cond_nil rfl rfl (fun hc => ?_) ?_))
      refine ⟨k + 1, by omega, by omega, Le_trans (Le_mv 600 601) (Le_trans (Le_mv 601 600) ?_)⟩
      show Le _ _ (mkSt _ [(600, itsWS ((l.take (k + 1)).map (snt R hs)))])
      rw [hB]
      unfold itsWS
      rw [ht]
      exact le_auto
    · obtain rfl : k = l.length := by omega
      rw [List.take_length]
      clear h1 h2
      (repeat' (first | refine AW_seq ?_ | refine AW_block ?_ | refine AW_skip ?_ | refine AW_exit ?_ | refine AW_ret ?_ | refine AW_region ?_ | refine AW_draw mixed0 ?_ | refine AL_nil ?_ | refine AD_nil (by kernel_rfl) ?_ | (refine AW_cl rfl rfl ⟨fun hc => ?_, fun hc => ?_⟩ <;> (repeat rw [List.length_map] at hc) <;> (try exact absd hc)) | ((first | apply AL_t rfl | apply AL_0 rfl | apply AD_t rfl | apply AD_0 rfl); focus (first | exact z_auto | exact c_MA [(1000, 600)] (h3) | fail)) | refine thenA_n ?_ | refine thenA_r ?_ | refine thenA_e ?_ | refine inB_n ?_ | refine inB_r ?_ | refine inB_hit ?_ | refine inB_miss rfl ?_ | ((first | refine AL_cl rfl rfl rfl ⟨fun hc => ?_, fun hc => ?_⟩ | refine AD_cl rfl rfl rfl ⟨fun hc => ?_, fun hc => ?_⟩) <;> (fail_if_success (have q : (true = true) := hc)) <;> (fail_if_success (have q : (false = false) := hc)) <;> (repeat rw [List.length_map] at hc) <;> (try exact absd hc)) | refine AW_cond_nil rfl rfl (fun hc => ?_) ?_))
      refine AW_le (Le_nil 10 700 62 7 rfl rfl) ?_
      refine AW_loopP (X := Nat) (fun k => k ≤ Q.length)
        (fun k => mkSt [(10, .row 700 0), (33, .row 600 0), (34, iC .i64 (Q.length : Nat)), (35, iC .i64 (k : Nat))] [(600, itsWS Q), (700, itsW ((Q.take k).map Prod.fst))]) (fun k => Q.length - k) 0 (Nat.zero_le _) ?_ ?_
      · exact le_auto
      · rintro k g1
        by_cases hlt : k < Q.length
        · have ht : ((Q.take (k + 1)).map Prod.fst).map itP = ((Q.take k).map Prod.fst).map itP ++ [itP Q[k].1] := by
            rw [List.take_succ_eq_append_getElem hlt, List.map_append, List.map_append]; rfl
          have htl : ((Q.take k).map Prod.fst).length ≤ 20 := by rw [List.length_map, List.length_take]; omega
          have HQ : (Q.map sntP)[k]? = some (sntP Q[k]) := by rw [List.getElem?_map, List.getElem?_eq_getElem hlt]; rfl
          generalize (Q.take k).map Prod.fst = A at *
          generalize hB : (Q.take (k + 1)).map Prod.fst = B at *
          generalize Q[k] = q at *
          clear h3
          (repeat' (first | refine AW_seq ?_ | refine AW_block ?_ | refine AW_skip ?_ | refine AW_exit ?_ | refine AW_ret ?_ | refine AW_region ?_ | refine AW_draw mixed0 ?_ | refine AL_nil ?_ | refine AD_nil (by kernel_rfl) ?_ | (refine AW_cl rfl rfl ⟨fun hc => ?_, fun hc => ?_⟩ <;> (repeat rw [List.length_map] at hc) <;> (try exact absd hc)) | ((first | apply AL_t rfl | apply AL_0 rfl | apply AD_t rfl | apply AD_0 rfl); focus (first | exact z_auto | ((apply u_k 5; (focus rfl); exact u_load_rA ⟨rfl, rfl, rfl⟩ rfl inferInstance inferInstance rfl rfl rfl HQ rfl rfl rfl)) | (apply u_g; (focus rfl); apply op_gyes rfl rfl rfl rfl rfl; ((apply u_k 5; (focus rfl); exact u_load_rA ⟨rfl, rfl, rfl⟩ rfl inferInstance inferInstance rfl rfl rfl HQ rfl rfl rfl))) | fail)) | refine thenA_n ?_ | refine thenA_r ?_ | refine thenA_e ?_ | refine inB_n ?_ | refine inB_r ?_ | refine inB_hit ?_ | refine inB_miss rfl ?_ | ((first | refine AL_cl rfl rfl rfl ⟨fun hc => ?_, fun hc => ?_⟩ | refine AD_cl rfl rfl rfl ⟨fun hc => ?_, fun hc => ?_⟩) <;> (fail_if_success (have q : (true = true) := hc)) <;> (fail_if_success (have q : (false = false) := hc)) <;> (repeat rw [List.length_map] at hc) <;> (try exact absd hc)) | refine AW_cond_nil rfl rfl (fun hc => ?_) ?_))
          refine ⟨k + 1, by omega, by omega, Le_trans (Le_mv 700 701) (Le_trans (Le_mv 701 700) ?_)⟩
          show Le _ _ (mkSt _ [_, (700, itsW ((Q.take (k + 1)).map Prod.fst))])
          rw [hB]
          unfold itsW
          rw [ht]
          exact le_auto
        · obtain rfl : k = Q.length := by omega
          rw [List.take_length]
          clear h3
          (repeat' (first | refine AW_seq ?_ | refine AW_block ?_ | refine AW_skip ?_ | refine AW_exit ?_ | refine AW_ret ?_ | refine AW_region ?_ | refine AW_draw mixed0 ?_ | refine AL_nil ?_ | refine AD_nil (by kernel_rfl) ?_ | (refine AW_cl rfl rfl ⟨fun hc => ?_, fun hc => ?_⟩ <;> (repeat rw [List.length_map] at hc) <;> (try exact absd hc)) | ((first | apply AL_t rfl | apply AL_0 rfl | apply AD_t rfl | apply AD_0 rfl); focus (first | exact z_auto | fail)) | refine thenA_n ?_ | refine thenA_r ?_ | refine thenA_e ?_ | refine inB_n ?_ | refine inB_r ?_ | refine inB_hit ?_ | refine inB_miss rfl ?_ | ((first | refine AL_cl rfl rfl rfl ⟨fun hc => ?_, fun hc => ?_⟩ | refine AD_cl rfl rfl rfl ⟨fun hc => ?_, fun hc => ?_⟩) <;> (fail_if_success (have q : (true = true) := hc)) <;> (fail_if_success (have q : (false = false) := hc)) <;> (repeat rw [List.length_map] at hc) <;> (try exact absd hc)) | refine AW_cond_nil rfl rfl (fun hc => ?_) ?_))
          (refine ⟨(by first | exact .inl rfl | exact .inr rfl), res1 rfl ?_⟩)
          exact rv_ownM rfl rfl rfl rfl
/-- no Prio rises -/
def NoRise (l : List It) (i : Nat) : Prop := ∀ h : i + 1 < l.length, (l[i + 1]'h).prio ≤ (l[i]'(by omega)).prio
instance (l : List It) (i : Nat) : Decidable (NoRise l i) := by unfold NoRise; infer_instance
def fallsB (l : List It) : Bool := (List.range l.length).all fun i => decide (NoRise l i)
theorem fallsB_iff {l : List It} : fallsB l = true ↔ ∀ i, NoRise l i := by
  unfold fallsB
  rw [List.all_eq_true]
  constructor
  · intro h i hi
    exact of_decide_eq_true (h i (List.mem_range.2 (by omega))) hi
  · intro h i _; exact decide_eq_true (h i)
def cmpPr (x y : It) : Int := if x.prio > y.prio then -1 else if x.prio < y.prio then 1 else 0
abbrev falC : Cnt := .per (rawP (.func (.func 104) #[] #[]))
theorem falls_1 (x y : It) : FnM Try.prog 104 [itC x, itC y] [] (.per (rawP (.int .i64 (cmpPr x y)))) [] := by
  obtain ⟨xk, xr, xc, xa, xp, xd, xb⟩ := x
  obtain ⟨yk, yr, yc, ya, yp, yd, yb⟩ := y
  have hE : cmpPr ⟨xk, xr, xc, xa, xp, xd, xb⟩ ⟨yk, yr, yc, ya, yp, yd, yb⟩ = (if xp > yp then -1 else if xp < yp then 1 else 0) := rfl
  rw [hE]
  show FnM Try.prog _ [.per (aggP [rawP (.string xk), rawP (.int .i64 xr), rawP (.int .i64 xc), rawP (.int .i64 xa), rawP (.int .i64 xp), rawP (.bool xd), rawP (.string xb)]), .per (aggP [rawP (.string yk), rawP (.int .i64 yr), rawP (.int .i64 yc), rawP (.int .i64 ya), rawP (.int .i64 yp), rawP (.bool yd), rawP (.string yb)])] [] _ []
  refine fnm_intro Try.func104 rfl (by kernel_rfl) Try.ntmps104 (Nat.le_of_ble_eq_true rfl) ?_
  (repeat' (first | refine AW_seq ?_ | refine AW_block ?_ | refine AW_skip ?_ | refine AW_exit ?_ | refine AW_ret ?_ | refine AW_region ?_ | refine AW_draw mixed0 ?_ | refine AL_nil ?_ | refine AD_nil (by kernel_rfl) ?_ | (refine AW_cl rfl rfl ⟨fun hc => ?_, fun hc => ?_⟩ <;> (repeat rw [List.length_map] at hc) <;> (try exact absd hc)) | ((first | apply AL_t rfl | apply AL_0 rfl | apply AD_t rfl | apply AD_0 rfl); focus (first | exact z_auto | fail)) | refine thenA_n ?_ | refine thenA_r ?_ | refine thenA_e ?_ | refine inB_n ?_ | refine inB_r ?_ | refine inB_hit ?_ | refine inB_miss rfl ?_ | ((first | refine AL_cl rfl rfl rfl ⟨fun hc => ?_, fun hc => ?_⟩ | refine AD_cl rfl rfl rfl ⟨fun hc => ?_, fun hc => ?_⟩) <;> (fail_if_success (have q : (true = true) := hc)) <;> (fail_if_success (have q : (false = false) := hc)) <;> (repeat rw [List.length_map] at hc) <;> (try exact absd hc)) | refine AW_cond_nil rfl rfl (fun hc => ?_) ?_))
  · rw [if_pos (by assumption)]
    (refine ⟨(by first | exact .inl rfl | exact .inr rfl), resM1 [] rfl rfl .nil ?_⟩)
    exact rvm_int rfl rfl
  · rw [if_neg (by assumption), if_pos (by assumption)]
    (refine ⟨(by first | exact .inl rfl | exact .inr rfl), resM1 [] rfl rfl .nil ?_⟩)
    exact rvm_int rfl rfl
  · rw [if_neg (by assumption), if_neg (by assumption)]
    (refine ⟨(by first | exact .inl rfl | exact .inr rfl), resM1 [] rfl rfl .nil ?_⟩)
    exact rvm_int rfl rfl
theorem is_sorted (l : List It) (hl : l.length ≤ 1000000000) (b : Bool) (hb : b = true ↔ ∀ i, NoRise l i) : FnM Try.prog 103 [itsB l, falC] [] (.per (rawP (.bool b))) [] := by
  refine fnm_intro Try.func103 rfl (by kernel_rfl) Try.ntmps103 (Nat.le_of_ble_eq_true rfl) ?_
  (repeat' (first | refine AW_seq ?_ | refine AW_block ?_ | refine AW_skip ?_ | refine AW_exit ?_ | refine AW_ret ?_ | refine AW_region ?_ | refine AW_draw mixed0 ?_ | refine AL_nil ?_ | refine AD_nil (by kernel_rfl) ?_ | (refine AW_cl rfl rfl ⟨fun hc => ?_, fun hc => ?_⟩ <;> (repeat rw [List.length_map] at hc) <;> (try exact absd hc)) | ((first | apply AL_t rfl | apply AL_0 rfl | apply AD_t rfl | apply AD_0 rfl); focus (first | exact z_auto | fail)) | refine thenA_n ?_ | refine thenA_r ?_ | refine thenA_e ?_ | refine inB_n ?_ | refine inB_r ?_ | refine inB_hit ?_ | refine inB_miss rfl ?_ | ((first | refine AL_cl rfl rfl rfl ⟨fun hc => ?_, fun hc => ?_⟩ | refine AD_cl rfl rfl rfl ⟨fun hc => ?_, fun hc => ?_⟩) <;> (fail_if_success (have q : (true = true) := hc)) <;> (fail_if_success (have q : (false = false) := hc)) <;> (repeat rw [List.length_map] at hc) <;> (try exact absd hc)) | refine AW_cond_nil rfl rfl (fun hc => ?_) ?_))
  refine AW_loopP (X := Int) (fun z => -1 ≤ z ∧ z ≤ (l.length : Int) - 1 ∧ ∀ j : Nat, z ≤ (j : Int) → NoRise l j)
    (fun z => mkSt [(0, itsB l), (1, falC), (5, iC .i64 z)] []) (fun z => z.toNat) ((l.length : Int) - 1) ⟨by omega, by omega, fun j hj h => by omega⟩ ?_ ?_
  · exact le_auto
  · rintro z ⟨g1, g2, g3⟩
    by_cases hz : 0 < z
    · obtain ⟨i, rfl⟩ : ∃ i : Nat, z = ((i + 1 : Nat) : Int) := ⟨(z - 1).toNat, by omega⟩
      have hi : i + 1 < l.length := by omega
      have hm := falls_1 l[i + 1] l[i]
      have hcc : cmpPr l[i + 1] l[i] < 0 ↔ ¬ NoRise l i := by
        unfold cmpPr NoRise
        constructor
        · intro h q
          have := q hi
          split at h
          · omega
          · split at h <;> omega
        · intro h
          rw [if_pos]
          · decide
          · rcases Int.lt_or_le l[i].prio l[i + 1].prio with q | q
            · exact q
            · exact absurd (fun _ => q) h
      generalize cmpPr l[i + 1] l[i] = c at *
      (repeat' (first | refine AW_seq ?_ | refine AW_block ?_ | refine AW_skip ?_ | refine AW_exit ?_ | refine AW_ret ?_ | refine AW_region ?_ | refine AW_draw mixed0 ?_ | refine AL_nil ?_ | refine AD_nil (by kernel_rfl) ?_ | (refine AW_cl rfl rfl ⟨fun hc => ?_, fun hc => ?_⟩ <;> (repeat rw [List.length_map] at hc) <;> (try exact absd hc)) | ((first | apply AL_t rfl | apply AL_0 rfl | apply AD_t rfl | apply AD_0 rfl); focus (first | exact z_auto | (exact c_V [] hm) | (apply u_g; (focus rfl); apply op_gyes rfl rfl rfl rfl rfl; (exact c_V [] hm)) | ((apply u_g; (focus rfl); apply op_gyes rfl rfl rfl rfl rfl; exact c_V [] hm)) | (apply u_g; (focus rfl); apply op_gyes rfl rfl rfl rfl rfl; ((apply u_g; (focus rfl); apply op_gyes rfl rfl rfl rfl rfl; exact c_V [] hm))) | fail)) | refine thenA_n ?_ | refine thenA_r ?_ | refine thenA_e ?_ | refine inB_n ?_ | refine inB_r ?_ | refine inB_hit ?_ | refine inB_miss rfl ?_ | ((first | refine AL_cl rfl rfl rfl ⟨fun hc => ?_, fun hc => ?_⟩ | refine AD_cl rfl rfl rfl ⟨fun hc => ?_, fun hc => ?_⟩) <;> (fail_if_success (have q : (true = true) := hc)) <;> (fail_if_success (have q : (false = false) := hc)) <;> (repeat rw [List.length_map] at hc) <;> (try exact absd hc)) | refine AW_cond_nil rfl rfl (fun hc => ?_) ?_))
      · have hbf : b = false := by
          cases b with
          | false => rfl
          | true => exact absurd (hb.1 rfl i) (hcc.1 (by assumption))
        rw [hbf]
        (refine ⟨(by first | exact .inl rfl | exact .inr rfl), resM1 [] rfl rfl .nil ?_⟩)
        exact rvm_bool rfl rfl
      · refine ⟨(i : Int), ⟨by omega, by omega, fun j hj => ?_⟩, by omega, ?_⟩
        · rcases Nat.lt_or_ge i j with q | q
          · exact g3 j (by omega)
          · obtain rfl : j = i := by omega
            exact Decidable.of_not_not fun q => (by assumption : ¬ c < 0) (hcc.2 q)
        · exact le_auto
    · have hbt : b = true := hb.2 fun j => g3 j (by omega)
      rw [hbt]
      (repeat' (first | refine AW_seq ?_ | refine AW_block ?_ | refine AW_skip ?_ | refine AW_exit ?_ | refine AW_ret ?_ | refine AW_region ?_ | refine AW_draw mixed0 ?_ | refine AL_nil ?_ | refine AD_nil (by kernel_rfl) ?_ | (refine AW_cl rfl rfl ⟨fun hc => ?_, fun hc => ?_⟩ <;> (repeat rw [List.length_map] at hc) <;> (try exact absd hc)) | ((first | apply AL_t rfl | apply AL_0 rfl | apply AD_t rfl | apply AD_0 rfl); focus (first | exact z_auto | fail)) | refine thenA_n ?_ | refine thenA_r ?_ | refine thenA_e ?_ | refine inB_n ?_ | refine inB_r ?_ | refine inB_hit ?_ | refine inB_miss rfl ?_ | ((first | refine AL_cl rfl rfl rfl ⟨fun hc => ?_, fun hc => ?_⟩ | refine AD_cl rfl rfl rfl ⟨fun hc => ?_, fun hc => ?_⟩) <;> (fail_if_success (have q : (true = true) := hc)) <;> (fail_if_success (have q : (false = false) := hc)) <;> (repeat rw [List.length_map] at hc) <;> (try exact absd hc)) | refine AW_cond_nil rfl rfl (fun hc => ?_) ?_))
      (refine ⟨(by first | exact .inl rfl | exact .inr rfl), resM1 [] rfl rfl .nil ?_⟩)
      exact rvm_bool rfl rfl
theorem od_Falls (l : List It) (hl : l.length ≤ 1000000000) : Fn Try.prog 56 [itsB l] (boR (fallsB l)) := by
  have h := is_sorted l hl (fallsB l) fallsB_iff
  refine fn_intro Try.func56 rfl (by kernel_rfl) Try.ntmps56 (Nat.le_of_ble_eq_true rfl) ?_
  (repeat' (first | refine AW_seq ?_ | refine AW_block ?_ | refine AW_skip ?_ | refine AW_exit ?_ | refine AW_ret ?_ | refine AW_region ?_ | refine AW_draw mixed0 ?_ | refine AL_nil ?_ | refine AD_nil (by kernel_rfl) ?_ | (refine AW_cl rfl rfl ⟨fun hc => ?_, fun hc => ?_⟩ <;> (repeat rw [List.length_map] at hc) <;> (try exact absd hc)) | ((first | apply AL_t rfl | apply AL_0 rfl | apply AD_t rfl | apply AD_0 rfl); focus (first | exact z_auto | exact c_MA [] (h) | fail)) | refine thenA_n ?_ | refine thenA_r ?_ | refine thenA_e ?_ | refine inB_n ?_ | refine inB_r ?_ | refine inB_hit ?_ | refine inB_miss rfl ?_ | ((first | refine AL_cl rfl rfl rfl ⟨fun hc => ?_, fun hc => ?_⟩ | refine AD_cl rfl rfl rfl ⟨fun hc => ?_, fun hc => ?_⟩) <;> (fail_if_success (have q : (true = true) := hc)) <;> (fail_if_success (have q : (false = false) := hc)) <;> (repeat rw [List.length_map] at hc) <;> (try exact absd hc)) | refine AW_cond_nil rfl rfl (fun hc => ?_) ?_))
  (refine ⟨(by first | exact .inl rfl | exact .inr rfl), res1 rfl ?_⟩)
  exact rv_bool rfl rfl
theorem rod_Falls (l : List It) (hl : l.length ≤ 1000000000) : Fn Try.prog 57 [itsB l] (boR (fallsB l)) := by
  have hb := @fallsB_iff l
  generalize fallsB l = b at *
  refine fn_intro Try.func57 rfl (by kernel_rfl) Try.ntmps57 (Nat.le_of_ble_eq_true rfl) ?_
  (repeat' (first | refine AW_seq ?_ | refine AW_block ?_ | refine AW_skip ?_ | refine AW_exit ?_ | refine AW_ret ?_ | refine AW_region ?_ | refine AW_draw mixed0 ?_ | refine AL_nil ?_ | refine AD_nil (by kernel_rfl) ?_ | (refine AW_cl rfl rfl ⟨fun hc => ?_, fun hc => ?_⟩ <;> (repeat rw [List.length_map] at hc) <;> (try exact absd hc)) | ((first | apply AL_t rfl | apply AL_0 rfl | apply AD_t rfl | apply AD_0 rfl); focus (first | exact z_auto | fail)) | refine thenA_n ?_ | refine thenA_r ?_ | refine thenA_e ?_ | refine inB_n ?_ | refine inB_r ?_ | refine inB_hit ?_ | refine inB_miss rfl ?_ | ((first | refine AL_cl rfl rfl rfl ⟨fun hc => ?_, fun hc => ?_⟩ | refine AD_cl rfl rfl rfl ⟨fun hc => ?_, fun hc => ?_⟩) <;> (fail_if_success (have q : (true = true) := hc)) <;> (fail_if_success (have q : (false = false) := hc)) <;> (repeat rw [List.length_map] at hc) <;> (try exact absd hc)) | refine AW_cond_nil rfl rfl (fun hc => ?_) ?_))
  refine AW_loopP (X := Nat) (fun i => ∀ j, j < i → NoRise l j)
    (fun i => mkSt [(0, itsB l), (3, iC .i64 ((i + 1 : Nat) : Int))] []) (fun i => l.length - i) 0 (fun j h => absurd h (Nat.not_lt_zero _)) ?_ ?_
  · exact le_auto
  · rintro i g3
    by_cases hi : i + 1 < l.length
    · have hcc : l[i + 1].prio > l[i].prio ↔ ¬ NoRise l i := by
        unfold NoRise
        constructor
        · intro h q; have := q hi; omega
        · intro h
          rcases Int.lt_or_le l[i].prio l[i + 1].prio with q | q
          · exact q
          · exact absurd (fun _ => q) h
      (repeat' (first | refine AW_seq ?_ | refine AW_block ?_ | refine AW_skip ?_ | refine AW_exit ?_ | refine AW_ret ?_ | refine AW_region ?_ | refine AW_draw mixed0 ?_ | refine AL_nil ?_ | refine AD_nil (by kernel_rfl) ?_ | (refine AW_cl rfl rfl ⟨fun hc => ?_, fun hc => ?_⟩ <;> (repeat rw [List.length_map] at hc) <;> (try exact absd hc)) | ((first | apply AL_t rfl | apply AL_0 rfl | apply AD_t rfl | apply AD_0 rfl); focus (first | exact z_auto | fail)) | refine thenA_n ?_ | refine thenA_r ?_ | refine thenA_e ?_ | refine inB_n ?_ | refine inB_r ?_ | refine inB_hit ?_ | refine inB_miss rfl ?_ | ((first | refine AL_cl rfl rfl rfl ⟨fun hc => ?_, fun hc => ?_⟩ | refine AD_cl rfl rfl rfl ⟨fun hc => ?_, fun hc => ?_⟩) <;> (fail_if_success (have q : (true = true) := hc)) <;> (fail_if_success (have q : (false = false) := hc)) <;> (repeat rw [List.length_map] at hc) <;> (try exact absd hc)) | refine AW_cond_nil rfl rfl (fun hc => ?_) ?_))
      · have hbf : b = false := by
          cases b with
          | false => rfl
          | true => exact absurd (hb.1 rfl i) (hcc.1 (by assumption))
        rw [hbf]
        (refine ⟨(by first | exact .inl rfl | exact .inr rfl), res1 rfl ?_⟩)
        exact rv_bool rfl rfl
      · refine ⟨i + 1, fun j hj => ?_, by omega, ?_⟩
        · rcases Nat.lt_or_ge j i with q | q
          · exact g3 j q
          · obtain rfl : j = i := by omega
            exact Decidable.of_not_not fun q => (by assumption : ¬ l[j + 1].prio > l[j].prio) (hcc.2 q)
        · exact le_auto
    · have hbt : b = true := hb.2 fun j h => by
        rcases Nat.lt_or_ge j i with q | q
        · exact g3 j q h
        · omega
      rw [hbt]
      (repeat' (first | refine AW_seq ?_ | refine AW_block ?_ | refine AW_skip ?_ | refine AW_exit ?_ | refine AW_ret ?_ | refine AW_region ?_ | refine AW_draw mixed0 ?_ | refine AL_nil ?_ | refine AD_nil (by kernel_rfl) ?_ | (refine AW_cl rfl rfl ⟨fun hc => ?_, fun hc => ?_⟩ <;> (repeat rw [List.length_map] at hc) <;> (try exact absd hc)) | ((first | apply AL_t rfl | apply AL_0 rfl | apply AD_t rfl | apply AD_0 rfl); focus (first | exact z_auto | fail)) | refine thenA_n ?_ | refine thenA_r ?_ | refine thenA_e ?_ | refine inB_n ?_ | refine inB_r ?_ | refine inB_hit ?_ | refine inB_miss rfl ?_ | ((first | refine AL_cl rfl rfl rfl ⟨fun hc => ?_, fun hc => ?_⟩ | refine AD_cl rfl rfl rfl ⟨fun hc => ?_, fun hc => ?_⟩) <;> (fail_if_success (have q : (true = true) := hc)) <;> (fail_if_success (have q : (false = false) := hc)) <;> (repeat rw [List.length_map] at hc) <;> (try exact absd hc)) | refine AW_cond_nil rfl rfl (fun hc => ?_) ?_))
      (refine ⟨(by first | exact .inl rfl | exact .inr rfl), res1 rfl ?_⟩)
      exact rv_bool rfl rfl
theorem rod_Often (l : List It) (hl : l.length ≤ 1000000000) (x : It) : Fn Try.prog 58 [itsB l, itC x] (inR (((l.filter fun y => itE y x).length : Nat) : Int)) := by
  have hle := List.length_filter_le (fun y => itE y x) l
  generalize hN : (l.filter fun y => itE y x).length = N at *
  refine fn_intro Try.func58 rfl (by kernel_rfl) Try.ntmps58 (Nat.le_of_ble_eq_true rfl) ?_
  (repeat' (first | refine AW_seq ?_ | refine AW_block ?_ | refine AW_skip ?_ | refine AW_exit ?_ | refine AW_ret ?_ | refine AW_region ?_ | refine AW_draw mixed0 ?_ | refine AL_nil ?_ | refine AD_nil (by kernel_rfl) ?_ | (refine AW_cl rfl rfl ⟨fun hc => ?_, fun hc => ?_⟩ <;> (repeat rw [List.length_map] at hc) <;> (try exact absd hc)) | ((first | apply AL_t rfl | apply AL_0 rfl | apply AD_t rfl | apply AD_0 rfl); focus (first | exact z_auto | fail)) | refine thenA_n ?_ | refine thenA_r ?_ | refine thenA_e ?_ | refine inB_n ?_ | refine inB_r ?_ | refine inB_hit ?_ | refine inB_miss rfl ?_ | ((first | refine AL_cl rfl rfl rfl ⟨fun hc => ?_, fun hc => ?_⟩ | refine AD_cl rfl rfl rfl ⟨fun hc => ?_, fun hc => ?_⟩) <;> (fail_if_success (have q : (true = true) := hc)) <;> (fail_if_success (have q : (false = false) := hc)) <;> (repeat rw [List.length_map] at hc) <;> (try exact absd hc)) | refine AW_cond_nil rfl rfl (fun hc => ?_) ?_))
  refine AW_loopP (X := Nat × Nat) (fun t => t.1 ≤ l.length ∧ t.2 + ((l.drop t.1).filter fun y => itE y x).length = N)
    (fun t => mkSt [(0, itsB l), (3, .ptr 3 0 0), (5, iC .i64 (t.2 : Nat)), (6, iC .i64 (t.1 : Nat))] [(3, .box 62 ((itP x).map .per))]) (fun t => l.length - t.1) (0, 0) ⟨Nat.zero_le _, by simpa using hN⟩ ?_ ?_
  · exact le_auto
  · rintro ⟨i, c⟩ ⟨g1, g2⟩
    simp only at g1 g2 ⊢
    by_cases hi : i < l.length
    · rw [List.drop_eq_getElem_cons hi, List.filter_cons] at g2
      have hE := itE_o l[i] x
      generalize itE l[i] x = b at *
      cases b with
      | true =>
        simp only [if_true, List.length_cons] at g2
        (repeat' (first | refine AW_seq ?_ | refine AW_block ?_ | refine AW_skip ?_ | refine AW_exit ?_ | refine AW_ret ?_ | refine AW_region ?_ | refine AW_draw mixed0 ?_ | refine AL_nil ?_ | refine AD_nil (by kernel_rfl) ?_ | (refine AW_cl rfl rfl ⟨fun hc => ?_, fun hc => ?_⟩ <;> (repeat rw [List.length_map] at hc) <;> (try exact absd hc)) | ((first | apply AL_t rfl | apply AL_0 rfl | apply AD_t rfl | apply AD_0 rfl); focus (first | exact z_auto | (exact op_eqA (us := encIt l[i]) (vs := encIt x) ⟨rfl, rfl, rfl⟩ rfl rfl rfl (by first | exact .inl ⟨rfl, rfl⟩ | exact .inr ⟨rfl, rfl⟩) itG rfl hE) | (apply u_g; (focus rfl); apply op_gyes rfl rfl rfl rfl rfl; (exact op_eqA (us := encIt l[i]) (vs := encIt x) ⟨rfl, rfl, rfl⟩ rfl rfl rfl (by first | exact .inl ⟨rfl, rfl⟩ | exact .inr ⟨rfl, rfl⟩) itG rfl hE)) | fail)) | refine thenA_n ?_ | refine thenA_r ?_ | refine thenA_e ?_ | refine inB_n ?_ | refine inB_r ?_ | refine inB_hit ?_ | refine inB_miss rfl ?_ | ((first | refine AL_cl rfl rfl rfl ⟨fun hc => ?_, fun hc => ?_⟩ | refine AD_cl rfl rfl rfl ⟨fun hc => ?_, fun hc => ?_⟩) <;> (fail_if_success (have q : (true = true) := hc)) <;> (fail_if_success (have q : (false = false) := hc)) <;> (repeat rw [List.length_map] at hc) <;> (try exact absd hc)) | refine AW_cond_nil rfl rfl (fun hc => ?_) ?_))
        refine ⟨(i + 1, c + 1), ⟨by simp only; omega, by simp only; omega⟩, by simp only; omega, ?_⟩
        exact le_auto
      | false =>
        simp only [Bool.false_eq_true, if_false] at g2
        (repeat' (first | refine AW_seq ?_ | refine AW_block ?_ | refine AW_skip ?_ | refine AW_exit ?_ | refine AW_ret ?_ | refine AW_region ?_ | refine AW_draw mixed0 ?_ | refine AL_nil ?_ | refine AD_nil (by kernel_rfl) ?_ | (refine AW_cl rfl rfl ⟨fun hc => ?_, fun hc => ?_⟩ <;> (repeat rw [List.length_map] at hc) <;> (try exact absd hc)) | ((first | apply AL_t rfl | apply AL_0 rfl | apply AD_t rfl | apply AD_0 rfl); focus (first | exact z_auto | (exact op_eqA (us := encIt l[i]) (vs := encIt x) ⟨rfl, rfl, rfl⟩ rfl rfl rfl (by first | exact .inl ⟨rfl, rfl⟩ | exact .inr ⟨rfl, rfl⟩) itG rfl hE) | (apply u_g; (focus rfl); apply op_gyes rfl rfl rfl rfl rfl; (exact op_eqA (us := encIt l[i]) (vs := encIt x) ⟨rfl, rfl, rfl⟩ rfl rfl rfl (by first | exact .inl ⟨rfl, rfl⟩ | exact .inr ⟨rfl, rfl⟩) itG rfl hE)) | fail)) | refine thenA_n ?_ | refine thenA_r ?_ | refine thenA_e ?_ | refine inB_n ?_ | refine inB_r ?_ | refine inB_hit ?_ | refine inB_miss rfl ?_ | ((first | refine AL_cl rfl rfl rfl ⟨fun hc => ?_, fun hc => ?_⟩ | refine AD_cl rfl rfl rfl ⟨fun hc => ?_, fun hc => ?_⟩) <;> (fail_if_success (have q : (true = true) := hc)) <;> (fail_if_success (have q : (false = false) := hc)) <;> (repeat rw [List.length_map] at hc) <;> (try exact absd hc)) | refine AW_cond_nil rfl rfl (fun hc => ?_) ?_))
        refine ⟨(i + 1, c), ⟨by simp only; omega, by simp only; omega⟩, by simp only; omega, ?_⟩
        exact le_auto
    · obtain rfl : i = l.length := by omega
      rw [List.drop_length] at g2
      have g2 : c = N := by simpa using g2
      subst g2
      (repeat' (first | refine AW_seq ?_ | refine AW_block ?_ | refine AW_skip ?_ | refine AW_exit ?_ | refine AW_ret ?_ | refine AW_region ?_ | refine AW_draw mixed0 ?_ | refine AL_nil ?_ | refine AD_nil (by kernel_rfl) ?_ | (refine AW_cl rfl rfl ⟨fun hc => ?_, fun hc => ?_⟩ <;> (repeat rw [List.length_map] at hc) <;> (try exact absd hc)) | ((first | apply AL_t rfl | apply AL_0 rfl | apply AD_t rfl | apply AD_0 rfl); focus (first | exact z_auto | fail)) | refine thenA_n ?_ | refine thenA_r ?_ | refine thenA_e ?_ | refine inB_n ?_ | refine inB_r ?_ | refine inB_hit ?_ | refine inB_miss rfl ?_ | ((first | refine AL_cl rfl rfl rfl ⟨fun hc => ?_, fun hc => ?_⟩ | refine AD_cl rfl rfl rfl ⟨fun hc => ?_, fun hc => ?_⟩) <;> (fail_if_success (have q : (true = true) := hc)) <;> (fail_if_success (have q : (false = false) := hc)) <;> (repeat rw [List.length_map] at hc) <;> (try exact absd hc)) | refine AW_cond_nil rfl rfl (fun hc => ?_) ?_))
      (refine ⟨(by first | exact .inl rfl | exact .inr rfl), res1 rfl ?_⟩)
      exact rv_int rfl rfl
theorem rod_Class (R : List Rg) (hR : R.length ≤ 1000000000) (bs : List Bool) (pr sd : Int) (hs : Int → Int → Bool) (x : It) (hk : x.key.size ≤ 1000000000)
    (hH : 0 < bs.length → Fn Try.prog 16 [.per (rblP bs pr sd), vrC x.rep x.cnt] (boR (hs x.rep x.cnt))) (h0 : bs.length = 0 → hs x.rep x.cnt = false) :
    Fn Try.prog 54 [rgsB R, .per (rblP bs pr sd), itC x] (inR (clsOf R hs x)) := by
  have h1 := rrgs_Has R x.key hR hk
  unfold clsOf
  generalize anyR R x.key = a at *
  generalize hs x.rep x.cnt = c at *
  by_cases hb : 0 < bs.length
  · replace hH := hH hb
    clear h0
    cases a <;> cases c
    all_goals
      refine fn_intro Try.func54 rfl (by kernel_rfl) Try.ntmps54 (Nat.le_of_ble_eq_true rfl) ?_
      (repeat' (first | refine AW_seq ?_ | refine AW_block ?_ | refine AW_skip ?_ | refine AW_exit ?_ | refine AW_ret ?_ | refine AW_region ?_ | refine AW_draw mixed0 ?_ | refine AL_nil ?_ | refine AD_nil (by kernel_rfl) ?_ | (refine AW_cl rfl rfl ⟨fun hc => ?_, fun hc => ?_⟩ <;> (repeat rw [List.length_map] at hc) <;> (try exact absd hc)) | ((first | apply AL_t rfl | apply AL_0 rfl | apply AD_t rfl | apply AD_0 rfl); focus (first | exact z_auto | exact c_A (h1) | exact c_A (hH) | fail)) | refine thenA_n ?_ | refine thenA_r ?_ | refine thenA_e ?_ | refine inB_n ?_ | refine inB_r ?_ | refine inB_hit ?_ | refine inB_miss rfl ?_ | ((first | refine AL_cl rfl rfl rfl ⟨fun hc => ?_, fun hc => ?_⟩ | refine AD_cl rfl rfl rfl ⟨fun hc => ?_, fun hc => ?_⟩) <;> (fail_if_success (have q : (true = true) := hc)) <;> (fail_if_success (have q : (false = false) := hc)) <;> (repeat rw [List.length_map] at hc) <;> (try exact absd hc)) | refine AW_cond_nil rfl rfl (fun hc => ?_) ?_))
      (refine ⟨(by first | exact .inl rfl | exact .inr rfl), res1 rfl ?_⟩)
      exact rv_int rfl (by simp)
  · rw [h0 (by omega)]
    clear hH
    cases a
    all_goals
      refine fn_intro Try.func54 rfl (by kernel_rfl) Try.ntmps54 (Nat.le_of_ble_eq_true rfl) ?_
      (repeat' (first | refine AW_seq ?_ | refine AW_block ?_ | refine AW_skip ?_ | refine AW_exit ?_ | refine AW_ret ?_ | refine AW_region ?_ | refine AW_draw mixed0 ?_ | refine AL_nil ?_ | refine AD_nil (by kernel_rfl) ?_ | (refine AW_cl rfl rfl ⟨fun hc => ?_, fun hc => ?_⟩ <;> (repeat rw [List.length_map] at hc) <;> (try exact absd hc)) | ((first | apply AL_t rfl | apply AL_0 rfl | apply AD_t rfl | apply AD_0 rfl); focus (first | exact z_auto | exact c_A (h1) | fail)) | refine thenA_n ?_ | refine thenA_r ?_ | refine thenA_e ?_ | refine inB_n ?_ | refine inB_r ?_ | refine inB_hit ?_ | refine inB_miss rfl ?_ | ((first | refine AL_cl rfl rfl rfl ⟨fun hc => ?_, fun hc => ?_⟩ | refine AD_cl rfl rfl rfl ⟨fun hc => ?_, fun hc => ?_⟩) <;> (fail_if_success (have q : (true = true) := hc)) <;> (fail_if_success (have q : (false = false) := hc)) <;> (repeat rw [List.length_map] at hc) <;> (try exact absd hc)) | refine AW_cond_nil rfl rfl (fun hc => ?_) ?_))
      (refine ⟨(by first | exact .inl rfl | exact .inr rfl), res1 rfl ?_⟩)
      exact rv_int rfl (by simp)
theorem rod_Ahead (R : List Rg) (bs : List Bool) (pr sd : Int) (hs : Int → Int → Bool) (x y : It) (hk : x.key.size ≤ 1000000000)
    (h1 : Fn Try.prog 54 [rgsB R, .per (rblP bs pr sd), itC x] (inR (clsOf R hs x))) (h2 : Fn Try.prog 54 [rgsB R, .per (rblP bs pr sd), itC y] (inR (clsOf R hs y))) :
    Fn Try.prog 102 [rgsB R, .per (rblP bs pr sd), itC x, itC y] (boR (ltSn (snt R hs x) (snt R hs y))) := by
  have h3 := ref_Less x.key y.key (by omega)
  have hE : ltSn (snt R hs x) (snt R hs y) = (if x.prio ≠ y.prio then decide (x.prio > y.prio) else if clsOf R hs x ≠ clsOf R hs y then decide (clsOf R hs x < clsOf R hs y) else decide (cmpB x.key y.key < 0)) := by
    unfold ltSn cmpSn snt
    simp only
    by_cases a : x.prio > y.prio
    · rw [if_pos a, if_pos (by omega), decide_eq_true (by decide), decide_eq_true a]
    · rw [if_neg a]
      by_cases b : x.prio < y.prio
      · rw [if_pos b, if_pos (by omega), decide_eq_false (by decide), decide_eq_false a]
      · rw [if_neg b, if_neg (by omega : ¬ x.prio ≠ y.prio)]
        by_cases c : clsOf R hs x ≠ clsOf R hs y
        · rw [if_pos c, if_pos c, decide_eq_decide]; omega
        · rw [if_neg c, if_neg c]
  rw [hE]
  generalize clsOf R hs x = cx at *
  generalize clsOf R hs y = cy at *
  generalize decide (cmpB x.key y.key < 0) = d at *
  refine fn_intro Try.func102 rfl (by kernel_rfl) Try.ntmps102 (Nat.le_of_ble_eq_true rfl) ?_
  (repeat' (first | refine AW_seq ?_ | refine AW_block ?_ | refine AW_skip ?_ | refine AW_exit ?_ | refine AW_ret ?_ | refine AW_region ?_ | refine AW_draw mixed0 ?_ | refine AL_nil ?_ | refine AD_nil (by kernel_rfl) ?_ | (refine AW_cl rfl rfl ⟨fun hc => ?_, fun hc => ?_⟩ <;> (repeat rw [List.length_map] at hc) <;> (try exact absd hc)) | ((first | apply AL_t rfl | apply AL_0 rfl | apply AD_t rfl | apply AD_0 rfl); focus (first | exact z_auto | exact c_A (h1) | exact c_A (h2) | exact c_A (h3) | fail)) | refine thenA_n ?_ | refine thenA_r ?_ | refine thenA_e ?_ | refine inB_n ?_ | refine inB_r ?_ | refine inB_hit ?_ | refine inB_miss rfl ?_ | ((first | refine AL_cl rfl rfl rfl ⟨fun hc => ?_, fun hc => ?_⟩ | refine AD_cl rfl rfl rfl ⟨fun hc => ?_, fun hc => ?_⟩) <;> (fail_if_success (have q : (true = true) := hc)) <;> (fail_if_success (have q : (false = false) := hc)) <;> (repeat rw [List.length_map] at hc) <;> (try exact absd hc)) | refine AW_cond_nil rfl rfl (fun hc => ?_) ?_))
  · rw [if_pos (by assumption)]
    (refine ⟨(by first | exact .inl rfl | exact .inr rfl), res1 rfl ?_⟩)
    exact rv_bool rfl rfl
  · rw [if_neg (by omega), if_pos (by assumption)]
    (refine ⟨(by first | exact .inl rfl | exact .inr rfl), res1 rfl ?_⟩)
    exact rv_bool rfl rfl
  · rw [if_neg (by omega), if_neg (by omega)]
    (refine ⟨(by first | exact .inl rfl | exact .inr rfl), res1 rfl ?_⟩)
    exact rv_bool rfl rfl
end
end Go.Proofs.Ytbpmafpmlapekaa
namespace Go.Proofs.Ytbpmafpmlapekaa
open Go.RowKit
theorem insS_map {α β : Type} {lt : β → β → Bool} {f : α → β} (x : α) : ∀ (l r : List α), insS lt (f x) (l.map f) (r.map f) = (insS (fun x y => lt (f x) (f y)) x l r).map f
  | [], r => by simp [insS]
  | y :: l, r => by
    have ih := insS_map (lt := lt) (f := f) x l (y :: r)
    rw [List.map_cons] at ih
    rw [List.map_cons, insS, insS]
    split
    · exact ih
    · simp
theorem srtS_map {α β : Type} {lt : β → β → Bool} {f : α → β} (l : List α) : srtS lt (l.map f) = (srtS (fun x y => lt (f x) (f y)) l).map f := by
  unfold srtS
  have : ∀ (l p : List α), List.foldl (insT lt) (p.map f) (l.map f) = (List.foldl (insT fun x y => lt (f x) (f y)) p l).map f := by
    intro l
    induction l with
    | nil => intro p; rfl
    | cons x l ih =>
      intro p
      rw [List.map_cons, List.foldl_cons, List.foldl_cons, ← ih]
      congr 1
      unfold insT
      rw [← List.map_reverse]
      exact insS_map x _ []
  exact this l []
abbrev ltI (R : List Rg) (hs : Int → Int → Bool) (x y : It) : Bool := ltSn (snt R hs x) (snt R hs y)
theorem sortL_eq (R : List Rg) (hs : Int → Int → Bool) (l : List It) : sortL R hs l = srtS (ltI R hs) l := by
  unfold sortL
  rw [srtS_map, List.map_map]
  exact List.map_id _
theorem ltI_wo (R : List Rg) (hs : Int → Int → Bool) : SWo (ltI R hs) := ⟨fun _ => ltSn_wo.irr _, fun _ _ _ => ltSn_wo.tr _ _ _, fun _ _ _ => ltSn_wo.ntr _ _ _⟩
theorem sortL_len (R : List Rg) (hs : Int → Int → Bool) (l : List It) : (sortL R hs l).length = l.length := by rw [sortL_eq, srtS_len]
theorem sortL_again (R : List Rg) (hs : Int → Int → Bool) (l : List It) : sortL R hs (sortL R hs l) = sortL R hs l := by
  rw [sortL_eq, sortL_eq]
  exact srtS_id (ltI_wo R hs) (srtS_spec (ltI_wo R hs) l).1
theorem sortL_often (R : List Rg) (hs : Int → Int → Bool) (l : List It) (x : It) : ((sortL R hs l).filter fun y => itE y x).length = (l.filter fun y => itE y x).length := by
  have ha := (srtS_spec (ltI_wo R hs) l).2 x
  rw [← sortL_eq] at ha
  have key : ∀ m : List It, (m.filter fun y => itE y x) = (m.filter (eqv (ltI R hs) x)).filter fun y => itE y x := fun m => by
    rw [List.filter_filter]
    apply List.filter_congr
    intro y _
    by_cases h : itE y x = true
    · have := (itE_iff y x).1 h
      subst this
      rw [eqv_self (ltI_wo R hs), Bool.and_true]
    · rw [Bool.not_eq_true] at h; rw [h]; rfl
  rw [key, key l, ha]
theorem sortL_srt (R : List Rg) (hs : Int → Int → Bool) (l : List It) {i : Nat} (hi : i + 1 < (sortL R hs l).length) : ltI R hs ((sortL R hs l)[i + 1]) ((sortL R hs l)[i]) = false := by
  have h := (srtS_spec (ltI_wo R hs) l).1
  rw [← sortL_eq] at h
  exact List.pairwise_iff_getElem.1 h i (i + 1) (by omega) hi (by omega)
theorem sortL_falls (R : List Rg) (hs : Int → Int → Bool) (l : List It) : fallsB (sortL R hs l) = true := by
  rw [fallsB_iff]
  intro i hi
  have h := sortL_srt R hs l hi
  rw [← Bool.not_eq_true, ltSn_iff] at h
  simp only [snt] at h
  rcases Int.lt_or_le ((sortL R hs l)[i]).prio ((sortL R hs l)[i + 1]).prio with q | q
  · exact absurd (.inl q) h
  · exact q
theorem sortL_mem {R : List Rg} {hs : Int → Int → Bool} {l : List It} {x : It} (h : x ∈ sortL R hs l) : x ∈ l := by
  rw [sortL_eq] at h
  exact (srtS_mem (ltI_wo R hs)).1 h
theorem bytesLess_cmp : ∀ (a b : List UInt8), Op.bytesLess a b = decide (cmpL a b < 0)
  | a, [] => by cases a <;> simp [Op.bytesLess, cmpL]
  | [], _ :: _ => by simp [Op.bytesLess, cmpL]
  | x :: a, y :: b => by
    rw [Op.bytesLess, cmpL, bytesLess_cmp a b]
    have h1 : (x < y) ↔ x.toNat < y.toNat := UInt8.lt_iff_toNat_lt
    by_cases q : x.toNat < y.toNat
    · rw [if_pos q, decide_eq_true (h1.2 q)]; simp
    · rw [if_neg q, decide_eq_false (fun g => q (h1.1 g)), Bool.false_or]
      by_cases q2 : y.toNat < x.toNat
      · rw [if_pos q2]
        have : (x == y) = false := by
          rw [beq_eq_false_iff_ne]; rintro rfl; omega
        rw [this]; simp
      · rw [if_neg q2]
        have : x = y := UInt8.toNat_inj.1 (by omega)
        subst this
        simp
section
variable {P : Program} {n t : Nat} {ops : Array Oper} {o : Oper} {S : St}
/-- 's > u' of texts -/
theorem op_sgt {ty ty' : TypeId} {x y : Operand} {s u : ByteArray} (hp : Pl n o t) (ho : o.op = .binOp .gtr ty x y ty') (hx : S.opd x = sC s) (hy : S.opd y = sC u) : OpOk n P ops o (opdN x ++ opdN y) (bC (decide (cmpB u s < 0))) [] S :=
  op_val hp fun C T g a w hA hR => by
    have h1 := raw_opd (x := x) hA (fun k h => by simp [h]) hR hx
    have h2 := raw_opd (x := y) hA (fun k h => by simp [h]) hR hy
    refine ⟨.bool (decide (cmpB u s < 0)), exec_bin ho h1 h2 ?_, rfl⟩
    rw [show eqGuard .gtr ty x y (.string s) (.string u) = pure () from rfl]
    have key : (!(Op.bytesLess s.toList u.toList || s.toList == u.toList)) = decide (cmpB u s < 0) := by
      rw [ByteArray.toList_eq, ByteArray.toList_eq, bytesLess_cmp]
      have e1 : cmpL s.data.toList u.data.toList = cmpB s u := rfl
      rw [e1]
      have h3 := (oL_anti s.data.toList u.data.toList).1
      have h4 := (oL_anti s.data.toList u.data.toList).2
      have e2 : cmpL u.data.toList s.data.toList = cmpB u s := rfl
      rw [e1, e2] at h3
      rw [e1] at h4
      by_cases q : cmpB s u = 0
      · rw [h4 q]
        have : cmpB u s = 0 := by omega
        rw [this]; simp
      · have hne : (s.data.toList == u.data.toList) = false := by
          rw [beq_eq_false_iff_ne]
          intro h
          apply q
          show cmpL s.data.toList u.data.toList = 0
          rw [h]; exact (cmpL_lt _ [] []).1
        rw [hne, Bool.or_false, ← decide_not, decide_eq_decide]
        omega
    simp only [binOp, Op.stringOp, key]
    rfl
end
section
set_option maxRecDepth 10000
set_option maxHeartbeats 4000000
theorem rod_Sort (R : List Rg) (bs : List Bool) (pr sd : Int) (hs : Int → Int → Bool) (l : List It) (hl : l.length ≤ 1000000)
    (hAh : ∀ x ∈ l, ∀ y ∈ l, Fn Try.prog 102 [rgsB R, .per (rblP bs pr sd), itC x, itC y] (boR (ltSn (snt R hs x) (snt R hs y)))) :
    Fn Try.prog 55 [rgsB R, .per (rblP bs pr sd), itsB l] (.per (itsP (sortL R hs l))) := by
  have hm : ∀ k, ∀ y ∈ srtS (ltI R hs) (l.take k), y ∈ l := fun k y hy => List.mem_of_mem_take ((srtS_mem (ltI_wo R hs)).1 hy)
  have hlen : ∀ k, (srtS (ltI R hs) (l.take k)).length ≤ l.length := fun k => by rw [srtS_len, List.length_take]; omega
  have hstep : ∀ k (h : k < l.length), srtS (ltI R hs) (l.take (k + 1)) = insT (ltI R hs) (srtS (ltI R hs) (l.take k)) l[k] := fun k h => by
    unfold srtS; rw [List.take_succ_eq_append_getElem h, List.foldl_append]; rfl
  rw [sortL_eq]
  refine fn_intro Try.func55 rfl (by kernel_rfl) Try.ntmps55 (Nat.le_of_ble_eq_true rfl) ?_
  (repeat' (first | refine AW_seq ?_ | refine AW_block ?_ | refine AW_skip ?_ | refine AW_exit ?_ | refine AW_ret ?_ | refine AW_region ?_ | refine AW_draw mixed0 ?_ | refine AL_nil ?_ | refine AD_nil (by kernel_rfl) ?_ | (refine AW_cl rfl rfl ⟨fun hc => ?_, fun hc => ?_⟩ <;> (repeat rw [List.length_map] at hc) <;> (try exact absd hc)) | ((first | apply AL_t rfl | apply AL_0 rfl | apply AD_t rfl | apply AD_0 rfl); focus (first | exact z_auto | fail)) | refine thenA_n ?_ | refine thenA_r ?_ | refine thenA_e ?_ | refine inB_n ?_ | refine inB_r ?_ | refine inB_hit ?_ | refine inB_miss rfl ?_ | ((first | refine AL_cl rfl rfl rfl ⟨fun hc => ?_, fun hc => ?_⟩ | refine AD_cl rfl rfl rfl ⟨fun hc => ?_, fun hc => ?_⟩) <;> (fail_if_success (have q : (true = true) := hc)) <;> (fail_if_success (have q : (false = false) := hc)) <;> (repeat rw [List.length_map] at hc) <;> (try exact absd hc)) | refine AW_cond_nil rfl rfl (fun hc => ?_) ?_))
  refine AW_le (Le_nil 7 600 62 7 rfl rfl) (AW_le (Le_fz 600 _ 62 7 rfl rfl) ?_)
  refine AW_loopP (X := Nat) (fun k => k ≤ l.length)
    (fun k => mkSt [(0, rgsB R), (2, itsB l), (4, .ptr 4 0 0), (7, .per (itsP (srtS (ltI R hs) (l.take k)))), (8, iC .i64 (k : Nat))] [(4, .box 32 [.per (lstP 1 (bs.map boolP)), iC .i64 pr, iC .u64 sd])]) (fun k => l.length - k) 0 (Nat.zero_le _) ?_ ?_
  · exact le_auto
  · rintro k hk
    by_cases hlt : k < l.length
    · have hst := hstep k hlt
      have hmk := hm k
      have hlk := hlen k
      have hxm := List.getElem_mem hlt
      generalize srtS (ltI R hs) (l.take k) = O at *
      clear hm hlen hstep
      (repeat' (first | refine AW_seq ?_ | refine AW_block ?_ | refine AW_skip ?_ | refine AW_exit ?_ | refine AW_ret ?_ | refine AW_region ?_ | refine AL_nil ?_ | refine AD_nil (by kernel_rfl) ?_ | (refine AW_cl rfl rfl ⟨fun hc => ?_, fun hc => ?_⟩ <;> (repeat rw [List.length_map] at hc) <;> (try exact absd hc)) | ((first | apply AL_t rfl | apply AL_0 rfl | apply AD_t rfl | apply AD_0 rfl); focus (first | exact z_auto | fail)) | refine thenA_n ?_ | refine thenA_r ?_ | refine thenA_e ?_ | refine inB_n ?_ | refine inB_r ?_ | refine inB_hit ?_ | refine inB_miss rfl ?_ | ((first | refine AL_cl rfl rfl rfl ⟨fun hc => ?_, fun hc => ?_⟩ | refine AD_cl rfl rfl rfl ⟨fun hc => ?_, fun hc => ?_⟩) <;> (fail_if_success (have q : (true = true) := hc)) <;> (fail_if_success (have q : (false = false) := hc)) <;> (repeat rw [List.length_map] at hc) <;> (try exact absd hc)) | refine AW_cond_nil rfl rfl (fun hc => ?_) ?_))
      refine AW_loopP (X := List It × List It) (fun p => p.1 ++ p.2 = O ∧ insS (ltI R hs) l[k] p.1.reverse p.2 = insT (ltI R hs) O l[k])
        (fun p => mkSt [(0, rgsB R), (2, itsB l), (4, .ptr 4 0 0), (7, .per (itsP O)), (8, iC .i64 (k : Nat)), (9, iC .i64 (p.1.length : Nat))] [(4, .box 32 [.per (lstP 1 (bs.map boolP)), iC .i64 pr, iC .u64 sd])]) (fun p => p.1.length) (O, []) ⟨by simp, rfl⟩ ?_ ?_
      · exact le_auto
      · rintro ⟨p1, p2⟩ ⟨q1, q2⟩
        simp only at q1 q2 ⊢
        have hfin : insT (ltI R hs) O l[k] = p1 ++ l[k] :: p2 → Cnt.per (lstP 7 ((([] : List (List PV)) ++ (O.take p1.length).map itP) ++ [itP l[k]] ++ (O.drop p1.length).map itP)) = .per (itsP (srtS (ltI R hs) (l.take (k + 1)))) := fun h => by
          rw [hst, h, ← q1]
          simp [itsP]
        have hpl : p1.length ≤ O.length := by rw [← q1, List.length_append]; omega
        rcases snoc_cases p1 with rfl | ⟨p1', y, rfl⟩
        · have hf := hfin (by rw [← q2]; rfl)
          clear hfin hAh
          (repeat' (first | refine AW_seq ?_ | refine AW_block ?_ | refine AW_skip ?_ | refine AW_exit ?_ | refine AW_ret ?_ | refine AW_region ?_ | refine AW_draw mixed0 ?_ | refine AL_nil ?_ | refine AD_nil (by kernel_rfl) ?_ | (refine AW_cl rfl rfl ⟨fun hc => ?_, fun hc => ?_⟩ <;> (repeat rw [List.length_map] at hc) <;> (try exact absd hc)) | ((first | apply AL_t rfl | apply AL_0 rfl | apply AD_t rfl | apply AD_0 rfl); focus (first | exact z_auto | fail)) | refine thenA_n ?_ | refine thenA_r ?_ | refine thenA_e ?_ | refine inB_n ?_ | refine inB_r ?_ | refine inB_hit ?_ | refine inB_miss rfl ?_ | ((first | refine AL_cl rfl rfl rfl ⟨fun hc => ?_, fun hc => ?_⟩ | refine AD_cl rfl rfl rfl ⟨fun hc => ?_, fun hc => ?_⟩) <;> (fail_if_success (have q : (true = true) := hc)) <;> (fail_if_success (have q : (false = false) := hc)) <;> (repeat rw [List.length_map] at hc) <;> (try exact absd hc)) | refine AW_cond_nil rfl rfl (fun hc => ?_) ?_))
          refine AL_le (Le_nil 37 601 62 7 rfl rfl) ?_
          (repeat' (first | refine AW_seq ?_ | refine AW_block ?_ | refine AW_skip ?_ | refine AW_exit ?_ | refine AW_ret ?_ | refine AW_region ?_ | refine AW_draw mixed0 ?_ | refine AL_nil ?_ | refine AD_nil (by kernel_rfl) ?_ | (refine AW_cl rfl rfl ⟨fun hc => ?_, fun hc => ?_⟩ <;> (repeat rw [List.length_map] at hc) <;> (try exact absd hc)) | ((first | apply AL_t rfl | apply AL_0 rfl | apply AD_t rfl | apply AD_0 rfl); focus (first | exact z_auto | fail)) | refine thenA_n ?_ | refine thenA_r ?_ | refine thenA_e ?_ | refine inB_n ?_ | refine inB_r ?_ | refine inB_hit ?_ | refine inB_miss rfl ?_ | ((first | refine AL_cl rfl rfl rfl ⟨fun hc => ?_, fun hc => ?_⟩ | refine AD_cl rfl rfl rfl ⟨fun hc => ?_, fun hc => ?_⟩) <;> (fail_if_success (have q : (true = true) := hc)) <;> (fail_if_success (have q : (false = false) := hc)) <;> (repeat rw [List.length_map] at hc) <;> (try exact absd hc)) | refine AW_cond_nil rfl rfl (fun hc => ?_) ?_))
          refine ⟨k + 1, by omega, by omega, Le_trans (Le_fz 601 _ 62 7 rfl rfl) ?_⟩
          refine Le_mk ?_ ?_
          · ((repeat (first | exact AllG.nil | (refine AllG.cons ?_ ?_; rotate_left))); (all_goals try (first | rfl | (refine eqI ?_; first | omega | (simp; done) | (simp; omega)) | (refine eqBo ?_; first | (simp; done) | (simp [*]; done)))))
            exact hf
          · ((repeat (first | exact AllB.nil | (refine AllB.cons ?_ ?_; rotate_left))); (all_goals try (first | rfl | (refine eqRw ?_; (rw [List.map_append] <;> rfl); done) | (refine eqMix ?_; (rw [List.map_append] <;> rfl); done))))
        · obtain ⟨j, hj⟩ : ∃ j, p1'.length = j := ⟨_, rfl⟩
          have hj1 : (p1' ++ [y]).length = j + 1 := by simp; omega
          have hyl := hmk y (by rw [← q1]; simp)
          have hm := hAh l[k] hxm y hyl
          have HJ : (O.map itP)[j]? = some (itP y) := by
            rw [List.getElem?_map, ← q1, List.append_assoc, List.getElem?_append_right (by omega), hj, Nat.sub_self]; rfl
          rw [hj1] at hfin hpl
          rw [hj1]
          have hrev : (p1' ++ [y]).reverse = y :: p1'.reverse := by simp
          rw [hrev, insS] at q2
          by_cases hxy : ltI R hs l[k] y = true
          · rw [if_pos hxy] at q2
            have hxy' : ltSn (snt R hs l[k]) (snt R hs y) = true := hxy
            rw [hxy'] at hm
            clear hfin hAh
            (repeat' (first | refine AW_seq ?_ | refine AW_block ?_ | refine AW_skip ?_ | refine AW_exit ?_ | refine AW_ret ?_ | refine AW_region ?_ | refine AW_draw mixed0 ?_ | refine AL_nil ?_ | refine AD_nil (by kernel_rfl) ?_ | (refine AW_cl rfl rfl ⟨fun hc => ?_, fun hc => ?_⟩ <;> (repeat rw [List.length_map] at hc) <;> (try exact absd hc)) | ((first | apply AL_t rfl | apply AL_0 rfl | apply AD_t rfl | apply AD_0 rfl); focus (first | ((apply u_k 12; (focus rfl); exact u_index ⟨rfl, rfl, rfl⟩ rfl inferInstance inferInstance rfl rfl rfl rfl HJ)) | (apply u_g; (focus rfl); apply op_gyes rfl rfl rfl rfl rfl; ((apply u_k 12; (focus rfl); exact u_index ⟨rfl, rfl, rfl⟩ rfl inferInstance inferInstance rfl rfl rfl rfl HJ))) | exact z_auto | exact c_A (hm) | fail)) | refine thenA_n ?_ | refine thenA_r ?_ | refine thenA_e ?_ | refine inB_n ?_ | refine inB_r ?_ | refine inB_hit ?_ | refine inB_miss rfl ?_ | ((first | refine AL_cl rfl rfl rfl ⟨fun hc => ?_, fun hc => ?_⟩ | refine AD_cl rfl rfl rfl ⟨fun hc => ?_, fun hc => ?_⟩) <;> (fail_if_success (have q : (true = true) := hc)) <;> (fail_if_success (have q : (false = false) := hc)) <;> (repeat rw [List.length_map] at hc) <;> (try exact absd hc)) | refine AW_cond_nil rfl rfl (fun hc => ?_) ?_))
            refine ⟨(p1', y :: p2), ⟨by simp only; rw [← q1]; simp, q2⟩, by simp only; omega, ?_⟩
            simp only [hj]
            exact le_auto
          · rw [if_neg hxy] at q2
            have hxy' : ltSn (snt R hs l[k]) (snt R hs y) = false := by simpa using hxy
            rw [hxy'] at hm
            have hf := hfin (by rw [← q2]; simp)
            clear hfin hAh
            (repeat' (first | refine AW_seq ?_ | refine AW_block ?_ | refine AW_skip ?_ | refine AW_exit ?_ | refine AW_ret ?_ | refine AW_region ?_ | refine AW_draw mixed0 ?_ | refine AL_nil ?_ | refine AD_nil (by kernel_rfl) ?_ | (refine AW_cl rfl rfl ⟨fun hc => ?_, fun hc => ?_⟩ <;> (repeat rw [List.length_map] at hc) <;> (try exact absd hc)) | ((first | apply AL_t rfl | apply AL_0 rfl | apply AD_t rfl | apply AD_0 rfl); focus (first | ((apply u_k 12; (focus rfl); exact u_index ⟨rfl, rfl, rfl⟩ rfl inferInstance inferInstance rfl rfl rfl rfl HJ)) | (apply u_g; (focus rfl); apply op_gyes rfl rfl rfl rfl rfl; ((apply u_k 12; (focus rfl); exact u_index ⟨rfl, rfl, rfl⟩ rfl inferInstance inferInstance rfl rfl rfl rfl HJ))) | exact z_auto | exact c_A (hm) | fail)) | refine thenA_n ?_ | refine thenA_r ?_ | refine thenA_e ?_ | refine inB_n ?_ | refine inB_r ?_ | refine inB_hit ?_ | refine inB_miss rfl ?_ | ((first | refine AL_cl rfl rfl rfl ⟨fun hc => ?_, fun hc => ?_⟩ | refine AD_cl rfl rfl rfl ⟨fun hc => ?_, fun hc => ?_⟩) <;> (fail_if_success (have q : (true = true) := hc)) <;> (fail_if_success (have q : (false = false) := hc)) <;> (repeat rw [List.length_map] at hc) <;> (try exact absd hc)) | refine AW_cond_nil rfl rfl (fun hc => ?_) ?_))
            refine AL_le (Le_nil 37 601 62 7 rfl rfl) ?_
            (repeat' (first | refine AW_seq ?_ | refine AW_block ?_ | refine AW_skip ?_ | refine AW_exit ?_ | refine AW_ret ?_ | refine AW_region ?_ | refine AW_draw mixed0 ?_ | refine AL_nil ?_ | refine AD_nil (by kernel_rfl) ?_ | (refine AW_cl rfl rfl ⟨fun hc => ?_, fun hc => ?_⟩ <;> (repeat rw [List.length_map] at hc) <;> (try exact absd hc)) | ((first | apply AL_t rfl | apply AL_0 rfl | apply AD_t rfl | apply AD_0 rfl); focus (first | exact z_auto | fail)) | refine thenA_n ?_ | refine thenA_r ?_ | refine thenA_e ?_ | refine inB_n ?_ | refine inB_r ?_ | refine inB_hit ?_ | refine inB_miss rfl ?_ | ((first | refine AL_cl rfl rfl rfl ⟨fun hc => ?_, fun hc => ?_⟩ | refine AD_cl rfl rfl rfl ⟨fun hc => ?_, fun hc => ?_⟩) <;> (fail_if_success (have q : (true = true) := hc)) <;> (fail_if_success (have q : (false = false) := hc)) <;> (repeat rw [List.length_map] at hc) <;> (try exact absd hc)) | refine AW_cond_nil rfl rfl (fun hc => ?_) ?_))
            refine ⟨k + 1, by omega, by omega, Le_trans (Le_fz 601 _ 62 7 rfl rfl) ?_⟩
            refine Le_mk ?_ ?_
            · ((repeat (first | exact AllG.nil | (refine AllG.cons ?_ ?_; rotate_left))); (all_goals try (first | rfl | (refine eqI ?_; first | omega | (simp; done) | (simp; omega)) | (refine eqBo ?_; first | (simp; done) | (simp [*]; done)))))
              exact hf
            · ((repeat (first | exact AllB.nil | (refine AllB.cons ?_ ?_; rotate_left))); (all_goals try (first | rfl | (refine eqRw ?_; (rw [List.map_append] <;> rfl); done) | (refine eqMix ?_; (rw [List.map_append] <;> rfl); done))))
    · obtain rfl : k = l.length := by omega
      rw [List.take_length]
      (repeat' (first | refine AW_seq ?_ | refine AW_block ?_ | refine AW_skip ?_ | refine AW_exit ?_ | refine AW_ret ?_ | refine AW_region ?_ | refine AW_draw mixed0 ?_ | refine AL_nil ?_ | refine AD_nil (by kernel_rfl) ?_ | (refine AW_cl rfl rfl ⟨fun hc => ?_, fun hc => ?_⟩ <;> (repeat rw [List.length_map] at hc) <;> (try exact absd hc)) | ((first | apply AL_t rfl | apply AL_0 rfl | apply AD_t rfl | apply AD_0 rfl); focus (first | exact z_auto | fail)) | refine thenA_n ?_ | refine thenA_r ?_ | refine thenA_e ?_ | refine inB_n ?_ | refine inB_r ?_ | refine inB_hit ?_ | refine inB_miss rfl ?_ | ((first | refine AL_cl rfl rfl rfl ⟨fun hc => ?_, fun hc => ?_⟩ | refine AD_cl rfl rfl rfl ⟨fun hc => ?_, fun hc => ?_⟩) <;> (fail_if_success (have q : (true = true) := hc)) <;> (fail_if_success (have q : (false = false) := hc)) <;> (repeat rw [List.length_map] at hc) <;> (try exact absd hc)) | refine AW_cond_nil rfl rfl (fun hc => ?_) ?_))
      (refine ⟨(by first | exact .inl rfl | exact .inr rfl), res1 rfl ?_⟩)
      exact rv_per rfl
theorem od_both (b : List UInt8) (hb : b.length ≤ 1000000) (seed : Int) : ∃ (th : PV) (bs : List Bool) (pr sd : Int) (hs : Int → Int → Bool),
    Fn Try.prog 52 [.per (aggP [bysP b, rawP (.int .u64 seed)])] (.tup3 (.per th) (.per (rblP bs pr sd)) (.per (rawP (.bool true)))) ∧
    (∀ r c, Fn Try.prog 15 [.per th, vrC r c] (boR (hs r c))) ∧ (0 < bs.length → ∀ r c, Fn Try.prog 16 [.per (rblP bs pr sd), vrC r c] (boR (hs r c))) ∧ (bs.length = 0 → ∀ r c, hs r c = false) := by
  have h2 := rb_Read b hb seed
  cases hX : rdBl b with
  | mk x e =>
  rw [hX] at h2
  simp only at h2
  by_cases he : e = 0
  · subst he
    obtain ⟨bits, probes, row⟩ := x
    obtain ⟨ok, h1⟩ := bl_Read_ok b hb seed hX
    obtain ⟨hbk, hl, b1, b2, p1, p2, hT⟩ := rdBl_back hX
    obtain ⟨n, rfl⟩ := Int.eq_ofNat_of_zero_le (show 0 ≤ bits by omega)
    rw [Int.toNat_natCast] at hl hT
    rw [show rdV (((n : Int), probes, row), 0) seed = rblP (bitsOf n row) probes seed from rfl] at h2
    refine ⟨_, bitsOf n row, probes, seed, fun r c => hasV row n probes seed r c, ?_, fun r c => bl_Has n probes seed row ok r c, fun _ r c => ?_, fun h0 => ?_⟩
    · clear ok hT
      refine fn_intro Try.func52 rfl (by kernel_rfl) Try.ntmps52 (Nat.le_of_ble_eq_true rfl) ?_
      (repeat' (first | refine AW_seq ?_ | refine AW_block ?_ | refine AW_skip ?_ | refine AW_exit ?_ | refine AW_ret ?_ | refine AW_region ?_ | refine AW_draw mixed0 ?_ | refine AL_nil ?_ | refine AD_nil (by kernel_rfl) ?_ | (refine AW_cl rfl rfl ⟨fun hc => ?_, fun hc => ?_⟩ <;> (repeat rw [List.length_map] at hc) <;> (try exact absd hc)) | ((first | apply AL_t rfl | apply AL_0 rfl | apply AD_t rfl | apply AD_0 rfl); focus (first | exact z_auto | exact c_A (h1) | exact c_A (h2) | fail)) | refine thenA_n ?_ | refine thenA_r ?_ | refine thenA_e ?_ | refine inB_n ?_ | refine inB_r ?_ | refine inB_hit ?_ | refine inB_miss rfl ?_ | ((first | refine AL_cl rfl rfl rfl ⟨fun hc => ?_, fun hc => ?_⟩ | refine AD_cl rfl rfl rfl ⟨fun hc => ?_, fun hc => ?_⟩) <;> (fail_if_success (have q : (true = true) := hc)) <;> (fail_if_success (have q : (false = false) := hc)) <;> (repeat rw [List.length_map] at hc) <;> (try exact absd hc)) | refine AW_cond_nil rfl rfl (fun hc => ?_) ?_))
      refine ⟨.inl rfl, res3 rfl ?_ ?_ ?_⟩
      · exact rv_per rfl
      · exact rv_cA inferInstance inferInstance rfl rfl rfl rfl rfl rfl
      · exact rv_bool rfl (by simp)
    · have h6 := rb_Has (bitsOf n row) probes seed r c (by rw [bitsOf_len]; omega) (by rw [bitsOf_len]; omega) (by omega) p2
      rw [bitsOf_len, rhasV_bits (by omega)] at h6
      exact h6
    · rw [bitsOf_len] at h0; omega
  · have h1 := bl_Read_no b hb seed hX he
    rw [show rdV (x, e) seed = zblP by unfold rdV; rw [if_neg he]] at h2
    have key : Fn Try.prog 52 [.per (aggP [bysP b, rawP (.int .u64 seed)])] (.tup3 (.per (rawP (.pointer none))) (.per zblP) (.per (rawP (.bool true)))) := by
      refine fn_intro Try.func52 rfl (by kernel_rfl) Try.ntmps52 (Nat.le_of_ble_eq_true rfl) ?_
      (repeat' (first | refine AW_seq ?_ | refine AW_block ?_ | refine AW_skip ?_ | refine AW_exit ?_ | refine AW_ret ?_ | refine AW_region ?_ | refine AW_draw mixed0 ?_ | refine AL_nil ?_ | refine AD_nil (by kernel_rfl) ?_ | (refine AW_cl rfl rfl ⟨fun hc => ?_, fun hc => ?_⟩ <;> (repeat rw [List.length_map] at hc) <;> (try exact absd hc)) | ((first | apply AL_t rfl | apply AL_0 rfl | apply AD_t rfl | apply AD_0 rfl); focus (first | exact z_auto | exact c_A (h1) | exact c_A (h2) | fail)) | refine thenA_n ?_ | refine thenA_r ?_ | refine thenA_e ?_ | refine inB_n ?_ | refine inB_r ?_ | refine inB_hit ?_ | refine inB_miss rfl ?_ | ((first | refine AL_cl rfl rfl rfl ⟨fun hc => ?_, fun hc => ?_⟩ | refine AD_cl rfl rfl rfl ⟨fun hc => ?_, fun hc => ?_⟩) <;> (fail_if_success (have q : (true = true) := hc)) <;> (fail_if_success (have q : (false = false) := hc)) <;> (repeat rw [List.length_map] at hc) <;> (try exact absd hc)) | refine AW_cond_nil rfl rfl (fun hc => ?_) ?_))
      refine ⟨.inl rfl, res3 rfl ?_ ?_ ?_⟩
      · exact rv_per rfl
      · exact rv_cA inferInstance inferInstance rfl rfl rfl rfl rfl rfl
      · exact rv_bool rfl (by simp)
    refine ⟨rawP (.pointer none), [], 0, 0, fun _ _ => false, ⟨key.ent, fun N0 w vs hN ha => (key.run N0 w vs hN ha).mono ?_⟩, fun r c => ?_, fun h => absurd h (by simp), fun _ _ _ => rfl⟩
    · rintro ex w' ⟨v, g1, g2, y0, y1, y2, g3, g4, g5, g6⟩
      exact ⟨v, g1, g2, y0, y1, y2, g3, g4, zbl_imp g5, g6⟩
    · refine fn_intro Try.func15 rfl (by kernel_rfl) Try.ntmps15 (Nat.le_of_ble_eq_true rfl) ?_
      (repeat' (first | refine AW_seq ?_ | refine AW_block ?_ | refine AW_skip ?_ | refine AW_exit ?_ | refine AW_ret ?_ | refine AW_region ?_ | refine AW_draw mixed0 ?_ | refine AL_nil ?_ | refine AD_nil (by kernel_rfl) ?_ | (refine AW_cl rfl rfl ⟨fun hc => ?_, fun hc => ?_⟩ <;> (repeat rw [List.length_map] at hc) <;> (try exact absd hc)) | ((first | apply AL_t rfl | apply AL_0 rfl | apply AD_t rfl | apply AD_0 rfl); focus (first | exact z_auto | fail)) | refine thenA_n ?_ | refine thenA_r ?_ | refine thenA_e ?_ | refine inB_n ?_ | refine inB_r ?_ | refine inB_hit ?_ | refine inB_miss rfl ?_ | ((first | refine AL_cl rfl rfl rfl ⟨fun hc => ?_, fun hc => ?_⟩ | refine AD_cl rfl rfl rfl ⟨fun hc => ?_, fun hc => ?_⟩) <;> (fail_if_success (have q : (true = true) := hc)) <;> (fail_if_success (have q : (false = false) := hc)) <;> (repeat rw [List.length_map] at hc) <;> (try exact absd hc)) | refine AW_cond_nil rfl rfl (fun hc => ?_) ?_))
      (refine ⟨(by first | exact .inl rfl | exact .inr rfl), res1 rfl ?_⟩)
      exact rv_bool rfl rfl
end
end Go.Proofs.Ytbpmafpmlapekaa
