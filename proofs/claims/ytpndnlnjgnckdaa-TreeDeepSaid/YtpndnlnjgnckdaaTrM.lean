/- Trees: what a tree tells, and does. -/
import Derived.Test.YtpndnlnjgnckdaaTr
import Derived.Test.YtpndnlnjgnckdaaTrH
import Derived.Test.YtpndnlnjgnckdaaBase
import Derived.Test.YtpndnlnjgnckdaaRg
namespace Go.Proofs.Ytpndnlnjgnckdaa
open Go.RowKit
/-- a tree that nobody turns -/
def treeP (t : Tr) (seed bits : Int) : PV := rptrP [trP t, rawP (.int .u64 seed), rawP (.int .i64 bits)]
section
variable {n : Nat} {S : St}
/-- what a cell of a box holds, as a thing that the box owns -/
theorem Le_objB (id off idr e : Nat) {u : Value} {cells : List Cnt} (h1 : u.oneCell' = true) (h2 : u.cells = #[u]) (hb : S.blk id = .box e cells) (hc : cells[off]? = some (.per (rawP u))) (hne : Nat.beq idr id = false := by rfl) (hfx : isFix idr = false := by rfl) :
    Le n S (S.app none .any [(id, S.ver id, .box e (cells.set off (.row idr (S.ver idr + 1)))), (idr, S.ver idr + 1, .obj (rawO u h1 h2))]) := by
  rintro C a w ⟨g, hR⟩
  have hne' : idr ≠ id := fun e => by rw [nbeq_true.2 e] at hne; cases hne
  have hvr : ∀ i, (S.app none .any [(id, S.ver id, .box e (cells.set off (.row idr (S.ver idr + 1)))), (idr, S.ver idr + 1, .obj (rawO u h1 h2))]).ver i = if i = idr then S.ver idr + 1 else S.ver i := by
    intro i
    rw [St.app_ver]
    unfold ub
    cases hbq : Nat.beq i id with
    | true =>
      have := nbeq_true.1 hbq
      subst this
      rw [if_neg (Ne.symm hne')]; rfl
    | false =>
      show ((ub [(idr, S.ver idr + 1, Blk.obj (rawO u h1 h2))] i).map (·.1)).getD (S.ver i) = _
      rw [ub_one]
      split <;> rfl
  have hst := stp_mkN (v := u) (t := idr) hR (Ext.refl w) hvr hfx
  have hrh : (g.mkN idr u).rh idr = u := if_pos rfl
  have hid : hst = hst := rfl
  refine ⟨g.mkN idr u, ?_⟩
  have key := hR.appL (g' := g.mkN idr u) (bs := [(id, S.ver id, .box e (cells.set off (.row idr (S.ver idr + 1)))), (idr, S.ver idr + 1, .obj (rawO u h1 h2))]) (d := none) (fun t h => by cases h) (c := .any) (v := undef)
    (hst.cong ?hcg) trivial ?_
  case hcg =>
    intro i hi
    subst hi
    unfold ub
    rw [hne]
    show ub [(i, S.ver i + 1, Blk.obj (rawO u h1 h2))] i ≠ none
    rw [ub_one, if_pos rfl]; simp
  · exact key
  · intro i v B hu
    rcases ub_two hu with ⟨rfl, rfl, rfl⟩ | ⟨rfl, rfl, rfl⟩
    · have h0 := hst.brep (fun b id e => (hR.dom b id e).1) (id := i) (fun h => hne' h.symm) (hR.blks i)
      rw [hb] at h0
      obtain ⟨cs, q1, q2, q3, q4⟩ := h0
      refine ⟨cs, q1, q2, by rw [q3]; simp, fun j c hj => ?_⟩
      rw [List.getElem?_set] at hj
      split at hj
      · rename_i e1
        subst e1
        split at hj
        · cases hj
          obtain ⟨y, r1, r2, r3⟩ := q4 off _ hc
          refine ⟨y, r1, r2, by rw [hvr, if_pos rfl]; exact Nat.le_refl _, fun _ => ?_⟩
          rw [hrh]; exact r3
        · cases hj
      · exact q4 j c hj
    · exact hrh
end
section
set_option maxRecDepth 10000
set_option maxHeartbeats 4000000
theorem tree_top (t : Tr) (s b : Int) : Fn Try.prog 37 [.per (treeP t s b)] (.per (trP t)) := by
  unfold treeP
  refine fn_intro Try.func37 rfl (by kernel_rfl) Try.ntmps37 (Nat.le_of_ble_eq_true rfl) ?_
  (repeat' (first | refine AW_seq ?_ | refine AW_block ?_ | refine AW_skip ?_ | refine AW_exit ?_ | refine AW_ret ?_ | refine AW_region ?_ | refine AW_draw mixed0 ?_ | refine AL_nil ?_ | refine AD_nil (by kernel_rfl) ?_ | (refine AW_cl rfl rfl ⟨fun hc => ?_, fun hc => ?_⟩ <;> (repeat rw [List.length_map] at hc) <;> (try exact absd hc)) | ((first | apply AL_t rfl | apply AL_0 rfl | apply AD_t rfl | apply AD_0 rfl); focus (first | exact z_auto | fail)) | refine thenA_n ?_ | refine thenA_r ?_ | refine thenA_e ?_ | refine inB_n ?_ | refine inB_r ?_ | refine inB_hit ?_ | refine inB_miss rfl ?_ | ((first | refine AL_cl rfl rfl rfl ⟨fun hc => ?_, fun hc => ?_⟩ | refine AD_cl rfl rfl rfl ⟨fun hc => ?_, fun hc => ?_⟩) <;> (fail_if_success (have q : (true = true) := hc)) <;> (fail_if_success (have q : (false = false) := hc)) <;> (repeat rw [List.length_map] at hc) <;> (try exact absd hc)) | refine AW_cond_nil rfl rfl (fun hc => ?_) ?_))
  (refine ⟨(by first | exact .inl rfl | exact .inr rfl), res1 rfl ?_⟩)
  exact rv_per rfl
theorem tree_Len (t : Tr) (s b : Int) : Fn Try.prog 16 [.per (treeP t s b)] (inR ((t.siz : Nat) : Int)) := by
  have h1 := tree_top t s b
  have h2 := tr_count t
  unfold treeP at *
  refine fn_intro Try.func16 rfl (by kernel_rfl) Try.ntmps16 (Nat.le_of_ble_eq_true rfl) ?_
  (repeat' (first | refine AW_seq ?_ | refine AW_block ?_ | refine AW_skip ?_ | refine AW_exit ?_ | refine AW_ret ?_ | refine AW_region ?_ | refine AW_draw mixed0 ?_ | refine AL_nil ?_ | refine AD_nil (by kernel_rfl) ?_ | (refine AW_cl rfl rfl ⟨fun hc => ?_, fun hc => ?_⟩ <;> (repeat rw [List.length_map] at hc) <;> (try exact absd hc)) | ((first | apply AL_t rfl | apply AL_0 rfl | apply AD_t rfl | apply AD_0 rfl); focus (first | exact z_auto | exact c_A (h1) | exact c_A (h2) | fail)) | refine thenA_n ?_ | refine thenA_r ?_ | refine thenA_e ?_ | refine inB_n ?_ | refine inB_r ?_ | refine inB_hit ?_ | refine inB_miss rfl ?_ | ((first | refine AL_cl rfl rfl rfl ⟨fun hc => ?_, fun hc => ?_⟩ | refine AD_cl rfl rfl rfl ⟨fun hc => ?_, fun hc => ?_⟩) <;> (fail_if_success (have q : (true = true) := hc)) <;> (fail_if_success (have q : (false = false) := hc)) <;> (repeat rw [List.length_map] at hc) <;> (try exact absd hc)) | refine AW_cond_nil rfl rfl (fun hc => ?_) ?_))
  (refine ⟨(by first | exact .inl rfl | exact .inr rfl), res1 rfl ?_⟩)
  exact rv_int rfl rfl
theorem tree_Depth (t : Tr) (s b : Int) : Fn Try.prog 22 [.per (treeP t s b)] (inR ((t.dep : Nat) : Int)) := by
  have h1 := tree_top t s b
  have h2 := tr_depth t
  unfold treeP at *
  refine fn_intro Try.func22 rfl (by kernel_rfl) Try.ntmps22 (Nat.le_of_ble_eq_true rfl) ?_
  (repeat' (first | refine AW_seq ?_ | refine AW_block ?_ | refine AW_skip ?_ | refine AW_exit ?_ | refine AW_ret ?_ | refine AW_region ?_ | refine AW_draw mixed0 ?_ | refine AL_nil ?_ | refine AD_nil (by kernel_rfl) ?_ | (refine AW_cl rfl rfl ⟨fun hc => ?_, fun hc => ?_⟩ <;> (repeat rw [List.length_map] at hc) <;> (try exact absd hc)) | ((first | apply AL_t rfl | apply AL_0 rfl | apply AD_t rfl | apply AD_0 rfl); focus (first | exact z_auto | exact c_A (h1) | exact c_A (h2) | fail)) | refine thenA_n ?_ | refine thenA_r ?_ | refine thenA_e ?_ | refine inB_n ?_ | refine inB_r ?_ | refine inB_hit ?_ | refine inB_miss rfl ?_ | ((first | refine AL_cl rfl rfl rfl ⟨fun hc => ?_, fun hc => ?_⟩ | refine AD_cl rfl rfl rfl ⟨fun hc => ?_, fun hc => ?_⟩) <;> (fail_if_success (have q : (true = true) := hc)) <;> (fail_if_success (have q : (false = false) := hc)) <;> (repeat rw [List.length_map] at hc) <;> (try exact absd hc)) | refine AW_cond_nil rfl rfl (fun hc => ?_) ?_))
  (refine ⟨(by first | exact .inl rfl | exact .inr rfl), res1 rfl ?_⟩)
  exact rv_int rfl rfl
def it00 : It := ⟨⟨#[]⟩, 0, 0, 0, 0, false, ⟨#[]⟩⟩
abbrev itCs (x : It) : List Cnt := [sC x.key, iC .i64 x.rep, iC .i64 x.cnt, iC .i64 x.rank, iC .i64 x.prio, bC x.dead, sC x.body]
theorem trP_node (l : Tr) (x : It) (o : Int) (r : Tr) : trP (.node l x o r) = rptrP (itP x ++ [trP l, trP r, rawP (.int .i64 ((Tr.node l x o r).dep : Nat)), rawP (.int .i64 ((Tr.node l x o r).siz : Nat)), rawP (.int .u64 o), rawP (.int .u64 (Tr.node l x o r).tot)]) := by rw [trP]
def getT : Tr → ByteArray → Option It
  | .nil, _ => none
  | .node l y _ r, k => if cmpB k y.key < 0 then getT l k else if cmpB k y.key > 0 then getT r k else some y
theorem getT_has : ∀ (t : Tr) (k : ByteArray), (getT t k).isSome = hasT t k
  | .nil, _ => rfl
  | .node l y _ r, k => by
    have h1 := getT_has l k
    have h2 := getT_has r k
    rw [getT, hasT]
    split
    · exact h1
    · split
      · exact h2
      · rfl
theorem tree_Get (t : Tr) (s b : Int) (k : ByteArray) (hk : k.size ≤ 1000000000) : Fn Try.prog 26 [.per (treeP t s b), sC k] (.tup2 (.per (aggP (itP ((getT t k).getD it00)))) (boR (getT t k).isSome)) := by
  have h1 := tree_top t s b
  generalize hR : getT t k = R
  generalize treeP t s b = T at *
  refine fn_intro Try.func26 rfl (by kernel_rfl) Try.ntmps26 (Nat.le_of_ble_eq_true rfl) ?_
  (repeat' (first | refine AW_seq ?_ | refine AW_block ?_ | refine AW_skip ?_ | refine AW_exit ?_ | refine AW_ret ?_ | refine AW_region ?_ | refine AW_draw mixed0 ?_ | refine AL_nil ?_ | refine AD_nil (by kernel_rfl) ?_ | (refine AW_cl rfl rfl ⟨fun hc => ?_, fun hc => ?_⟩ <;> (repeat rw [List.length_map] at hc) <;> (try exact absd hc)) | ((first | apply AL_t rfl | apply AL_0 rfl | apply AD_t rfl | apply AD_0 rfl); focus (first | exact z_auto | exact c_A (h1) | fail)) | refine thenA_n ?_ | refine thenA_r ?_ | refine thenA_e ?_ | refine inB_n ?_ | refine inB_r ?_ | refine inB_hit ?_ | refine inB_miss rfl ?_ | ((first | refine AL_cl rfl rfl rfl ⟨fun hc => ?_, fun hc => ?_⟩ | refine AD_cl rfl rfl rfl ⟨fun hc => ?_, fun hc => ?_⟩) <;> (fail_if_success (have q : (true = true) := hc)) <;> (fail_if_success (have q : (false = false) := hc)) <;> (repeat rw [List.length_map] at hc) <;> (try exact absd hc)) | refine AW_cond_nil rfl rfl (fun hc => ?_) ?_))
  refine AW_loopP (X := Tr) (fun u => getT u k = R) (fun u => mkSt [(1, sC k), (4, .ptr 4 0 0), (6, .per (trP u))] [(4, .box 35 (itCs it00))]) Tr.siz t hR ?_ ?_
  · exact le_auto
  · intro u hu
    cases u with
    | nil =>
      simp only [getT] at hu
      subst hu
      show AW _ _ _ _ (mkSt [(1, sC k), (4, .ptr 4 0 0), (6, .per (rawP (.pointer none)))] [(4, .box 35 (itCs it00))])
      (repeat' (first | refine AW_seq ?_ | refine AW_block ?_ | refine AW_skip ?_ | refine AW_exit ?_ | refine AW_ret ?_ | refine AW_region ?_ | refine AW_draw mixed0 ?_ | refine AL_nil ?_ | refine AD_nil (by kernel_rfl) ?_ | (refine AW_cl rfl rfl ⟨fun hc => ?_, fun hc => ?_⟩ <;> (repeat rw [List.length_map] at hc) <;> (try exact absd hc)) | ((first | apply AL_t rfl | apply AL_0 rfl | apply AD_t rfl | apply AD_0 rfl); focus (first | exact z_auto | fail)) | refine thenA_n ?_ | refine thenA_r ?_ | refine thenA_e ?_ | refine inB_n ?_ | refine inB_r ?_ | refine inB_hit ?_ | refine inB_miss rfl ?_ | ((first | refine AL_cl rfl rfl rfl ⟨fun hc => ?_, fun hc => ?_⟩ | refine AD_cl rfl rfl rfl ⟨fun hc => ?_, fun hc => ?_⟩) <;> (fail_if_success (have q : (true = true) := hc)) <;> (fail_if_success (have q : (false = false) := hc)) <;> (repeat rw [List.length_map] at hc) <;> (try exact absd hc)) | refine AW_cond_nil rfl rfl (fun hc => ?_) ?_))
      (refine ⟨(by first | exact .inl rfl | exact .inr rfl), res2 rfl ?_ ?_⟩)
      · exact rv_cA inferInstance inferInstance rfl rfl rfl rfl rfl rfl
      · exact rv_bool rfl rfl
    | node l y p r =>
      have hkc := key_Cmp k y.key (by omega)
      simp only [getT] at hu
      rw [trP_node]
      (repeat' (first | refine AW_seq ?_ | refine AW_block ?_ | refine AW_skip ?_ | refine AW_exit ?_ | refine AW_ret ?_ | refine AW_region ?_ | refine AW_draw mixed0 ?_ | refine AL_nil ?_ | refine AD_nil (by kernel_rfl) ?_ | (refine AW_cl rfl rfl ⟨fun hc => ?_, fun hc => ?_⟩ <;> (repeat rw [List.length_map] at hc) <;> (try exact absd hc)) | ((first | apply AL_t rfl | apply AL_0 rfl | apply AD_t rfl | apply AD_0 rfl); focus (first | exact z_auto | exact c_A (hkc) | ((apply u_k 5; (focus rfl); first | exact u_load_bpT ⟨rfl, rfl, rfl⟩ rfl inferInstance inferInstance rfl rfl rfl rfl | exact u_load_rpT ⟨rfl, rfl, rfl⟩ rfl inferInstance inferInstance rfl rfl rfl rfl)) | (apply u_g; (focus rfl); apply op_gyes rfl rfl rfl rfl rfl; ((apply u_k 5; (focus rfl); first | exact u_load_bpT ⟨rfl, rfl, rfl⟩ rfl inferInstance inferInstance rfl rfl rfl rfl | exact u_load_rpT ⟨rfl, rfl, rfl⟩ rfl inferInstance inferInstance rfl rfl rfl rfl))) | fail)) | refine thenA_n ?_ | refine thenA_r ?_ | refine thenA_e ?_ | refine inB_n ?_ | refine inB_r ?_ | refine inB_hit ?_ | refine inB_miss rfl ?_ | ((first | refine AL_cl rfl rfl rfl ⟨fun hc => ?_, fun hc => ?_⟩ | refine AD_cl rfl rfl rfl ⟨fun hc => ?_, fun hc => ?_⟩) <;> (fail_if_success (have q : (true = true) := hc)) <;> (fail_if_success (have q : (false = false) := hc)) <;> (repeat rw [List.length_map] at hc) <;> (try exact absd hc)) | refine AW_cond_nil rfl rfl (fun hc => ?_) ?_))
      · rw [if_pos (by assumption)] at hu
        refine ⟨l, hu, by simp only [Tr.siz]; omega, ?_⟩
        exact le_auto
      · rw [if_neg (by assumption), if_pos (by assumption)] at hu
        refine ⟨r, hu, by simp only [Tr.siz]; omega, ?_⟩
        exact le_auto
      · rw [if_neg (by assumption), if_neg (by assumption)] at hu
        subst hu
        (refine ⟨(by first | exact .inl rfl | exact .inr rfl), res2 rfl ?_ ?_⟩)
        · exact rv_cA inferInstance inferInstance rfl rfl rfl rfl rfl rfl
        · exact rv_bool rfl rfl
def atT : Tr → Nat → It
  | .nil, _ => it00
  | .node l y _ r, i => if i < l.siz then atT l i else if l.siz < i then atT r (i - (l.siz + 1)) else y
theorem tree_At (t : Tr) (s b i : Int) (hs : t.siz ≤ 1000000) : Fn Try.prog 27 [.per (treeP t s b), iC .i64 i] (.tup2 (.per (aggP (itP (if i < 0 ∨ i ≥ (t.siz : Nat) then it00 else atT t i.toNat)))) (boR (decide (0 ≤ i ∧ i < (t.siz : Nat))))) := by
  have h1 := tree_top t s b
  have h2 := tr_count t
  generalize treeP t s b = T at *
  refine fn_intro Try.func27 rfl (by kernel_rfl) Try.ntmps27 (Nat.le_of_ble_eq_true rfl) ?_
  (repeat' (first | refine AW_seq ?_ | refine AW_block ?_ | refine AW_skip ?_ | refine AW_exit ?_ | refine AW_ret ?_ | refine AW_region ?_ | refine AW_draw mixed0 ?_ | refine AL_nil ?_ | refine AD_nil (by kernel_rfl) ?_ | (refine AW_cl rfl rfl ⟨fun hc => ?_, fun hc => ?_⟩ <;> (repeat rw [List.length_map] at hc) <;> (try exact absd hc)) | ((first | apply AL_t rfl | apply AL_0 rfl | apply AD_t rfl | apply AD_0 rfl); focus (first | exact z_auto | exact c_A (h1) | exact c_A (h2) | fail)) | refine thenA_n ?_ | refine thenA_r ?_ | refine thenA_e ?_ | refine inB_n ?_ | refine inB_r ?_ | refine inB_hit ?_ | refine inB_miss rfl ?_ | ((first | refine AL_cl rfl rfl rfl ⟨fun hc => ?_, fun hc => ?_⟩ | refine AD_cl rfl rfl rfl ⟨fun hc => ?_, fun hc => ?_⟩) <;> (fail_if_success (have q : (true = true) := hc)) <;> (fail_if_success (have q : (false = false) := hc)) <;> (repeat rw [List.length_map] at hc) <;> (try exact absd hc)) | refine AW_cond_nil rfl rfl (fun hc => ?_) ?_))
  · have hD : decide (0 ≤ i ∧ i < ((t.siz : Nat) : Int)) = false := decide_eq_false (by omega)
    rw [if_pos (show i < 0 ∨ i ≥ ((t.siz : Nat) : Int) by omega), hD]
    (refine ⟨(by first | exact .inl rfl | exact .inr rfl), res2 rfl ?_ ?_⟩)
    · exact rv_cA inferInstance inferInstance rfl rfl rfl rfl rfl rfl
    · exact rv_bool rfl rfl
  · have hD : decide (0 ≤ i ∧ i < ((t.siz : Nat) : Int)) = false := decide_eq_false (by omega)
    rw [if_pos (show i < 0 ∨ i ≥ ((t.siz : Nat) : Int) by omega), hD]
    (refine ⟨(by first | exact .inl rfl | exact .inr rfl), res2 rfl ?_ ?_⟩)
    · exact rv_cA inferInstance inferInstance rfl rfl rfl rfl rfl rfl
    · exact rv_bool rfl rfl
  · have hD : decide (0 ≤ i ∧ i < ((t.siz : Nat) : Int)) = true := decide_eq_true (by omega)
    rw [if_neg (show ¬ (i < 0 ∨ i ≥ ((t.siz : Nat) : Int)) by omega), hD]
    clear h1 h2
    obtain ⟨j, rfl⟩ : ∃ j : Nat, i = j := ⟨i.toNat, by omega⟩
    rw [Int.toNat_natCast]
    generalize hR : atT t j = R
    refine AW_loopP (X := Tr × Nat) (fun u => u.2 < u.1.siz ∧ u.1.siz ≤ 1000000 ∧ atT u.1 u.2 = R) (fun u => mkSt [(1, iC .i64 (u.2 : Nat)), (4, .ptr 4 0 0), (6, .per (trP u.1))] [(4, .box 35 (itCs it00))]) (fun u => u.1.siz) (t, j) ⟨by simp only; omega, by simp only; omega, hR⟩ ?_ ?_
    · exact le_auto
    · intro u ⟨hj, hb, hu⟩
      obtain ⟨u, i⟩ := u
      simp only at hj hb hu ⊢
      cases u with
      | nil => simp [Tr.siz] at hj
      | node l y p r =>
        have h3 := tr_count l
        simp only [atT] at hu
        simp only [Tr.siz] at hj hb
        rw [trP_node]
        (repeat' (first | refine AW_seq ?_ | refine AW_block ?_ | refine AW_skip ?_ | refine AW_exit ?_ | refine AW_ret ?_ | refine AW_region ?_ | refine AW_draw mixed0 ?_ | refine AL_nil ?_ | refine AD_nil (by kernel_rfl) ?_ | (refine AW_cl rfl rfl ⟨fun hc => ?_, fun hc => ?_⟩ <;> (repeat rw [List.length_map] at hc) <;> (try exact absd hc)) | ((first | apply AL_t rfl | apply AL_0 rfl | apply AD_t rfl | apply AD_0 rfl); focus (first | exact z_auto | exact c_A (h3) | ((apply u_k 5; (focus rfl); first | exact u_load_bpT ⟨rfl, rfl, rfl⟩ rfl inferInstance inferInstance rfl rfl rfl rfl | exact u_load_rpT ⟨rfl, rfl, rfl⟩ rfl inferInstance inferInstance rfl rfl rfl rfl)) | (apply u_g; (focus rfl); apply op_gyes rfl rfl rfl rfl rfl; ((apply u_k 5; (focus rfl); first | exact u_load_bpT ⟨rfl, rfl, rfl⟩ rfl inferInstance inferInstance rfl rfl rfl rfl | exact u_load_rpT ⟨rfl, rfl, rfl⟩ rfl inferInstance inferInstance rfl rfl rfl rfl))) | fail)) | refine thenA_n ?_ | refine thenA_r ?_ | refine thenA_e ?_ | refine inB_n ?_ | refine inB_r ?_ | refine inB_hit ?_ | refine inB_miss rfl ?_ | ((first | refine AL_cl rfl rfl rfl ⟨fun hc => ?_, fun hc => ?_⟩ | refine AD_cl rfl rfl rfl ⟨fun hc => ?_, fun hc => ?_⟩) <;> (fail_if_success (have q : (true = true) := hc)) <;> (fail_if_success (have q : (false = false) := hc)) <;> (repeat rw [List.length_map] at hc) <;> (try exact absd hc)) | refine AW_cond_nil rfl rfl (fun hc => ?_) ?_))
        · rw [if_pos (by omega)] at hu
          refine ⟨(l, i), ⟨by simp only; omega, by simp only; omega, hu⟩, by simp only [Tr.siz]; omega, ?_⟩
          exact le_auto
        · rw [if_neg (by omega), if_pos (by omega)] at hu
          refine ⟨(r, i - (l.siz + 1)), ⟨by simp only; omega, by simp only; omega, hu⟩, by simp only [Tr.siz]; omega, ?_⟩
          exact le_auto
        · rw [if_neg (by omega), if_neg (by omega)] at hu
          subst hu
          (refine ⟨(by first | exact .inl rfl | exact .inr rfl), res2 rfl ?_ ?_⟩)
          · exact rv_cA inferInstance inferInstance rfl rfl rfl rfl rfl rfl
          · exact rv_bool rfl rfl
/-- how many keys stand ahead of a text, and the sum of their hashes -/
def aheadT : Tr → ByteArray → Nat × Int
  | .nil, _ => (0, 0)
  | .node l y p r, k => if cmpB y.key k < 0 then ((aheadT r k).1 + (1 + l.siz), (aheadT r k).2 + (p + l.tot)) else aheadT l k
theorem aheadT_le : ∀ (t : Tr) (k : ByteArray), (aheadT t k).1 ≤ t.siz
  | .nil, _ => Nat.le_refl _
  | .node l y p r, k => by
    have h1 := aheadT_le l k
    have h2 := aheadT_le r k
    rw [aheadT]
    simp only [Tr.siz]
    split <;> (try simp only) <;> omega
theorem wu_mod (x : Int) : IntKind.u64.wrap x = x % 18446744073709551616 := by simp [IntKind.wrap, IntKind.bits, IntKind.signed]
def Tr.lst : Tr → List It
  | .nil => []
  | .node l x _ r => l.lst ++ x :: r.lst
theorem tree_ahead (t : Tr) (s b : Int) (k : ByteArray) (hs : t.siz ≤ 1000000) (hw : ∀ x ∈ t.lst, x.key.size ≤ 1000000000) : Fn Try.prog 44 [.per (treeP t s b), sC k] (.tup2 (inR (((aheadT t k).1 : Nat) : Int)) (.per (rawP (.int .u64 (IntKind.u64.wrap (aheadT t k).2))))) := by
  have h1 := tree_top t s b
  have hM := aheadT_le t k
  generalize hR : aheadT t k = R at *
  generalize treeP t s b = T at *
  refine fn_intro Try.func44 rfl (by kernel_rfl) Try.ntmps44 (Nat.le_of_ble_eq_true rfl) ?_
  (repeat' (first | refine AW_seq ?_ | refine AW_block ?_ | refine AW_skip ?_ | refine AW_exit ?_ | refine AW_ret ?_ | refine AW_region ?_ | refine AW_draw mixed0 ?_ | refine AL_nil ?_ | refine AD_nil (by kernel_rfl) ?_ | (refine AW_cl rfl rfl ⟨fun hc => ?_, fun hc => ?_⟩ <;> (repeat rw [List.length_map] at hc) <;> (try exact absd hc)) | ((first | apply AL_t rfl | apply AL_0 rfl | apply AD_t rfl | apply AD_0 rfl); focus (first | exact z_auto | exact c_A (h1) | fail)) | refine thenA_n ?_ | refine thenA_r ?_ | refine thenA_e ?_ | refine inB_n ?_ | refine inB_r ?_ | refine inB_hit ?_ | refine inB_miss rfl ?_ | ((first | refine AL_cl rfl rfl rfl ⟨fun hc => ?_, fun hc => ?_⟩ | refine AD_cl rfl rfl rfl ⟨fun hc => ?_, fun hc => ?_⟩) <;> (fail_if_success (have q : (true = true) := hc)) <;> (fail_if_success (have q : (false = false) := hc)) <;> (repeat rw [List.length_map] at hc) <;> (try exact absd hc)) | refine AW_cond_nil rfl rfl (fun hc => ?_) ?_))
  refine AW_loopP (X := Tr × Nat × Int) (fun u => (∀ x ∈ u.1.lst, x.key.size ≤ 1000000000) ∧ u.2.1 + (aheadT u.1 k).1 = R.1 ∧ IntKind.u64.wrap (u.2.2 + (aheadT u.1 k).2) = IntKind.u64.wrap R.2 ∧ IntKind.u64.wrap u.2.2 = u.2.2) (fun u => mkSt [(1, sC k), (4, iC .i64 0), (5, iC .u64 0), (6, iC .i64 (u.2.1 : Nat)), (7, iC .u64 u.2.2), (8, .per (trP u.1))] []) (fun u => u.1.siz) (t, 0, 0) ⟨hw, by simp [hR], by simp [hR], by simp [wu_mod]⟩ ?_ ?_
  · exact le_auto
  · intro u ⟨hw, e1, e2, e3⟩
    obtain ⟨u, m, z⟩ := u
    simp only at e1 e2 e3 hw ⊢
    cases u with
    | nil =>
      simp only [aheadT, Int.add_zero, Nat.add_zero] at e1 e2
      rw [e3] at e2
      subst e1
      subst e2
      show AW _ _ _ _ (mkSt [(1, sC k), (4, iC .i64 0), (5, iC .u64 0), (6, iC .i64 (R.1 : Nat)), (7, iC .u64 _), (8, .per (rawP (.pointer none)))] [])
      (repeat' (first | refine AW_seq ?_ | refine AW_block ?_ | refine AW_skip ?_ | refine AW_exit ?_ | refine AW_ret ?_ | refine AW_region ?_ | refine AW_draw mixed0 ?_ | refine AL_nil ?_ | refine AD_nil (by kernel_rfl) ?_ | (refine AW_cl rfl rfl ⟨fun hc => ?_, fun hc => ?_⟩ <;> (repeat rw [List.length_map] at hc) <;> (try exact absd hc)) | ((first | apply AL_t rfl | apply AL_0 rfl | apply AD_t rfl | apply AD_0 rfl); focus (first | exact z_auto | fail)) | refine thenA_n ?_ | refine thenA_r ?_ | refine thenA_e ?_ | refine inB_n ?_ | refine inB_r ?_ | refine inB_hit ?_ | refine inB_miss rfl ?_ | ((first | refine AL_cl rfl rfl rfl ⟨fun hc => ?_, fun hc => ?_⟩ | refine AD_cl rfl rfl rfl ⟨fun hc => ?_, fun hc => ?_⟩) <;> (fail_if_success (have q : (true = true) := hc)) <;> (fail_if_success (have q : (false = false) := hc)) <;> (repeat rw [List.length_map] at hc) <;> (try exact absd hc)) | refine AW_cond_nil rfl rfl (fun hc => ?_) ?_))
      (refine ⟨(by first | exact .inl rfl | exact .inr rfl), res2 rfl ?_ ?_⟩)
      · exact rv_int rfl rfl
      · exact rv_per rfl
    | node l y p r =>
      have h3 := key_Cmp y.key k (by have := hw y (by simp [Tr.lst]); omega)
      have h4 := tr_count l
      have h5 := tr_total l
      simp only [aheadT] at e1 e2
      rw [trP_node]
      by_cases c1 : cmpB y.key k < 0
      · rw [if_pos c1] at e1 e2
        simp only at e1 e2
        have e4 : (m : Int) + (1 + (l.siz : Nat)) = ((m + (1 + l.siz) : Nat) : Int) := by omega
        (repeat' (first | refine AW_seq ?_ | refine AW_block ?_ | refine AW_skip ?_ | refine AW_exit ?_ | refine AW_ret ?_ | refine AW_region ?_ | refine AW_draw mixed0 ?_ | refine AL_nil ?_ | refine AD_nil (by kernel_rfl) ?_ | (refine AW_cl rfl rfl ⟨fun hc => ?_, fun hc => ?_⟩ <;> (repeat rw [List.length_map] at hc) <;> (try exact absd hc)) | ((first | apply AL_t rfl | apply AL_0 rfl | apply AD_t rfl | apply AD_0 rfl); focus (first | ((apply u_k 8; (focus rfl); exact op_num ⟨rfl, rfl, rfl⟩ rfl rfl rfl rfl ((wrap_id64 (by omega) (by omega)).trans e4))) | (apply u_g; (focus rfl); apply op_gyes rfl rfl rfl rfl rfl; ((apply u_k 8; (focus rfl); exact op_num ⟨rfl, rfl, rfl⟩ rfl rfl rfl rfl ((wrap_id64 (by omega) (by omega)).trans e4)))) | exact z_auto | exact c_A (h3) | exact c_A (h4) | exact c_A (h5) | fail)) | refine thenA_n ?_ | refine thenA_r ?_ | refine thenA_e ?_ | refine inB_n ?_ | refine inB_r ?_ | refine inB_hit ?_ | refine inB_miss rfl ?_ | ((first | refine AL_cl rfl rfl rfl ⟨fun hc => ?_, fun hc => ?_⟩ | refine AD_cl rfl rfl rfl ⟨fun hc => ?_, fun hc => ?_⟩) <;> (fail_if_success (have q : (true = true) := hc)) <;> (fail_if_success (have q : (false = false) := hc)) <;> (repeat rw [List.length_map] at hc) <;> (try exact absd hc)) | refine AW_cond_nil rfl rfl (fun hc => ?_) ?_))
        refine ⟨(r, m + (1 + l.siz), IntKind.u64.wrap (z + IntKind.u64.wrap (p + l.tot))), ⟨fun x hx => hw x (by simp [Tr.lst, hx]), by simp only; omega, ?_, by simp only [wu_mod]; omega⟩, by simp only [Tr.siz]; omega, ?_⟩
        · rw [← e2]
          simp only [wu_mod]
          omega
        · exact le_auto
      · rw [if_neg c1] at e1 e2
        (repeat' (first | refine AW_seq ?_ | refine AW_block ?_ | refine AW_skip ?_ | refine AW_exit ?_ | refine AW_ret ?_ | refine AW_region ?_ | refine AW_draw mixed0 ?_ | refine AL_nil ?_ | refine AD_nil (by kernel_rfl) ?_ | (refine AW_cl rfl rfl ⟨fun hc => ?_, fun hc => ?_⟩ <;> (repeat rw [List.length_map] at hc) <;> (try exact absd hc)) | ((first | apply AL_t rfl | apply AL_0 rfl | apply AD_t rfl | apply AD_0 rfl); focus (first | exact z_auto | exact c_A (h3) | exact c_A (h4) | exact c_A (h5) | fail)) | refine thenA_n ?_ | refine thenA_r ?_ | refine thenA_e ?_ | refine inB_n ?_ | refine inB_r ?_ | refine inB_hit ?_ | refine inB_miss rfl ?_ | ((first | refine AL_cl rfl rfl rfl ⟨fun hc => ?_, fun hc => ?_⟩ | refine AD_cl rfl rfl rfl ⟨fun hc => ?_, fun hc => ?_⟩) <;> (fail_if_success (have q : (true = true) := hc)) <;> (fail_if_success (have q : (false = false) := hc)) <;> (repeat rw [List.length_map] at hc) <;> (try exact absd hc)) | refine AW_cond_nil rfl rfl (fun hc => ?_) ?_))
        refine ⟨(l, m, z), ⟨fun x hx => hw x (by simp [Tr.lst, hx]), e1, e2, e3⟩, by simp only [Tr.siz]; omega, ?_⟩
        exact le_auto
theorem tree_Ahead (t : Tr) (s b : Int) (k : ByteArray) (hs : t.siz ≤ 1000000) (hw : ∀ x ∈ t.lst, x.key.size ≤ 1000000000) : Fn Try.prog 21 [.per (treeP t s b), sC k] (inR (((aheadT t k).1 : Nat) : Int)) := by
  have h1 := tree_ahead t s b k hs hw
  generalize treeP t s b = T at *
  refine fn_intro Try.func21 rfl (by kernel_rfl) Try.ntmps21 (Nat.le_of_ble_eq_true rfl) ?_
  (repeat' (first | refine AW_seq ?_ | refine AW_block ?_ | refine AW_skip ?_ | refine AW_exit ?_ | refine AW_ret ?_ | refine AW_region ?_ | refine AW_draw mixed0 ?_ | refine AL_nil ?_ | refine AD_nil (by kernel_rfl) ?_ | (refine AW_cl rfl rfl ⟨fun hc => ?_, fun hc => ?_⟩ <;> (repeat rw [List.length_map] at hc) <;> (try exact absd hc)) | ((first | apply AL_t rfl | apply AL_0 rfl | apply AD_t rfl | apply AD_0 rfl); focus (first | exact z_auto | exact c_A (h1) | fail)) | refine thenA_n ?_ | refine thenA_r ?_ | refine thenA_e ?_ | refine inB_n ?_ | refine inB_r ?_ | refine inB_hit ?_ | refine inB_miss rfl ?_ | ((first | refine AL_cl rfl rfl rfl ⟨fun hc => ?_, fun hc => ?_⟩ | refine AD_cl rfl rfl rfl ⟨fun hc => ?_, fun hc => ?_⟩) <;> (fail_if_success (have q : (true = true) := hc)) <;> (fail_if_success (have q : (false = false) := hc)) <;> (repeat rw [List.length_map] at hc) <;> (try exact absd hc)) | refine AW_cond_nil rfl rfl (fun hc => ?_) ?_))
  (refine ⟨(by first | exact .inl rfl | exact .inr rfl), res1 rfl ?_⟩)
  exact rv_int rfl rfl
/-- how many a range has, and their sum -/
def ofT (t : Tr) (r : Rg) : Int × Int :=
  if rgR r then (if r.op then (((t.siz : Nat) : Int) - (((aheadT t r.lo).1 : Nat) : Int), IntKind.u64.wrap (t.tot - IntKind.u64.wrap (aheadT t r.lo).2))
    else ((((aheadT t r.hi).1 : Nat) : Int) - (((aheadT t r.lo).1 : Nat) : Int), IntKind.u64.wrap (IntKind.u64.wrap (aheadT t r.hi).2 - IntKind.u64.wrap (aheadT t r.lo).2)))
  else (0, 0)
theorem tree_of (t : Tr) (s b : Int) (r : Rg) (hs : t.siz ≤ 1000000) (hw : ∀ x ∈ t.lst, x.key.size ≤ 1000000000) : Fn Try.prog 35 [.per (treeP t s b), rgC r] (.tup2 (inR (ofT t r).1) (.per (rawP (.int .u64 (ofT t r).2)))) := by
  have h0 := span_Right r
  have h1 := tree_top t s b
  have h2 := tr_count t
  have h3 := tr_total t
  have h4 := tree_ahead t s b r.lo hs hw
  have h5 := tree_ahead t s b r.hi hs hw
  have l4 := aheadT_le t r.lo
  have l5 := aheadT_le t r.hi
  generalize hO : ofT t r = O
  unfold ofT at hO
  generalize treeP t s b = T at *
  obtain ⟨lo, hi, op⟩ := r
  simp only at *
  by_cases c : rgR ⟨lo, hi, op⟩ = true
  · rw [if_pos c] at hO
    cases op with
    | true =>
      rw [if_pos rfl] at hO
      subst hO
      refine fn_intro Try.func35 rfl (by kernel_rfl) Try.ntmps35 (Nat.le_of_ble_eq_true rfl) ?_
      (repeat' (first | refine AW_seq ?_ | refine AW_block ?_ | refine AW_skip ?_ | refine AW_exit ?_ | refine AW_ret ?_ | refine AW_region ?_ | refine AW_draw mixed0 ?_ | refine AL_nil ?_ | refine AD_nil (by kernel_rfl) ?_ | (refine AW_cl rfl rfl ⟨fun hc => ?_, fun hc => ?_⟩ <;> (repeat rw [List.length_map] at hc) <;> (try exact absd hc)) | ((first | apply AL_t rfl | apply AL_0 rfl | apply AD_t rfl | apply AD_0 rfl); focus (first | exact z_auto | exact c_A (h0) | exact c_A (h1) | exact c_A (h2) | exact c_A (h3) | exact c_A (h4) | fail)) | refine thenA_n ?_ | refine thenA_r ?_ | refine thenA_e ?_ | refine inB_n ?_ | refine inB_r ?_ | refine inB_hit ?_ | refine inB_miss rfl ?_ | ((first | refine AL_cl rfl rfl rfl ⟨fun hc => ?_, fun hc => ?_⟩ | refine AD_cl rfl rfl rfl ⟨fun hc => ?_, fun hc => ?_⟩) <;> (fail_if_success (have q : (true = true) := hc)) <;> (fail_if_success (have q : (false = false) := hc)) <;> (repeat rw [List.length_map] at hc) <;> (try exact absd hc)) | refine AW_cond_nil rfl rfl (fun hc => ?_) ?_))
      (refine ⟨(by first | exact .inl rfl | exact .inr rfl), res2 rfl ?_ ?_⟩)
      · exact rv_int rfl rfl
      · exact rv_per rfl
    | false =>
      rw [if_neg (by simp)] at hO
      subst hO
      refine fn_intro Try.func35 rfl (by kernel_rfl) Try.ntmps35 (Nat.le_of_ble_eq_true rfl) ?_
      (repeat' (first | refine AW_seq ?_ | refine AW_block ?_ | refine AW_skip ?_ | refine AW_exit ?_ | refine AW_ret ?_ | refine AW_region ?_ | refine AW_draw mixed0 ?_ | refine AL_nil ?_ | refine AD_nil (by kernel_rfl) ?_ | (refine AW_cl rfl rfl ⟨fun hc => ?_, fun hc => ?_⟩ <;> (repeat rw [List.length_map] at hc) <;> (try exact absd hc)) | ((first | apply AL_t rfl | apply AL_0 rfl | apply AD_t rfl | apply AD_0 rfl); focus (first | exact z_auto | exact c_A (h0) | exact c_A (h1) | exact c_A (h2) | exact c_A (h3) | ((refine c_F (h4) (hg := ?_); ((repeat (first | exact GL.nil | (refine GL.cons ?_ ?_; focus (first | exact gl_per rfl | exact gl_lst rfl | exact gl_row rfl rfl rfl | exact gl_bor rfl | exact gl_nil rfl | exact gl_nil' rfl)))); done))) | (apply u_g; (focus rfl); apply op_gyes rfl rfl rfl rfl rfl; ((refine c_F (h4) (hg := ?_); ((repeat (first | exact GL.nil | (refine GL.cons ?_ ?_; focus (first | exact gl_per rfl | exact gl_lst rfl | exact gl_row rfl rfl rfl | exact gl_bor rfl | exact gl_nil rfl | exact gl_nil' rfl)))); done)))) | ((refine c_F (h5) (hg := ?_); ((repeat (first | exact GL.nil | (refine GL.cons ?_ ?_; focus (first | exact gl_per rfl | exact gl_lst rfl | exact gl_row rfl rfl rfl | exact gl_bor rfl | exact gl_nil rfl | exact gl_nil' rfl)))); done))) | (apply u_g; (focus rfl); apply op_gyes rfl rfl rfl rfl rfl; ((refine c_F (h5) (hg := ?_); ((repeat (first | exact GL.nil | (refine GL.cons ?_ ?_; focus (first | exact gl_per rfl | exact gl_lst rfl | exact gl_row rfl rfl rfl | exact gl_bor rfl | exact gl_nil rfl | exact gl_nil' rfl)))); done)))) | fail)) | refine thenA_n ?_ | refine thenA_r ?_ | refine thenA_e ?_ | refine inB_n ?_ | refine inB_r ?_ | refine inB_hit ?_ | refine inB_miss rfl ?_ | ((first | refine AL_cl rfl rfl rfl ⟨fun hc => ?_, fun hc => ?_⟩ | refine AD_cl rfl rfl rfl ⟨fun hc => ?_, fun hc => ?_⟩) <;> (fail_if_success (have q : (true = true) := hc)) <;> (fail_if_success (have q : (false = false) := hc)) <;> (repeat rw [List.length_map] at hc) <;> (try exact absd hc)) | refine AW_cond_nil rfl rfl (fun hc => ?_) ?_))
      (refine ⟨(by first | exact .inl rfl | exact .inr rfl), res2 rfl ?_ ?_⟩)
      · exact rv_int rfl rfl
      · exact rv_per rfl
  · rw [if_neg c] at hO
    subst hO
    refine fn_intro Try.func35 rfl (by kernel_rfl) Try.ntmps35 (Nat.le_of_ble_eq_true rfl) ?_
    (repeat' (first | refine AW_seq ?_ | refine AW_block ?_ | refine AW_skip ?_ | refine AW_exit ?_ | refine AW_ret ?_ | refine AW_region ?_ | refine AW_draw mixed0 ?_ | refine AL_nil ?_ | refine AD_nil (by kernel_rfl) ?_ | (refine AW_cl rfl rfl ⟨fun hc => ?_, fun hc => ?_⟩ <;> (repeat rw [List.length_map] at hc) <;> (try exact absd hc)) | ((first | apply AL_t rfl | apply AL_0 rfl | apply AD_t rfl | apply AD_0 rfl); focus (first | exact z_auto | exact c_A (h0) | fail)) | refine thenA_n ?_ | refine thenA_r ?_ | refine thenA_e ?_ | refine inB_n ?_ | refine inB_r ?_ | refine inB_hit ?_ | refine inB_miss rfl ?_ | ((first | refine AL_cl rfl rfl rfl ⟨fun hc => ?_, fun hc => ?_⟩ | refine AD_cl rfl rfl rfl ⟨fun hc => ?_, fun hc => ?_⟩) <;> (fail_if_success (have q : (true = true) := hc)) <;> (fail_if_success (have q : (false = false) := hc)) <;> (repeat rw [List.length_map] at hc) <;> (try exact absd hc)) | refine AW_cond_nil rfl rfl (fun hc => ?_) ?_))
    (refine ⟨(by first | exact .inl rfl | exact .inr rfl), res2 rfl ?_ ?_⟩)
    · exact rv_int rfl rfl
    · exact rv_per rfl
theorem ofT_u64 (t : Tr) (r : Rg) : 0 ≤ (ofT t r).2 ∧ (ofT t r).2 < 18446744073709551616 := by
  unfold ofT
  simp only [wu_mod]
  split
  · split <;> constructor <;> (try simp only) <;> omega
  · decide
theorem tree_Count (t : Tr) (s b : Int) (r : Rg) (hs : t.siz ≤ 1000000) (hw : ∀ x ∈ t.lst, x.key.size ≤ 1000000000) : Fn Try.prog 15 [.per (treeP t s b), rgC r] (inR (ofT t r).1) := by
  have h1 := tree_of t s b r hs hw
  generalize treeP t s b = T at *
  obtain ⟨lo, hi, op⟩ := r
  refine fn_intro Try.func15 rfl (by kernel_rfl) Try.ntmps15 (Nat.le_of_ble_eq_true rfl) ?_
  (repeat' (first | refine AW_seq ?_ | refine AW_block ?_ | refine AW_skip ?_ | refine AW_exit ?_ | refine AW_ret ?_ | refine AW_region ?_ | refine AW_draw mixed0 ?_ | refine AL_nil ?_ | refine AD_nil (by kernel_rfl) ?_ | (refine AW_cl rfl rfl ⟨fun hc => ?_, fun hc => ?_⟩ <;> (repeat rw [List.length_map] at hc) <;> (try exact absd hc)) | ((first | apply AL_t rfl | apply AL_0 rfl | apply AD_t rfl | apply AD_0 rfl); focus (first | exact z_auto | exact c_A (h1) | fail)) | refine thenA_n ?_ | refine thenA_r ?_ | refine thenA_e ?_ | refine inB_n ?_ | refine inB_r ?_ | refine inB_hit ?_ | refine inB_miss rfl ?_ | ((first | refine AL_cl rfl rfl rfl ⟨fun hc => ?_, fun hc => ?_⟩ | refine AD_cl rfl rfl rfl ⟨fun hc => ?_, fun hc => ?_⟩) <;> (fail_if_success (have q : (true = true) := hc)) <;> (fail_if_success (have q : (false = false) := hc)) <;> (repeat rw [List.length_map] at hc) <;> (try exact absd hc)) | refine AW_cond_nil rfl rfl (fun hc => ?_) ?_))
  (refine ⟨(by first | exact .inl rfl | exact .inr rfl), res1 rfl ?_⟩)
  exact rv_int rfl rfl
theorem tree_Sum (t : Tr) (s b : Int) (r : Rg) (hs : t.siz ≤ 1000000) (hw : ∀ x ∈ t.lst, x.key.size ≤ 1000000000) : Fn Try.prog 14 [.per (treeP t s b), rgC r] (.per (rawP (.int .u64 (cut (ofT t r).2 b)))) := by
  have h1 := tree_of t s b r hs hw
  have h2 := hash_Cut (ofT t r).2 b (ofT_u64 t r).1 (ofT_u64 t r).2
  unfold treeP at *
  obtain ⟨lo, hi, op⟩ := r
  refine fn_intro Try.func14 rfl (by kernel_rfl) Try.ntmps14 (Nat.le_of_ble_eq_true rfl) ?_
  (repeat' (first | refine AW_seq ?_ | refine AW_block ?_ | refine AW_skip ?_ | refine AW_exit ?_ | refine AW_ret ?_ | refine AW_region ?_ | refine AW_draw mixed0 ?_ | refine AL_nil ?_ | refine AD_nil (by kernel_rfl) ?_ | (refine AW_cl rfl rfl ⟨fun hc => ?_, fun hc => ?_⟩ <;> (repeat rw [List.length_map] at hc) <;> (try exact absd hc)) | ((first | apply AL_t rfl | apply AL_0 rfl | apply AD_t rfl | apply AD_0 rfl); focus (first | exact z_auto | exact c_A (h1) | exact c_A (h2) | fail)) | refine thenA_n ?_ | refine thenA_r ?_ | refine thenA_e ?_ | refine inB_n ?_ | refine inB_r ?_ | refine inB_hit ?_ | refine inB_miss rfl ?_ | ((first | refine AL_cl rfl rfl rfl ⟨fun hc => ?_, fun hc => ?_⟩ | refine AD_cl rfl rfl rfl ⟨fun hc => ?_, fun hc => ?_⟩) <;> (fail_if_success (have q : (true = true) := hc)) <;> (fail_if_success (have q : (false = false) := hc)) <;> (repeat rw [List.length_map] at hc) <;> (try exact absd hc)) | refine AW_cond_nil rfl rfl (fun hc => ?_) ?_))
  (refine ⟨(by first | exact .inl rfl | exact .inr rfl), res1 rfl ?_⟩)
  exact rv_per rfl
theorem tree_New (s b : Int) : FnM Try.prog 10 [iC .u64 s, iC .i64 b] [] (.ptr 3000 0 0) [(3000, .box 51 [.row 3001 0, iC .u64 s, iC .i64 b]), (3001, .obj (trO .nil))] := by
  refine fnm_intro Try.func10 rfl (by kernel_rfl) Try.ntmps10 (Nat.le_of_ble_eq_true rfl) ?_
  (repeat' (first | refine AW_seq ?_ | refine AW_block ?_ | refine AW_skip ?_ | refine AW_exit ?_ | refine AW_ret ?_ | refine AW_region ?_ | refine AW_draw mixed0 ?_ | refine AL_nil ?_ | refine AD_nil (by kernel_rfl) ?_ | (refine AW_cl rfl rfl ⟨fun hc => ?_, fun hc => ?_⟩ <;> (repeat rw [List.length_map] at hc) <;> (try exact absd hc)) | ((first | apply AL_t rfl | apply AL_0 rfl | apply AD_t rfl | apply AD_0 rfl); focus (first | exact z_auto | fail)) | refine thenA_n ?_ | refine thenA_r ?_ | refine thenA_e ?_ | refine inB_n ?_ | refine inB_r ?_ | refine inB_hit ?_ | refine inB_miss rfl ?_ | ((first | refine AL_cl rfl rfl rfl ⟨fun hc => ?_, fun hc => ?_⟩ | refine AD_cl rfl rfl rfl ⟨fun hc => ?_, fun hc => ?_⟩) <;> (fail_if_success (have q : (true = true) := hc)) <;> (fail_if_success (have q : (false = false) := hc)) <;> (repeat rw [List.length_map] at hc) <;> (try exact absd hc)) | refine AW_cond_nil rfl rfl (fun hc => ?_) ?_))
  refine ⟨.inl rfl, ResM_le (Le_objB 8 0 2000 51 (u := .pointer none) (cells := [.per (rawP (.pointer none)), iC .u64 s, iC .i64 b]) rfl rfl rfl rfl) ?_⟩
  refine resM1 [(8, 3000), (2000, 3001)] rfl rfl ?_ (rvm rfl rfl)
  (repeat (first | exact AllX.nil | (refine AllX.cons rfl ?_ ?_; (focus first | rfl | skip))))
abbrev treeB (s b : Int) : Blk := .box 51 [.row 2000 0, iC .u64 s, iC .i64 b]
theorem tree_Put0 (t : Tr) (s b : Int) (x : It) (hx : itR x = false) : FnM Try.prog 11 [.ptr 1000 0 0, itC x] [(1000, treeB s b), (2000, .obj (trO t))] (.per (rawP (.bool false))) [(1000, treeB s b), (2000, .obj (trO t))] := by
  have h1 := item_Right x
  refine fnm_intro Try.func11 rfl (by kernel_rfl) Try.ntmps11 (Nat.le_of_ble_eq_true rfl) ?_
  (repeat' (first | refine AW_seq ?_ | refine AW_block ?_ | refine AW_skip ?_ | refine AW_exit ?_ | refine AW_ret ?_ | refine AW_region ?_ | refine AW_draw mixed0 ?_ | refine AL_nil ?_ | refine AD_nil (by kernel_rfl) ?_ | (refine AW_cl rfl rfl ⟨fun hc => ?_, fun hc => ?_⟩ <;> (repeat rw [List.length_map] at hc) <;> (try exact absd hc)) | ((first | apply AL_t rfl | apply AL_0 rfl | apply AD_t rfl | apply AD_0 rfl); focus (first | exact z_auto | exact c_A (h1) | fail)) | refine thenA_n ?_ | refine thenA_r ?_ | refine thenA_e ?_ | refine inB_n ?_ | refine inB_r ?_ | refine inB_hit ?_ | refine inB_miss rfl ?_ | ((first | refine AL_cl rfl rfl rfl ⟨fun hc => ?_, fun hc => ?_⟩ | refine AD_cl rfl rfl rfl ⟨fun hc => ?_, fun hc => ?_⟩) <;> (fail_if_success (have q : (true = true) := hc)) <;> (fail_if_success (have q : (false = false) := hc)) <;> (repeat rw [List.length_map] at hc) <;> (try exact absd hc)) | refine AW_cond_nil rfl rfl (fun hc => ?_) ?_))
  all_goals
    refine ⟨.inl rfl, resM1 [(1000, 1000), (2000, 2000)] rfl rfl ?_ (rvm_bool rfl rfl)⟩
    (repeat (first | exact AllX.nil | (refine AllX.cons rfl ?_ ?_; (focus first | rfl | skip))))
theorem tree_Put1 (t : Tr) (s b : Int) (x : It) (hx : itR x = true) (hs : t.siz ≤ 900000) (hkx : x.key.size ≤ 1000000000) : FnM Try.prog 11 [.ptr 1000 0 0, itC x] [(1000, treeB s b), (2000, .obj (trO t))] (.per (rawP (.bool true))) [(1000, treeB s b), (2000, .obj (trO (putT t x (hItem s x))))] := by
  have h1 := item_Right x
  have h2 := hash_Item s x
  have h3 := tr_put t x (hItem s x) hs hkx
  refine fnm_intro Try.func11 rfl (by kernel_rfl) Try.ntmps11 (Nat.le_of_ble_eq_true rfl) ?_
  (repeat' (first | refine AW_seq ?_ | refine AW_block ?_ | refine AW_skip ?_ | refine AW_exit ?_ | refine AW_ret ?_ | refine AW_region ?_ | refine AW_draw mixed0 ?_ | refine AL_nil ?_ | refine AD_nil (by kernel_rfl) ?_ | (refine AW_cl rfl rfl ⟨fun hc => ?_, fun hc => ?_⟩ <;> (repeat rw [List.length_map] at hc) <;> (try exact absd hc)) | ((first | apply AL_t rfl | apply AL_0 rfl | apply AD_t rfl | apply AD_0 rfl); focus (first | exact z_auto | exact c_A (h1) | exact c_A (h2) | exact c_MA [(2000, 2000), (3000, 2020)] (h3) | fail)) | refine thenA_n ?_ | refine thenA_r ?_ | refine thenA_e ?_ | refine inB_n ?_ | refine inB_r ?_ | refine inB_hit ?_ | refine inB_miss rfl ?_ | ((first | refine AL_cl rfl rfl rfl ⟨fun hc => ?_, fun hc => ?_⟩ | refine AD_cl rfl rfl rfl ⟨fun hc => ?_, fun hc => ?_⟩) <;> (fail_if_success (have q : (true = true) := hc)) <;> (fail_if_success (have q : (false = false) := hc)) <;> (repeat rw [List.length_map] at hc) <;> (try exact absd hc)) | refine AW_cond_nil rfl rfl (fun hc => ?_) ?_))
  all_goals
    refine ⟨.inl rfl, resM1 [(1000, 1000), (2020, 2000)] rfl rfl ?_ (rvm_bool rfl rfl)⟩
    (repeat (first | exact AllX.nil | (refine AllX.cons rfl ?_ ?_; (focus first | rfl | skip))))
theorem tree_Drop0 (t : Tr) (s b : Int) (k : ByteArray) (hk : k.size ≤ 1000000000) (hh : hasT t k = false) : FnM Try.prog 23 [.ptr 1000 0 0, sC k] [(1000, treeB s b), (2000, .obj (trO t))] (.per (rawP (.bool false))) [(1000, treeB s b), (2000, .obj (trO t))] := by
  have h1 := tree_Get t s b k hk
  rw [getT_has, hh] at h1
  generalize (getT t k).getD it00 = X at *
  unfold treeP at h1
  refine fnm_intro Try.func23 rfl (by kernel_rfl) Try.ntmps23 (Nat.le_of_ble_eq_true rfl) ?_
  (repeat' (first | refine AW_seq ?_ | refine AW_block ?_ | refine AW_skip ?_ | refine AW_exit ?_ | refine AW_ret ?_ | refine AW_region ?_ | refine AW_draw mixed0 ?_ | refine AL_nil ?_ | refine AD_nil (by kernel_rfl) ?_ | (refine AW_cl rfl rfl ⟨fun hc => ?_, fun hc => ?_⟩ <;> (repeat rw [List.length_map] at hc) <;> (try exact absd hc)) | ((first | apply AL_t rfl | apply AL_0 rfl | apply AD_t rfl | apply AD_0 rfl); focus (first | exact z_auto | ((refine c_P (ids := [1000, 2000]) (h1) (hg := ?_); ((repeat (first | exact GPl.nil | (refine GPl.cons ?_ ?_; focus (first | exact gpq_per rfl | exact gpq_lst rfl | exact gpq_obj rfl rfl rfl (lends_tr _) rfl | (refine gpq_box rfl rfl rfl rfl ?_; (focus (repeat (first | exact SeesL.nil | (refine SeesL.cons ?_ ?_; (focus (first | exact Sees.per | exact Sees.obj rfl rfl (lends_tr _) rfl | exact Sees.row rfl rfl rfl))))))))))); done))) | (apply u_g; (focus rfl); apply op_gyes rfl rfl rfl rfl rfl; ((refine c_P (ids := [1000, 2000]) (h1) (hg := ?_); ((repeat (first | exact GPl.nil | (refine GPl.cons ?_ ?_; focus (first | exact gpq_per rfl | exact gpq_lst rfl | exact gpq_obj rfl rfl rfl (lends_tr _) rfl | (refine gpq_box rfl rfl rfl rfl ?_; (focus (repeat (first | exact SeesL.nil | (refine SeesL.cons ?_ ?_; (focus (first | exact Sees.per | exact Sees.obj rfl rfl (lends_tr _) rfl | exact Sees.row rfl rfl rfl))))))))))); done)))) | fail)) | refine thenA_n ?_ | refine thenA_r ?_ | refine thenA_e ?_ | refine inB_n ?_ | refine inB_r ?_ | refine inB_hit ?_ | refine inB_miss rfl ?_ | ((first | refine AL_cl rfl rfl rfl ⟨fun hc => ?_, fun hc => ?_⟩ | refine AD_cl rfl rfl rfl ⟨fun hc => ?_, fun hc => ?_⟩) <;> (fail_if_success (have q : (true = true) := hc)) <;> (fail_if_success (have q : (false = false) := hc)) <;> (repeat rw [List.length_map] at hc) <;> (try exact absd hc)) | refine AW_cond_nil rfl rfl (fun hc => ?_) ?_))
  refine ⟨.inl rfl, resM1 [(1000, 1000), (2000, 2000)] rfl rfl ?_ (rvm_bool rfl rfl)⟩
  (repeat (first | exact AllX.nil | (refine AllX.cons rfl ?_ ?_; (focus first | rfl | skip))))
theorem tree_Drop1 (t : Tr) (s b : Int) (k : ByteArray) (hk : k.size ≤ 1000000000) (hs : t.siz ≤ 900000) (hh : hasT t k = true) : FnM Try.prog 23 [.ptr 1000 0 0, sC k] [(1000, treeB s b), (2000, .obj (trO t))] (.per (rawP (.bool true))) [(1000, treeB s b), (2000, .obj (trO (dropT t k)))] := by
  have h1 := tree_Get t s b k hk
  rw [getT_has, hh] at h1
  generalize (getT t k).getD it00 = X at *
  have h3 := tr_drop t k hs hk hh
  unfold treeP at h1
  refine fnm_intro Try.func23 rfl (by kernel_rfl) Try.ntmps23 (Nat.le_of_ble_eq_true rfl) ?_
  (repeat' (first | refine AW_seq ?_ | refine AW_block ?_ | refine AW_skip ?_ | refine AW_exit ?_ | refine AW_ret ?_ | refine AW_region ?_ | refine AW_draw mixed0 ?_ | refine AL_nil ?_ | refine AD_nil (by kernel_rfl) ?_ | (refine AW_cl rfl rfl ⟨fun hc => ?_, fun hc => ?_⟩ <;> (repeat rw [List.length_map] at hc) <;> (try exact absd hc)) | ((first | apply AL_t rfl | apply AL_0 rfl | apply AD_t rfl | apply AD_0 rfl); focus (first | exact z_auto | ((refine c_P (ids := [1000, 2000]) (h1) (hg := ?_); ((repeat (first | exact GPl.nil | (refine GPl.cons ?_ ?_; focus (first | exact gpq_per rfl | exact gpq_lst rfl | exact gpq_obj rfl rfl rfl (lends_tr _) rfl | (refine gpq_box rfl rfl rfl rfl ?_; (focus (repeat (first | exact SeesL.nil | (refine SeesL.cons ?_ ?_; (focus (first | exact Sees.per | exact Sees.obj rfl rfl (lends_tr _) rfl | exact Sees.row rfl rfl rfl))))))))))); done))) | (apply u_g; (focus rfl); apply op_gyes rfl rfl rfl rfl rfl; ((refine c_P (ids := [1000, 2000]) (h1) (hg := ?_); ((repeat (first | exact GPl.nil | (refine GPl.cons ?_ ?_; focus (first | exact gpq_per rfl | exact gpq_lst rfl | exact gpq_obj rfl rfl rfl (lends_tr _) rfl | (refine gpq_box rfl rfl rfl rfl ?_; (focus (repeat (first | exact SeesL.nil | (refine SeesL.cons ?_ ?_; (focus (first | exact Sees.per | exact Sees.obj rfl rfl (lends_tr _) rfl | exact Sees.row rfl rfl rfl))))))))))); done)))) | exact c_MA [(2000, 2000), (3000, 2020)] (h3) | fail)) | refine thenA_n ?_ | refine thenA_r ?_ | refine thenA_e ?_ | refine inB_n ?_ | refine inB_r ?_ | refine inB_hit ?_ | refine inB_miss rfl ?_ | ((first | refine AL_cl rfl rfl rfl ⟨fun hc => ?_, fun hc => ?_⟩ | refine AD_cl rfl rfl rfl ⟨fun hc => ?_, fun hc => ?_⟩) <;> (fail_if_success (have q : (true = true) := hc)) <;> (fail_if_success (have q : (false = false) := hc)) <;> (repeat rw [List.length_map] at hc) <;> (try exact absd hc)) | refine AW_cond_nil rfl rfl (fun hc => ?_) ?_))
  refine ⟨.inl rfl, resM1 [(1000, 1000), (2020, 2000)] rfl rfl ?_ (rvm_bool rfl rfl)⟩
  (repeat (first | exact AllX.nil | (refine AllX.cons rfl ?_ ?_; (focus first | rfl | skip))))
end
end Go.Proofs.Ytpndnlnjgnckdaa
