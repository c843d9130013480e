/- item.Merge, item.Wins; the references' Best. -/
import Derived.Test.YtbpmafpmlapekaaSymM
namespace Go.Proofs.Ytbpmafpmlapekaa
open Go.RowKit
def zIt : It := ⟨⟨#[]⟩, 0, 0, 0, 0, false, ⟨#[]⟩⟩
def bstF (b : Option (Nat × It)) (i : Nat) (x : It) : Option (Nat × It) := if itR x then (match b with
  | none => some (i, x)
  | some p => if cmpI x p.2 > 0 then some (i, x) else some p) else b
def bstGo : Nat → Option (Nat × It) → List It → Option (Nat × It)
  | _, b, [] => b
  | i, b, x :: r => bstGo (i + 1) (bstF b i x) r
def zo : Option (Nat × It) → It
  | none => zIt
  | some p => p.2
def ao : Option (Nat × It) → Int
  | none => -1
  | some p => (p.1 : Nat)
/-- the best one is one of the list, and right -/
def bOk (l : List It) (b : Option (Nat × It)) : Prop := ∀ p, b = some p → l[p.1]? = some p.2 ∧ itR p.2 = true
theorem bstF_ok {l : List It} {b : Option (Nat × It)} {i : Nat} (hi : i < l.length) (h : bOk l b) : bOk l (bstF b i l[i]) := by
  intro p hp
  unfold bstF at hp
  split at hp
  · rename_i hr
    cases b with
    | none => simp at hp; subst hp; exact ⟨by simp [hi], hr⟩
    | some q =>
      simp only at hp
      split at hp
      · cases hp; exact ⟨by simp [hi], hr⟩
      · cases hp; exact h _ rfl
  · exact h _ hp
theorem bstGo_ok {l : List It} : ∀ (r : List It) (i : Nat) (b : Option (Nat × It)), l.drop i = r → bOk l b → bOk l (bstGo i b r) := by
  intro r
  induction r with
  | nil => intro i b _ h; exact h
  | cons x r ih =>
    intro i b hd h
    have hi : i < l.length := by
      rcases Nat.lt_or_ge i l.length with q | q
      · exact q
      · rw [List.drop_eq_nil_of_le q] at hd; cases hd
    rw [List.drop_eq_getElem_cons hi] at hd
    cases hd
    exact ih (i + 1) _ rfl (bstF_ok hi h)
theorem toL_inj (s u : ByteArray) : s.toList = u.toList ↔ s = u := by
  rw [← sbeq, beq_toListBytes, beq_iff_eq]
theorem zIt_ne {y : It} (h : itR y = true) : itE y zIt = false := by
  rw [← Bool.not_eq_true, itE_iff]
  rintro rfl
  revert h; decide
section
set_option maxRecDepth 10000
set_option maxHeartbeats 4000000
theorem item_Wins (l : List It) (hl : l.length ≤ 1000000000) : Fn Try.prog 75 [itsB l] (.tup2 (.per (aggP (itP (zo (bstGo 0 none l))))) (.per (rawP (.bool (bstGo 0 none l).isSome)))) := by
  have hbk : bOk l (bstGo 0 none l) := bstGo_ok l 0 none rfl (fun p h => by cases h)
  generalize hR : bstGo 0 none l = R at *
  refine fn_intro Try.func75 rfl (by kernel_rfl) Try.ntmps75 (Nat.le_of_ble_eq_true rfl) ?_
  (repeat' (first | refine AW_seq ?_ | refine AW_block ?_ | refine AW_skip ?_ | refine AW_exit ?_ | refine AW_ret ?_ | refine AW_region ?_ | refine AW_draw mixed0 ?_ | refine AL_nil ?_ | refine AD_nil (by kernel_rfl) ?_ | (refine AW_cl rfl rfl ⟨fun hc => ?_, fun hc => ?_⟩ <;> (repeat rw [List.length_map] at hc) <;> (try exact absd hc)) | ((first | apply AL_t rfl | apply AL_0 rfl | apply AD_t rfl | apply AD_0 rfl); focus (first | exact z_auto | fail)) | refine thenA_n ?_ | refine thenA_r ?_ | refine thenA_e ?_ | refine inB_n ?_ | refine inB_r ?_ | refine inB_hit ?_ | refine inB_miss rfl ?_ | ((first | refine AL_cl rfl rfl rfl ⟨fun hc => ?_, fun hc => ?_⟩ | refine AD_cl rfl rfl rfl ⟨fun hc => ?_, fun hc => ?_⟩) <;> (fail_if_success (have q : (true = true) := hc)) <;> (fail_if_success (have q : (false = false) := hc)) <;> (repeat rw [List.length_map] at hc) <;> (try exact absd hc)) | refine AW_cond_nil rfl rfl (fun hc => ?_) ?_))
  refine AW_loopP (X := Nat × Option (Nat × It)) (fun x => x.1 ≤ l.length ∧ bOk l x.2 ∧ bstGo x.1 x.2 (l.drop x.1) = R)
    (fun x => mkSt [(2, .ptr 2 0 0), (4, .ptr 4 0 0), (7, itsB l), (8, iC .i64 (l.length : Nat)), (9, iC .i64 (x.1 : Nat))] [(2, .box 62 ((itP zIt).map .per)), (4, .box 62 ((itP (zo x.2)).map .per))]) (fun x => l.length - x.1) (0, none) ⟨Nat.zero_le _, (fun p h => by cases h), hR⟩ ?_ ?_
  · exact le_auto
  · rintro ⟨k, b⟩ ⟨h1, h2, h3⟩
    simp only at h1 h2 h3 ⊢
    by_cases hlt : k < l.length
    · have hir := item_Right l[k]
      rw [List.drop_eq_getElem_cons hlt, bstGo] at h3
      have h4 := bstF_ok hlt h2
      unfold bstF at h3 h4
      cases hr : itR l[k] with
      | false =>
        rw [hr] at hir h3 h4
        simp only [Bool.false_eq_true, if_false] at h3 h4
        (repeat' (first | refine AW_seq ?_ | refine AW_block ?_ | refine AW_skip ?_ | refine AW_exit ?_ | refine AW_ret ?_ | refine AW_region ?_ | refine AW_draw mixed0 ?_ | refine AL_nil ?_ | refine AD_nil (by kernel_rfl) ?_ | (refine AW_cl rfl rfl ⟨fun hc => ?_, fun hc => ?_⟩ <;> (repeat rw [List.length_map] at hc) <;> (try exact absd hc)) | ((first | apply AL_t rfl | apply AL_0 rfl | apply AD_t rfl | apply AD_0 rfl); focus (first | exact z_auto | exact c_A (hir) | fail)) | refine thenA_n ?_ | refine thenA_r ?_ | refine thenA_e ?_ | refine inB_n ?_ | refine inB_r ?_ | refine inB_hit ?_ | refine inB_miss rfl ?_ | ((first | refine AL_cl rfl rfl rfl ⟨fun hc => ?_, fun hc => ?_⟩ | refine AD_cl rfl rfl rfl ⟨fun hc => ?_, fun hc => ?_⟩) <;> (fail_if_success (have q : (true = true) := hc)) <;> (fail_if_success (have q : (false = false) := hc)) <;> (repeat rw [List.length_map] at hc) <;> (try exact absd hc)) | refine AW_cond_nil rfl rfl (fun hc => ?_) ?_))
        refine ⟨(k + 1, b), ⟨by simp only; omega, h4, h3⟩, by simp only; omega, ?_⟩
        exact le_auto
      | true =>
        rw [hr] at hir h3 h4
        simp only [if_true] at h3 h4
        cases b with
        | none =>
          have hE : eqO Try.prog 10000 62 (encIt zIt) (encIt zIt) = some true := by rw [itE_o, (itE_iff _ _).2 rfl]
          simp only [zo] at h3 h4 ⊢
          (repeat' (first | refine AW_seq ?_ | refine AW_block ?_ | refine AW_skip ?_ | refine AW_exit ?_ | refine AW_ret ?_ | refine AW_region ?_ | refine AW_draw mixed0 ?_ | refine AL_nil ?_ | refine AD_nil (by kernel_rfl) ?_ | (refine AW_cl rfl rfl ⟨fun hc => ?_, fun hc => ?_⟩ <;> (repeat rw [List.length_map] at hc) <;> (try exact absd hc)) | ((first | apply AL_t rfl | apply AL_0 rfl | apply AD_t rfl | apply AD_0 rfl); focus (first | exact z_auto | exact c_A (hir) | (exact op_eqA (us := encIt zIt) (vs := encIt zIt) ⟨rfl, rfl, rfl⟩ rfl rfl rfl (by first | exact .inl ⟨rfl, rfl⟩ | exact .inr ⟨rfl, rfl⟩) itG rfl hE) | (apply u_g; (focus rfl); apply op_gyes rfl rfl rfl rfl rfl; (exact op_eqA (us := encIt zIt) (vs := encIt zIt) ⟨rfl, rfl, rfl⟩ rfl rfl rfl (by first | exact .inl ⟨rfl, rfl⟩ | exact .inr ⟨rfl, rfl⟩) itG rfl hE)) | fail)) | refine thenA_n ?_ | refine thenA_r ?_ | refine thenA_e ?_ | refine inB_n ?_ | refine inB_r ?_ | refine inB_hit ?_ | refine inB_miss rfl ?_ | ((first | refine AL_cl rfl rfl rfl ⟨fun hc => ?_, fun hc => ?_⟩ | refine AD_cl rfl rfl rfl ⟨fun hc => ?_, fun hc => ?_⟩) <;> (fail_if_success (have q : (true = true) := hc)) <;> (fail_if_success (have q : (false = false) := hc)) <;> (repeat rw [List.length_map] at hc) <;> (try exact absd hc)) | refine AW_cond_nil rfl rfl (fun hc => ?_) ?_))
          refine ⟨(k + 1, some (k, l[k])), ⟨by simp only; omega, h4, h3⟩, by simp only; omega, ?_⟩
          simp only
          exact le_auto
        | some p =>
          have hE : eqO Try.prog 10000 62 (encIt p.2) (encIt zIt) = some false := by rw [itE_o, zIt_ne (h2 _ rfl).2]
          have hcm := item_Cmp l[k] p.2
          simp only [zo] at h3 h4 ⊢
          (repeat' (first | refine AW_seq ?_ | refine AW_block ?_ | refine AW_skip ?_ | refine AW_exit ?_ | refine AW_ret ?_ | refine AW_region ?_ | refine AW_draw mixed0 ?_ | refine AL_nil ?_ | refine AD_nil (by kernel_rfl) ?_ | (refine AW_cl rfl rfl ⟨fun hc => ?_, fun hc => ?_⟩ <;> (repeat rw [List.length_map] at hc) <;> (try exact absd hc)) | ((first | apply AL_t rfl | apply AL_0 rfl | apply AD_t rfl | apply AD_0 rfl); focus (first | exact z_auto | exact c_A (hir) | exact c_A (hcm) | (exact op_eqA (us := encIt p.2) (vs := encIt zIt) ⟨rfl, rfl, rfl⟩ rfl rfl rfl (by first | exact .inl ⟨rfl, rfl⟩ | exact .inr ⟨rfl, rfl⟩) itG rfl hE) | (apply u_g; (focus rfl); apply op_gyes rfl rfl rfl rfl rfl; (exact op_eqA (us := encIt p.2) (vs := encIt zIt) ⟨rfl, rfl, rfl⟩ rfl rfl rfl (by first | exact .inl ⟨rfl, rfl⟩ | exact .inr ⟨rfl, rfl⟩) itG rfl hE)) | fail)) | refine thenA_n ?_ | refine thenA_r ?_ | refine thenA_e ?_ | refine inB_n ?_ | refine inB_r ?_ | refine inB_hit ?_ | refine inB_miss rfl ?_ | ((first | refine AL_cl rfl rfl rfl ⟨fun hc => ?_, fun hc => ?_⟩ | refine AD_cl rfl rfl rfl ⟨fun hc => ?_, fun hc => ?_⟩) <;> (fail_if_success (have q : (true = true) := hc)) <;> (fail_if_success (have q : (false = false) := hc)) <;> (repeat rw [List.length_map] at hc) <;> (try exact absd hc)) | refine AW_cond_nil rfl rfl (fun hc => ?_) ?_))
          · rw [if_pos (by omega)] at h3 h4
            refine ⟨(k + 1, some (k, l[k])), ⟨by simp only; omega, h4, h3⟩, by simp only; omega, ?_⟩
            simp only
            exact le_auto
          · rw [if_neg (by omega)] at h3 h4
            refine ⟨(k + 1, some p), ⟨by simp only; omega, h4, h3⟩, by simp only; omega, ?_⟩
            simp only
            exact le_auto
    · have hkl : k = l.length := by omega
      subst hkl
      rw [List.drop_length, bstGo] at h3
      subst h3
      have hE : eqO Try.prog 10000 62 (encIt (zo b)) (encIt zIt) = some (!b.isSome) := by
        rw [itE_o]
        cases b with
        | none => simp only [zo]; rw [(itE_iff _ _).2 rfl]; rfl
        | some p => simp only [zo]; rw [zIt_ne (h2 _ rfl).2]; rfl
      (repeat' (first | refine AW_seq ?_ | refine AW_block ?_ | refine AW_skip ?_ | refine AW_exit ?_ | refine AW_ret ?_ | refine AW_region ?_ | refine AW_draw mixed0 ?_ | refine AL_nil ?_ | refine AD_nil (by kernel_rfl) ?_ | (refine AW_cl rfl rfl ⟨fun hc => ?_, fun hc => ?_⟩ <;> (repeat rw [List.length_map] at hc) <;> (try exact absd hc)) | ((first | apply AL_t rfl | apply AL_0 rfl | apply AD_t rfl | apply AD_0 rfl); focus (first | exact z_auto | (exact op_eqA (us := encIt (zo b)) (vs := encIt zIt) ⟨rfl, rfl, rfl⟩ rfl rfl rfl (by first | exact .inl ⟨rfl, rfl⟩ | exact .inr ⟨rfl, rfl⟩) itG rfl hE) | (apply u_g; (focus rfl); apply op_gyes rfl rfl rfl rfl rfl; (exact op_eqA (us := encIt (zo b)) (vs := encIt zIt) ⟨rfl, rfl, rfl⟩ rfl rfl rfl (by first | exact .inl ⟨rfl, rfl⟩ | exact .inr ⟨rfl, rfl⟩) itG rfl hE)) | fail)) | refine thenA_n ?_ | refine thenA_r ?_ | refine thenA_e ?_ | refine inB_n ?_ | refine inB_r ?_ | refine inB_hit ?_ | refine inB_miss rfl ?_ | ((first | refine AL_cl rfl rfl rfl ⟨fun hc => ?_, fun hc => ?_⟩ | refine AD_cl rfl rfl rfl ⟨fun hc => ?_, fun hc => ?_⟩) <;> (fail_if_success (have q : (true = true) := hc)) <;> (fail_if_success (have q : (false = false) := hc)) <;> (repeat rw [List.length_map] at hc) <;> (try exact absd hc)) | refine AW_cond_nil rfl rfl (fun hc => ?_) ?_))
      (refine ⟨(by first | exact .inl rfl | exact .inr rfl), res2 rfl ?_ ?_⟩)
      · exact rv_cA inferInstance inferInstance rfl rfl rfl rfl rfl rfl
      · exact rv_bool rfl (by simp)
theorem ref_Best (l : List It) (s : ByteArray) (hl : l.length ≤ 1000000000) : Fn Try.prog 83 [itsB l, sC s, bC true] (inR (ao (bstGo 0 none l))) := by
  generalize hR : bstGo 0 none l = R at *
  refine fn_intro Try.func83 rfl (by kernel_rfl) Try.ntmps83 (Nat.le_of_ble_eq_true rfl) ?_
  (repeat' (first | refine AW_seq ?_ | refine AW_block ?_ | refine AW_skip ?_ | refine AW_exit ?_ | refine AW_ret ?_ | refine AW_region ?_ | refine AW_draw mixed0 ?_ | refine AL_nil ?_ | refine AD_nil (by kernel_rfl) ?_ | (refine AW_cl rfl rfl ⟨fun hc => ?_, fun hc => ?_⟩ <;> (repeat rw [List.length_map] at hc) <;> (try exact absd hc)) | ((first | apply AL_t rfl | apply AL_0 rfl | apply AD_t rfl | apply AD_0 rfl); focus (first | exact z_auto | fail)) | refine thenA_n ?_ | refine thenA_r ?_ | refine thenA_e ?_ | refine inB_n ?_ | refine inB_r ?_ | refine inB_hit ?_ | refine inB_miss rfl ?_ | ((first | refine AL_cl rfl rfl rfl ⟨fun hc => ?_, fun hc => ?_⟩ | refine AD_cl rfl rfl rfl ⟨fun hc => ?_, fun hc => ?_⟩) <;> (fail_if_success (have q : (true = true) := hc)) <;> (fail_if_success (have q : (false = false) := hc)) <;> (repeat rw [List.length_map] at hc) <;> (try exact absd hc)) | refine AW_cond_nil rfl rfl (fun hc => ?_) ?_))
  refine AW_loopP (X := Nat × Option (Nat × It)) (fun x => x.1 ≤ l.length ∧ bOk l x.2 ∧ bstGo x.1 x.2 (l.drop x.1) = R)
    (fun x => mkSt [(0, itsB l), (1, sC s), (2, bC true), (7, iC .i64 (ao x.2)), (8, iC .i64 (x.1 : Nat))] []) (fun x => l.length - x.1) (0, none) ⟨Nat.zero_le _, (fun p h => by cases h), hR⟩ ?_ ?_
  · exact le_auto
  · rintro ⟨k, b⟩ ⟨h1, h2, h3⟩
    simp only at h1 h2 h3 ⊢
    by_cases hlt : k < l.length
    · have hir := ritem_Right l[k]
      rw [List.drop_eq_getElem_cons hlt, bstGo] at h3
      have h4 := bstF_ok hlt h2
      unfold bstF at h3 h4
      cases hr : itR l[k] with
      | false =>
        rw [hr] at hir h3 h4
        simp only [Bool.false_eq_true, if_false] at h3 h4
        (repeat' (first | refine AW_seq ?_ | refine AW_block ?_ | refine AW_skip ?_ | refine AW_exit ?_ | refine AW_ret ?_ | refine AW_region ?_ | refine AW_draw mixed0 ?_ | refine AL_nil ?_ | refine AD_nil (by kernel_rfl) ?_ | (refine AW_cl rfl rfl ⟨fun hc => ?_, fun hc => ?_⟩ <;> (repeat rw [List.length_map] at hc) <;> (try exact absd hc)) | ((first | apply AL_t rfl | apply AL_0 rfl | apply AD_t rfl | apply AD_0 rfl); focus (first | exact z_auto | exact c_A (hir) | fail)) | refine thenA_n ?_ | refine thenA_r ?_ | refine thenA_e ?_ | refine inB_n ?_ | refine inB_r ?_ | refine inB_hit ?_ | refine inB_miss rfl ?_ | ((first | refine AL_cl rfl rfl rfl ⟨fun hc => ?_, fun hc => ?_⟩ | refine AD_cl rfl rfl rfl ⟨fun hc => ?_, fun hc => ?_⟩) <;> (fail_if_success (have q : (true = true) := hc)) <;> (fail_if_success (have q : (false = false) := hc)) <;> (repeat rw [List.length_map] at hc) <;> (try exact absd hc)) | refine AW_cond_nil rfl rfl (fun hc => ?_) ?_))
        refine ⟨(k + 1, b), ⟨by simp only; omega, h4, h3⟩, by simp only; omega, ?_⟩
        exact le_auto
      | true =>
        rw [hr] at hir h3 h4
        simp only [if_true] at h3 h4
        cases b with
        | none =>
          simp only [ao] at h3 h4 ⊢
          (repeat' (first | refine AW_seq ?_ | refine AW_block ?_ | refine AW_skip ?_ | refine AW_exit ?_ | refine AW_ret ?_ | refine AW_region ?_ | refine AW_draw mixed0 ?_ | refine AL_nil ?_ | refine AD_nil (by kernel_rfl) ?_ | (refine AW_cl rfl rfl ⟨fun hc => ?_, fun hc => ?_⟩ <;> (repeat rw [List.length_map] at hc) <;> (try exact absd hc)) | ((first | apply AL_t rfl | apply AL_0 rfl | apply AD_t rfl | apply AD_0 rfl); focus (first | exact z_auto | exact c_A (hir) | fail)) | refine thenA_n ?_ | refine thenA_r ?_ | refine thenA_e ?_ | refine inB_n ?_ | refine inB_r ?_ | refine inB_hit ?_ | refine inB_miss rfl ?_ | ((first | refine AL_cl rfl rfl rfl ⟨fun hc => ?_, fun hc => ?_⟩ | refine AD_cl rfl rfl rfl ⟨fun hc => ?_, fun hc => ?_⟩) <;> (fail_if_success (have q : (true = true) := hc)) <;> (fail_if_success (have q : (false = false) := hc)) <;> (repeat rw [List.length_map] at hc) <;> (try exact absd hc)) | refine AW_cond_nil rfl rfl (fun hc => ?_) ?_))
          refine ⟨(k + 1, some (k, l[k])), ⟨by simp only; omega, h4, h3⟩, by simp only; omega, ?_⟩
          simp only
          exact le_auto
        | some p =>
          obtain ⟨j, y⟩ := p
          have hjy := (h2 _ rfl).1
          simp only at hjy
          obtain ⟨hj, hy⟩ := List.getElem?_eq_some_iff.1 hjy
          subst hy
          have hcm := ref_Beats l[k] l[j]
          unfold beats at hcm
          simp only [ao] at h3 h4 ⊢
          (repeat' (first | refine AW_seq ?_ | refine AW_block ?_ | refine AW_skip ?_ | refine AW_exit ?_ | refine AW_ret ?_ | refine AW_region ?_ | refine AW_draw mixed0 ?_ | refine AL_nil ?_ | refine AD_nil (by kernel_rfl) ?_ | (refine AW_cl rfl rfl ⟨fun hc => ?_, fun hc => ?_⟩ <;> (repeat rw [List.length_map] at hc) <;> (try exact absd hc)) | ((first | apply AL_t rfl | apply AL_0 rfl | apply AD_t rfl | apply AD_0 rfl); focus (first | exact z_auto | exact c_A (hir) | exact c_A (hcm) | fail)) | refine thenA_n ?_ | refine thenA_r ?_ | refine thenA_e ?_ | refine inB_n ?_ | refine inB_r ?_ | refine inB_hit ?_ | refine inB_miss rfl ?_ | ((first | refine AL_cl rfl rfl rfl ⟨fun hc => ?_, fun hc => ?_⟩ | refine AD_cl rfl rfl rfl ⟨fun hc => ?_, fun hc => ?_⟩) <;> (fail_if_success (have q : (true = true) := hc)) <;> (fail_if_success (have q : (false = false) := hc)) <;> (repeat rw [List.length_map] at hc) <;> (try exact absd hc)) | refine AW_cond_nil rfl rfl (fun hc => ?_) ?_))
          · rw [if_pos (by omega)] at h3 h4
            refine ⟨(k + 1, some (k, l[k])), ⟨by simp only; omega, h4, h3⟩, by simp only; omega, ?_⟩
            simp only
            exact le_auto
          · rw [if_neg (by omega)] at h3 h4
            refine ⟨(k + 1, some (j, l[j])), ⟨by simp only; omega, h4, h3⟩, by simp only; omega, ?_⟩
            simp only
            exact le_auto
    · have hkl : k = l.length := by omega
      subst hkl
      rw [List.drop_length, bstGo] at h3
      subst h3
      (repeat' (first | refine AW_seq ?_ | refine AW_block ?_ | refine AW_skip ?_ | refine AW_exit ?_ | refine AW_ret ?_ | refine AW_region ?_ | refine AW_draw mixed0 ?_ | refine AL_nil ?_ | refine AD_nil (by kernel_rfl) ?_ | (refine AW_cl rfl rfl ⟨fun hc => ?_, fun hc => ?_⟩ <;> (repeat rw [List.length_map] at hc) <;> (try exact absd hc)) | ((first | apply AL_t rfl | apply AL_0 rfl | apply AD_t rfl | apply AD_0 rfl); focus (first | exact z_auto | fail)) | refine thenA_n ?_ | refine thenA_r ?_ | refine thenA_e ?_ | refine inB_n ?_ | refine inB_r ?_ | refine inB_hit ?_ | refine inB_miss rfl ?_ | ((first | refine AL_cl rfl rfl rfl ⟨fun hc => ?_, fun hc => ?_⟩ | refine AD_cl rfl rfl rfl ⟨fun hc => ?_, fun hc => ?_⟩) <;> (fail_if_success (have q : (true = true) := hc)) <;> (fail_if_success (have q : (false = false) := hc)) <;> (repeat rw [List.length_map] at hc) <;> (try exact absd hc)) | refine AW_cond_nil rfl rfl (fun hc => ?_) ?_))
      (refine ⟨(by first | exact .inl rfl | exact .inr rfl), res1 rfl ?_⟩)
      exact rv_int rfl rfl
abbrev lsB (ls : List (List It)) : Cnt := .bor 1 (ls.map fun l => [itsP l])
abbrev ownI (l : List It) : Ret := .own 62 7 (l.map itP)
theorem item_Merge (ls : List (List It)) (hl : (ls.flatten.filter itR).length ≤ 100000000) (hn : ls.length ≤ 1000000000) (hm : ∀ l ∈ ls, l.length ≤ 1000000000) : Fn Try.prog 28 [lsB ls] (ownI (mergeK ls)) := by
  generalize hT : ls.flatten.filter itR = T at *
  have hTr : ∀ x ∈ T, itR x = true := fun x hx => by rw [← hT] at hx; exact (List.mem_filter.1 hx).2
  have hs := sort_stable_any T (kOk_right hTr) hl
  generalize hR : mergeK ls = R
  unfold mergeK at hR
  rw [hT] at hR
  have hql := srtK_len T
  generalize srtK T = Q at *
  refine fn_intro Try.func28 rfl (by kernel_rfl) Try.ntmps28 (Nat.le_of_ble_eq_true rfl) ?_
  (repeat' (first | refine AW_seq ?_ | refine AW_block ?_ | refine AW_skip ?_ | refine AW_exit ?_ | refine AW_ret ?_ | refine AW_region ?_ | refine AW_draw mixed0 ?_ | refine AL_nil ?_ | refine AD_nil (by kernel_rfl) ?_ | (refine AW_cl rfl rfl ⟨fun hc => ?_, fun hc => ?_⟩ <;> (repeat rw [List.length_map] at hc) <;> (try exact absd hc)) | ((first | apply AL_t rfl | apply AL_0 rfl | apply AD_t rfl | apply AD_0 rfl); focus (first | exact z_auto | fail)) | refine thenA_n ?_ | refine thenA_r ?_ | refine thenA_e ?_ | refine inB_n ?_ | refine inB_r ?_ | refine inB_hit ?_ | refine inB_miss rfl ?_ | ((first | refine AL_cl rfl rfl rfl ⟨fun hc => ?_, fun hc => ?_⟩ | refine AD_cl rfl rfl rfl ⟨fun hc => ?_, fun hc => ?_⟩) <;> (fail_if_success (have q : (true = true) := hc)) <;> (fail_if_success (have q : (false = false) := hc)) <;> (repeat rw [List.length_map] at hc) <;> (try exact absd hc)) | refine AW_cond_nil rfl rfl (fun hc => ?_) ?_))
  refine AW_le (Le_nil 3 600 62 7 rfl rfl) ?_
  refine AW_loopP (X := Nat × List It) (fun x => x.1 ≤ ls.length ∧ x.2 ++ (ls.drop x.1).flatten.filter itR = T)
    (fun x => mkSt [(3, .row 600 0), (12, lsB ls), (13, iC .i64 (ls.length : Nat)), (14, iC .i64 (x.1 : Nat))] [(600, itsW x.2)]) (fun x => ls.length - x.1) (0, []) ⟨Nat.zero_le _, by simp [hT]⟩ ?_ ?_
  · exact le_auto
  · rintro ⟨i, acc⟩ ⟨h1, h2⟩
    simp only at h1 h2 ⊢
    by_cases hlt : i < ls.length
    · have hml := hm _ (List.getElem_mem hlt)
      rw [List.drop_eq_getElem_cons hlt, List.flatten_cons, List.filter_append] at h2
      (repeat' (first | refine AW_seq ?_ | refine AW_block ?_ | refine AW_skip ?_ | refine AW_exit ?_ | refine AW_ret ?_ | refine AW_region ?_ | refine AW_draw mixed0 ?_ | refine AL_nil ?_ | refine AD_nil (by kernel_rfl) ?_ | (refine AW_cl rfl rfl ⟨fun hc => ?_, fun hc => ?_⟩ <;> (repeat rw [List.length_map] at hc) <;> (try exact absd hc)) | ((first | apply AL_t rfl | apply AL_0 rfl | apply AD_t rfl | apply AD_0 rfl); focus (first | exact z_auto | fail)) | refine thenA_n ?_ | refine thenA_r ?_ | refine thenA_e ?_ | refine inB_n ?_ | refine inB_r ?_ | refine inB_hit ?_ | refine inB_miss rfl ?_ | ((first | refine AL_cl rfl rfl rfl ⟨fun hc => ?_, fun hc => ?_⟩ | refine AD_cl rfl rfl rfl ⟨fun hc => ?_, fun hc => ?_⟩) <;> (fail_if_success (have q : (true = true) := hc)) <;> (fail_if_success (have q : (false = false) := hc)) <;> (repeat rw [List.length_map] at hc) <;> (try exact absd hc)) | refine AW_cond_nil rfl rfl (fun hc => ?_) ?_))
      refine AW_loopP (X := Nat × List It) (fun x => x.1 ≤ ls[i].length ∧ x.2 ++ ((ls[i].drop x.1).filter itR ++ (ls.drop (i + 1)).flatten.filter itR) = T)
        (fun x => mkSt [(3, .row 600 0), (12, lsB ls), (13, iC .i64 (ls.length : Nat)), (14, iC .i64 (i : Nat)), (18, .per (itsP ls[i])), (19, iC .i64 (ls[i].length : Nat)), (20, iC .i64 (x.1 : Nat))] [(600, itsW x.2)]) (fun x => ls[i].length - x.1) (0, acc) ⟨Nat.zero_le _, by simpa using h2⟩ ?_ ?_
      · exact le_auto
      · rintro ⟨k, ac⟩ ⟨g1, g2⟩
        simp only at g1 g2 ⊢
        by_cases hk : k < ls[i].length
        · have hir := item_Right ls[i][k]
          have hlen : ac.length ≤ 100000000 := by
            have := congrArg List.length g2
            simp only [List.length_append] at this; omega
          rw [List.drop_eq_getElem_cons hk, List.filter_cons] at g2
          cases hr : itR ls[i][k] with
          | false =>
            rw [hr] at hir g2
            (repeat' (first | refine AW_seq ?_ | refine AW_block ?_ | refine AW_skip ?_ | refine AW_exit ?_ | refine AW_ret ?_ | refine AW_region ?_ | refine AW_draw mixed0 ?_ | refine AL_nil ?_ | refine AD_nil (by kernel_rfl) ?_ | (refine AW_cl rfl rfl ⟨fun hc => ?_, fun hc => ?_⟩ <;> (repeat rw [List.length_map] at hc) <;> (try exact absd hc)) | ((first | apply AL_t rfl | apply AL_0 rfl | apply AD_t rfl | apply AD_0 rfl); focus (first | exact z_auto | exact c_A (hir) | fail)) | refine thenA_n ?_ | refine thenA_r ?_ | refine thenA_e ?_ | refine inB_n ?_ | refine inB_r ?_ | refine inB_hit ?_ | refine inB_miss rfl ?_ | ((first | refine AL_cl rfl rfl rfl ⟨fun hc => ?_, fun hc => ?_⟩ | refine AD_cl rfl rfl rfl ⟨fun hc => ?_, fun hc => ?_⟩) <;> (fail_if_success (have q : (true = true) := hc)) <;> (fail_if_success (have q : (false = false) := hc)) <;> (repeat rw [List.length_map] at hc) <;> (try exact absd hc)) | refine AW_cond_nil rfl rfl (fun hc => ?_) ?_))
            refine ⟨(k + 1, ac), ⟨by simp only; omega, by simpa using g2⟩, by simp only; omega, ?_⟩
            exact le_auto
          | true =>
            rw [hr] at hir g2
            (repeat' (first | refine AW_seq ?_ | refine AW_block ?_ | refine AW_skip ?_ | refine AW_exit ?_ | refine AW_ret ?_ | refine AW_region ?_ | refine AW_draw mixed0 ?_ | refine AL_nil ?_ | refine AD_nil (by kernel_rfl) ?_ | (refine AW_cl rfl rfl ⟨fun hc => ?_, fun hc => ?_⟩ <;> (repeat rw [List.length_map] at hc) <;> (try exact absd hc)) | ((first | apply AL_t rfl | apply AL_0 rfl | apply AD_t rfl | apply AD_0 rfl); focus (first | exact z_auto | exact c_A (hir) | fail)) | refine thenA_n ?_ | refine thenA_r ?_ | refine thenA_e ?_ | refine inB_n ?_ | refine inB_r ?_ | refine inB_hit ?_ | refine inB_miss rfl ?_ | ((first | refine AL_cl rfl rfl rfl ⟨fun hc => ?_, fun hc => ?_⟩ | refine AD_cl rfl rfl rfl ⟨fun hc => ?_, fun hc => ?_⟩) <;> (fail_if_success (have q : (true = true) := hc)) <;> (fail_if_success (have q : (false = false) := hc)) <;> (repeat rw [List.length_map] at hc) <;> (try exact absd hc)) | refine AW_cond_nil rfl rfl (fun hc => ?_) ?_))
            refine ⟨(k + 1, ac ++ [ls[i][k]]), ⟨by simp only; omega, by simpa using g2⟩, by simp only; omega, Le_trans (Le_mv 600 601) (Le_trans (Le_mv 601 600) ?_)⟩
            exact le_auto
        · have hkl : k = ls[i].length := by omega
          rw [hkl, List.drop_length, List.filter_nil, List.nil_append] at g2
          (repeat' (first | refine AW_seq ?_ | refine AW_block ?_ | refine AW_skip ?_ | refine AW_exit ?_ | refine AW_ret ?_ | refine AW_region ?_ | refine AW_draw mixed0 ?_ | refine AL_nil ?_ | refine AD_nil (by kernel_rfl) ?_ | (refine AW_cl rfl rfl ⟨fun hc => ?_, fun hc => ?_⟩ <;> (repeat rw [List.length_map] at hc) <;> (try exact absd hc)) | ((first | apply AL_t rfl | apply AL_0 rfl | apply AD_t rfl | apply AD_0 rfl); focus (first | exact z_auto | fail)) | refine thenA_n ?_ | refine thenA_r ?_ | refine thenA_e ?_ | refine inB_n ?_ | refine inB_r ?_ | refine inB_hit ?_ | refine inB_miss rfl ?_ | ((first | refine AL_cl rfl rfl rfl ⟨fun hc => ?_, fun hc => ?_⟩ | refine AD_cl rfl rfl rfl ⟨fun hc => ?_, fun hc => ?_⟩) <;> (fail_if_success (have q : (true = true) := hc)) <;> (fail_if_success (have q : (false = false) := hc)) <;> (repeat rw [List.length_map] at hc) <;> (try exact absd hc)) | refine AW_cond_nil rfl rfl (fun hc => ?_) ?_))
          refine ⟨(i + 1, ac), ⟨by simp only; omega, g2⟩, by simp only; omega, ?_⟩
          exact le_auto
    · have hil : i = ls.length := by omega
      subst hil
      rw [List.drop_length] at h2
      simp at h2
      subst h2
      (repeat' (first | refine AW_seq ?_ | refine AW_block ?_ | refine AW_skip ?_ | refine AW_exit ?_ | refine AW_ret ?_ | refine AW_region ?_ | refine AW_draw mixed0 ?_ | refine AL_nil ?_ | refine AD_nil (by kernel_rfl) ?_ | (refine AW_cl rfl rfl ⟨fun hc => ?_, fun hc => ?_⟩ <;> (repeat rw [List.length_map] at hc) <;> (try exact absd hc)) | ((first | apply AL_t rfl | apply AL_0 rfl | apply AD_t rfl | apply AD_0 rfl); focus (first | exact z_auto | exact c_MA [(1000, 600)] (hs) | fail)) | refine thenA_n ?_ | refine thenA_r ?_ | refine thenA_e ?_ | refine inB_n ?_ | refine inB_r ?_ | refine inB_hit ?_ | refine inB_miss rfl ?_ | ((first | refine AL_cl rfl rfl rfl ⟨fun hc => ?_, fun hc => ?_⟩ | refine AD_cl rfl rfl rfl ⟨fun hc => ?_, fun hc => ?_⟩) <;> (fail_if_success (have q : (true = true) := hc)) <;> (fail_if_success (have q : (false = false) := hc)) <;> (repeat rw [List.length_map] at hc) <;> (try exact absd hc)) | refine AW_cond_nil rfl rfl (fun hc => ?_) ?_))
      clear hs hTr hT hm hn
      refine AW_le (Le_nil 8 700 62 7 rfl rfl) ?_
      refine AW_loopP (X := Nat × List It) (fun x => x.1 ≤ Q.length ∧ x.2.length ≤ x.1 ∧ (Q.drop x.1).foldl mrgF x.2 = R)
        (fun x => mkSt [(8, .row 700 0), (34, .row 600 0), (35, iC .i64 (Q.length : Nat)), (36, iC .i64 (x.1 : Nat))] [(600, itsW Q), (700, itsW x.2)]) (fun x => Q.length - x.1) (0, []) ⟨Nat.zero_le _, Nat.le_refl _, hR⟩ ?_ ?_
      · exact le_auto
      · rintro ⟨k, out⟩ ⟨g1, g2, g3⟩
        simp only at g1 g2 g3 ⊢
        by_cases hk : k < Q.length
        · have hol : out.length ≤ 100000000 := by omega
          have HQ : (Q.map itP)[k]? = some (itP Q[k]) := by rw [List.getElem?_map, List.getElem?_eq_getElem hk]; rfl
          rw [List.drop_eq_getElem_cons hk, List.foldl_cons, mrgF] at g3
          rcases snoc_cases out with rfl | ⟨o, y, rfl⟩
          · simp only [List.reverse_nil] at g3
            (repeat' (first | refine AW_seq ?_ | refine AW_block ?_ | refine AW_skip ?_ | refine AW_exit ?_ | refine AW_ret ?_ | refine AW_region ?_ | refine AW_draw mixed0 ?_ | refine AL_nil ?_ | refine AD_nil (by kernel_rfl) ?_ | (refine AW_cl rfl rfl ⟨fun hc => ?_, fun hc => ?_⟩ <;> (repeat rw [List.length_map] at hc) <;> (try exact absd hc)) | ((first | apply AL_t rfl | apply AL_0 rfl | apply AD_t rfl | apply AD_0 rfl); focus (first | exact z_auto | ((apply u_k 5; (focus rfl); exact u_load_rA ⟨rfl, rfl, rfl⟩ rfl inferInstance inferInstance rfl rfl rfl HQ rfl rfl rfl)) | (apply u_g; (focus rfl); apply op_gyes rfl rfl rfl rfl rfl; ((apply u_k 5; (focus rfl); exact u_load_rA ⟨rfl, rfl, rfl⟩ rfl inferInstance inferInstance rfl rfl rfl HQ rfl rfl rfl))) | fail)) | refine thenA_n ?_ | refine thenA_r ?_ | refine thenA_e ?_ | refine inB_n ?_ | refine inB_r ?_ | refine inB_hit ?_ | refine inB_miss rfl ?_ | ((first | refine AL_cl rfl rfl rfl ⟨fun hc => ?_, fun hc => ?_⟩ | refine AD_cl rfl rfl rfl ⟨fun hc => ?_, fun hc => ?_⟩) <;> (fail_if_success (have q : (true = true) := hc)) <;> (fail_if_success (have q : (false = false) := hc)) <;> (repeat rw [List.length_map] at hc) <;> (try exact absd hc)) | refine AW_cond_nil rfl rfl (fun hc => ?_) ?_))
            refine ⟨(k + 1, [Q[k]]), ⟨by simp only; omega, by simp, g3⟩, by simp only; omega, Le_trans (Le_mv 700 701) (Le_trans (Le_mv 701 700) ?_)⟩
            exact le_auto
          · simp only [List.reverse_append, List.reverse_cons, List.reverse_nil, List.nil_append, List.singleton_append, List.reverse_reverse] at g3
            have hcm := item_Cmp Q[k] y
            have hL1 : (o ++ [y]).length = o.length + 1 := by simp
            generalize hL : o ++ [y] = L at *
            have HY : (L.map itP)[((L.length : Int) - 1).toNat]? = some (itP y) := by
              rw [List.getElem?_map, ← hL, show (((o ++ [y]).length : Int) - 1).toNat = o.length by rw [hL]; omega]
              simp
            have HS : (L.map itP).set ((L.length : Int) - 1).toNat (setP (itP y) 0 (itP Q[k])) = (o ++ [Q[k]]).map itP := by
              rw [show (L.map itP).set ((L.length : Int) - 1).toNat (setP (itP y) 0 (itP Q[k])) = (L.set ((L.length : Int) - 1).toNat Q[k]).map itP from map_set' itP _ _ _, ← hL, set_at o y Q[k] [] _ (by rw [hL]; omega)]
            by_cases hky : y.key = Q[k].key
            · rw [if_pos hky] at g3
              (repeat' (first | refine AW_seq ?_ | refine AW_block ?_ | refine AW_skip ?_ | refine AW_exit ?_ | refine AW_ret ?_ | refine AW_region ?_ | refine AW_draw mixed0 ?_ | refine AL_nil ?_ | refine AD_nil (by kernel_rfl) ?_ | (refine AW_cl rfl rfl ⟨fun hc => ?_, fun hc => ?_⟩ <;> (repeat rw [List.length_map] at hc) <;> (try exact absd hc)) | ((first | apply AL_t rfl | apply AL_0 rfl | apply AD_t rfl | apply AD_0 rfl); focus (first | exact z_auto | exact c_A (hcm) | ((apply u_k 5; (focus rfl); first | exact u_load_r1 ⟨rfl, rfl, rfl⟩ rfl inferInstance rfl rfl rfl HY rfl | exact u_load_rA ⟨rfl, rfl, rfl⟩ rfl inferInstance inferInstance rfl rfl rfl HY rfl rfl rfl | exact u_load_rA ⟨rfl, rfl, rfl⟩ rfl inferInstance inferInstance rfl rfl rfl HQ rfl rfl rfl)) | (apply u_g; (focus rfl); apply op_gyes rfl rfl rfl rfl rfl; ((apply u_k 5; (focus rfl); first | exact u_load_r1 ⟨rfl, rfl, rfl⟩ rfl inferInstance rfl rfl rfl HY rfl | exact u_load_rA ⟨rfl, rfl, rfl⟩ rfl inferInstance inferInstance rfl rfl rfl HY rfl rfl rfl | exact u_load_rA ⟨rfl, rfl, rfl⟩ rfl inferInstance inferInstance rfl rfl rfl HQ rfl rfl rfl))) | ((apply u_k 6; (focus rfl); exact u_store_r ⟨rfl, rfl⟩ rfl inferInstance rfl rfl rfl rfl HY rfl (.inl rfl) rfl HS)) | (apply u_g; (focus rfl); apply op_gyes rfl rfl rfl rfl rfl; ((apply u_k 6; (focus rfl); exact u_store_r ⟨rfl, rfl⟩ rfl inferInstance rfl rfl rfl rfl HY rfl (.inl rfl) rfl HS))) | fail)) | refine thenA_n ?_ | refine thenA_r ?_ | refine thenA_e ?_ | refine inB_n ?_ | refine inB_r ?_ | refine inB_hit ?_ | refine inB_miss rfl ?_ | ((first | refine AL_cl rfl rfl rfl ⟨fun hc => ?_, fun hc => ?_⟩ | refine AD_cl rfl rfl rfl ⟨fun hc => ?_, fun hc => ?_⟩) <;> (fail_if_success (have q : (true = true) := hc)) <;> (fail_if_success (have q : (false = false) := hc)) <;> (repeat rw [List.length_map] at hc) <;> (try exact absd hc)) | refine AW_cond_nil rfl rfl (fun hc => ?_) ?_))
              · rw [if_pos (by omega)] at g3
                refine ⟨(k + 1, o ++ [Q[k]]), ⟨by simp only; omega, by simp; omega, g3⟩, by simp only; omega, ?_⟩
                exact le_auto
              · rw [if_neg (by omega)] at g3
                refine ⟨(k + 1, L), ⟨by simp only; omega, by simp only; omega, g3⟩, by simp only; omega, ?_⟩
                exact le_auto
            · rw [if_neg hky] at g3
              have hne : y.key.toList ≠ Q[k].key.toList := fun h => hky ((toL_inj _ _).1 h)
              (repeat' (first | refine AW_seq ?_ | refine AW_block ?_ | refine AW_skip ?_ | refine AW_exit ?_ | refine AW_ret ?_ | refine AW_region ?_ | refine AW_draw mixed0 ?_ | refine AL_nil ?_ | refine AD_nil (by kernel_rfl) ?_ | (refine AW_cl rfl rfl ⟨fun hc => ?_, fun hc => ?_⟩ <;> (repeat rw [List.length_map] at hc) <;> (try exact absd hc)) | ((first | apply AL_t rfl | apply AL_0 rfl | apply AD_t rfl | apply AD_0 rfl); focus (first | exact z_auto | exact c_A (hcm) | ((apply u_k 5; (focus rfl); first | exact u_load_r1 ⟨rfl, rfl, rfl⟩ rfl inferInstance rfl rfl rfl HY rfl | exact u_load_rA ⟨rfl, rfl, rfl⟩ rfl inferInstance inferInstance rfl rfl rfl HY rfl rfl rfl | exact u_load_rA ⟨rfl, rfl, rfl⟩ rfl inferInstance inferInstance rfl rfl rfl HQ rfl rfl rfl)) | (apply u_g; (focus rfl); apply op_gyes rfl rfl rfl rfl rfl; ((apply u_k 5; (focus rfl); first | exact u_load_r1 ⟨rfl, rfl, rfl⟩ rfl inferInstance rfl rfl rfl HY rfl | exact u_load_rA ⟨rfl, rfl, rfl⟩ rfl inferInstance inferInstance rfl rfl rfl HY rfl rfl rfl | exact u_load_rA ⟨rfl, rfl, rfl⟩ rfl inferInstance inferInstance rfl rfl rfl HQ rfl rfl rfl))) | ((apply u_k 6; (focus rfl); exact u_store_r ⟨rfl, rfl⟩ rfl inferInstance rfl rfl rfl rfl HY rfl (.inl rfl) rfl HS)) | (apply u_g; (focus rfl); apply op_gyes rfl rfl rfl rfl rfl; ((apply u_k 6; (focus rfl); exact u_store_r ⟨rfl, rfl⟩ rfl inferInstance rfl rfl rfl rfl HY rfl (.inl rfl) rfl HS))) | fail)) | refine thenA_n ?_ | refine thenA_r ?_ | refine thenA_e ?_ | refine inB_n ?_ | refine inB_r ?_ | refine inB_hit ?_ | refine inB_miss rfl ?_ | ((first | refine AL_cl rfl rfl rfl ⟨fun hc => ?_, fun hc => ?_⟩ | refine AD_cl rfl rfl rfl ⟨fun hc => ?_, fun hc => ?_⟩) <;> (fail_if_success (have q : (true = true) := hc)) <;> (fail_if_success (have q : (false = false) := hc)) <;> (repeat rw [List.length_map] at hc) <;> (try exact absd hc)) | refine AW_cond_nil rfl rfl (fun hc => ?_) ?_))
              refine ⟨(k + 1, L ++ [Q[k]]), ⟨by simp only; omega, by simp; omega, g3⟩, by simp only; omega, Le_trans (Le_mv 700 701) (Le_trans (Le_mv 701 700) ?_)⟩
              exact le_auto
        · have hkl : k = Q.length := by omega
          rw [hkl, List.drop_length, List.foldl_nil] at g3
          (repeat' (first | refine AW_seq ?_ | refine AW_block ?_ | refine AW_skip ?_ | refine AW_exit ?_ | refine AW_ret ?_ | refine AW_region ?_ | refine AW_draw mixed0 ?_ | refine AL_nil ?_ | refine AD_nil (by kernel_rfl) ?_ | (refine AW_cl rfl rfl ⟨fun hc => ?_, fun hc => ?_⟩ <;> (repeat rw [List.length_map] at hc) <;> (try exact absd hc)) | ((first | apply AL_t rfl | apply AL_0 rfl | apply AD_t rfl | apply AD_0 rfl); focus (first | exact z_auto | fail)) | refine thenA_n ?_ | refine thenA_r ?_ | refine thenA_e ?_ | refine inB_n ?_ | refine inB_r ?_ | refine inB_hit ?_ | refine inB_miss rfl ?_ | ((first | refine AL_cl rfl rfl rfl ⟨fun hc => ?_, fun hc => ?_⟩ | refine AD_cl rfl rfl rfl ⟨fun hc => ?_, fun hc => ?_⟩) <;> (fail_if_success (have q : (true = true) := hc)) <;> (fail_if_success (have q : (false = false) := hc)) <;> (repeat rw [List.length_map] at hc) <;> (try exact absd hc)) | refine AW_cond_nil rfl rfl (fun hc => ?_) ?_))
          (refine ⟨(by first | exact .inl rfl | exact .inr rfl), res1 rfl ?_⟩)
          exact rv_ownM rfl rfl rfl (by rw [g3])
end
end Go.Proofs.Ytbpmafpmlapekaa
