/- item.List, item.Find; the references' List; the law of finding, walked. -/
import Derived.Test.YtbpmafpmlapekaaLawCh
namespace Go.Proofs.Ytbpmafpmlapekaa
open Go.RowKit
/-- right, and behind the one ahead of it -/
def okAt (l : List It) (i : Nat) : Prop := ∀ h : i < l.length, itR l[i] = true ∧ ∀ h0 : 0 < i, cmpB l[i - 1].key l[i].key < 0
def listOk (l : List It) : Prop := ∀ i, okAt l i
theorem listOk_up {l : List It} (h : listOk l) : Up l := by
  unfold Up
  rw [List.pairwise_iff_getElem]
  intro i j hi hj hij
  induction j with
  | zero => omega
  | succ j ih =>
    have h1 := (h (j + 1) hj).2 (by omega)
    simp only [Nat.add_sub_cancel] at h1
    rcases Nat.lt_or_ge i j with q | q
    · exact ltK_wo.tr _ _ _ (ih (by omega) q) (by rw [ltK_t]; exact h1)
    · obtain rfl : i = j := by omega
      rw [ltK_t]; exact h1
theorem listOk_right {l : List It} (h : listOk l) : ∀ x ∈ l, itR x = true := fun x hx => by
  obtain ⟨i, hi, rfl⟩ := List.getElem_of_mem hx
  exact (h i hi).1
/-- where a key stands, or would -/
theorem place_ex {l : List It} (h : Up l) (k : ByteArray) : ∃ p, p ≤ l.length ∧ ∀ j (hj : j < l.length), (cmpB l[j].key k < 0 ↔ j < p) := by
  induction l with
  | nil => exact ⟨0, Nat.le_refl _, fun j hj => by simp at hj⟩
  | cons x l ih =>
    have h' := List.pairwise_cons.1 h
    obtain ⟨p, hp, hj⟩ := ih h'.2
    by_cases hx : cmpB x.key k < 0
    · refine ⟨p + 1, by simp; omega, fun j hjl => ?_⟩
      cases j with
      | zero => simpa using hx
      | succ j => simpa using hj j (by simpa using hjl)
    · refine ⟨0, Nat.zero_le _, fun j hjl => ?_⟩
      cases j with
      | zero => simpa using hx
      | succ j =>
        simp only [List.getElem_cons_succ, Nat.not_lt_zero, iff_false]
        have hjl' : j < l.length := by simpa using hjl
        have h1 := h'.1 l[j] (List.getElem_mem _)
        let K : It := ⟨k, 0, 0, 0, 0, false, ⟨#[]⟩⟩
        have h2 : ltK x K = false := decide_eq_false hx
        intro h3
        have h4 := ltK_wo.tr x l[j] K h1 (decide_eq_true h3)
        rw [h2] at h4; cases h4
section
variable {P : Program} {n t : Nat} {ops : Array Oper} {o : Oper} {S : St}
theorem op_minJ {ty ty' : TypeId} {x y : Operand} {k : IntKind} {u v z : Int} (hp : Pl n o t) (ho : o.op = .call { callee := .builtin .min, args := #[x, y], argTypes := #[ty, ty'] }) (hx : S.opd x = iC k u) (hy : S.opd y = iC k v) (hz : (if v < u then v else u) = z) : OpOk n P ops o (opdN x ++ opdN y) (iC k z) [] S :=
  hz ▸ op_min hp ho hx hy
end
section
set_option maxRecDepth 10000
set_option maxHeartbeats 4000000
theorem ref_List (l : List It) (hk : kOk l) (hl : l.length ≤ 1000000000) (b : Bool) (hb : b = true ↔ listOk l) : Fn Try.prog 31 [itsB l] (boR b) := by
  refine fn_intro Try.func31 rfl (by kernel_rfl) Try.ntmps31 (Nat.le_of_ble_eq_true rfl) ?_
  (repeat' (first | refine AW_seq ?_ | refine AW_block ?_ | refine AW_skip ?_ | refine AW_exit ?_ | refine AW_ret ?_ | refine AW_region ?_ | refine AW_draw mixed0 ?_ | refine AL_nil ?_ | refine AD_nil (by kernel_rfl) ?_ | (refine AW_cl rfl rfl ⟨fun hc => ?_, fun hc => ?_⟩ <;> (repeat rw [List.length_map] at hc) <;> (try exact absd hc)) | ((first | apply AL_t rfl | apply AL_0 rfl | apply AD_t rfl | apply AD_0 rfl); focus (first | exact z_auto | fail)) | refine thenA_n ?_ | refine thenA_r ?_ | refine thenA_e ?_ | refine inB_n ?_ | refine inB_r ?_ | refine inB_hit ?_ | refine inB_miss rfl ?_ | ((first | refine AL_cl rfl rfl rfl ⟨fun hc => ?_, fun hc => ?_⟩ | refine AD_cl rfl rfl rfl ⟨fun hc => ?_, fun hc => ?_⟩) <;> (fail_if_success (have q : (true = true) := hc)) <;> (fail_if_success (have q : (false = false) := hc)) <;> (repeat rw [List.length_map] at hc) <;> (try exact absd hc)) | refine AW_cond_nil rfl rfl (fun hc => ?_) ?_))
  refine AW_loopP (X := Nat) (fun z => z ≤ l.length ∧ ∀ i, i < z → okAt l i)
    (fun z => mkSt [(0, itsB l), (3, iC .i64 (z : Nat))] []) (fun z => l.length - z) 0 ⟨Nat.zero_le _, fun i h => absurd h (Nat.not_lt_zero _)⟩ ?_ ?_
  · exact le_auto
  · rintro z ⟨h1, h2⟩
    by_cases hz : z < l.length
    · have hir := ritem_Right l[z]
      have hno : ¬ okAt l z → b = false := fun h => by rw [← Bool.not_eq_true, hb]; exact fun q => h (q z)
      cases hr : itR l[z] with
      | false =>
        have hb0 := hno (fun h => by have := (h hz).1; rw [hr] at this; cases this)
        subst hb0
        clear hb hno h2
        rw [hr] at hir
        (repeat' (first | refine AW_seq ?_ | refine AW_block ?_ | refine AW_skip ?_ | refine AW_exit ?_ | refine AW_ret ?_ | refine AW_region ?_ | refine AW_draw mixed0 ?_ | refine AL_nil ?_ | refine AD_nil (by kernel_rfl) ?_ | (refine AW_cl rfl rfl ⟨fun hc => ?_, fun hc => ?_⟩ <;> (repeat rw [List.length_map] at hc) <;> (try exact absd hc)) | ((first | apply AL_t rfl | apply AL_0 rfl | apply AD_t rfl | apply AD_0 rfl); focus (first | exact z_auto | exact c_A (hir) | fail)) | refine thenA_n ?_ | refine thenA_r ?_ | refine thenA_e ?_ | refine inB_n ?_ | refine inB_r ?_ | refine inB_hit ?_ | refine inB_miss rfl ?_ | ((first | refine AL_cl rfl rfl rfl ⟨fun hc => ?_, fun hc => ?_⟩ | refine AD_cl rfl rfl rfl ⟨fun hc => ?_, fun hc => ?_⟩) <;> (fail_if_success (have q : (true = true) := hc)) <;> (fail_if_success (have q : (false = false) := hc)) <;> (repeat rw [List.length_map] at hc) <;> (try exact absd hc)) | refine AW_cond_nil rfl rfl (fun hc => ?_) ?_))
        (refine ⟨(by first | exact .inl rfl | exact .inr rfl), res1 rfl ?_⟩)
        exact rv_bool rfl rfl
      | true =>
        rw [hr] at hir
        by_cases h0 : 0 < z
        · obtain ⟨q, rfl⟩ : ∃ q, z = q + 1 := ⟨z - 1, by omega⟩
          have hqE : ((q + 1 : Nat) : Int) - 1 = (q : Nat) := by omega
          have hcm := ref_Less l[q].key l[q + 1].key (by have := hk l[q] (List.getElem_mem _); omega)
          by_cases hlt : cmpB l[q].key l[q + 1].key < 0
          · have hok : okAt l (q + 1) := fun _ => ⟨hr, fun _ => hlt⟩
            rw [decide_eq_true hlt] at hcm
            clear hb hno
            (repeat' (first | refine AW_seq ?_ | refine AW_block ?_ | refine AW_skip ?_ | refine AW_exit ?_ | refine AW_ret ?_ | refine AW_region ?_ | refine AW_draw mixed0 ?_ | refine AL_nil ?_ | refine AD_nil (by kernel_rfl) ?_ | (refine AW_cl rfl rfl ⟨fun hc => ?_, fun hc => ?_⟩ <;> (repeat rw [List.length_map] at hc) <;> (try exact absd hc)) | ((first | apply AL_t rfl | apply AL_0 rfl | apply AD_t rfl | apply AD_0 rfl); focus (first | ((apply u_k 8; (focus rfl); exact op_num ⟨rfl, rfl, rfl⟩ rfl rfl rfl rfl ((wrap_id64 (by omega) (by omega)).trans hqE))) | (apply u_g; (focus rfl); apply op_gyes rfl rfl rfl rfl rfl; ((apply u_k 8; (focus rfl); exact op_num ⟨rfl, rfl, rfl⟩ rfl rfl rfl rfl ((wrap_id64 (by omega) (by omega)).trans hqE)))) | exact z_auto | exact c_A (hir) | exact c_A (hcm) | fail)) | refine thenA_n ?_ | refine thenA_r ?_ | refine thenA_e ?_ | refine inB_n ?_ | refine inB_r ?_ | refine inB_hit ?_ | refine inB_miss rfl ?_ | ((first | refine AL_cl rfl rfl rfl ⟨fun hc => ?_, fun hc => ?_⟩ | refine AD_cl rfl rfl rfl ⟨fun hc => ?_, fun hc => ?_⟩) <;> (fail_if_success (have q : (true = true) := hc)) <;> (fail_if_success (have q : (false = false) := hc)) <;> (repeat rw [List.length_map] at hc) <;> (try exact absd hc)) | refine AW_cond_nil rfl rfl (fun hc => ?_) ?_))
            refine ⟨q + 1 + 1, ⟨by omega, fun i hi => ?_⟩, by omega, ?_⟩
            · rcases Nat.lt_or_ge i (q + 1) with q' | q'
              · exact h2 i q'
              · obtain rfl : i = q + 1 := by omega
                exact hok
            · exact le_auto
          · have hb0 := hno (fun h => hlt ((h hz).2 h0))
            rw [decide_eq_false hlt] at hcm
            subst hb0
            clear hb hno h2
            (repeat' (first | refine AW_seq ?_ | refine AW_block ?_ | refine AW_skip ?_ | refine AW_exit ?_ | refine AW_ret ?_ | refine AW_region ?_ | refine AW_draw mixed0 ?_ | refine AL_nil ?_ | refine AD_nil (by kernel_rfl) ?_ | (refine AW_cl rfl rfl ⟨fun hc => ?_, fun hc => ?_⟩ <;> (repeat rw [List.length_map] at hc) <;> (try exact absd hc)) | ((first | apply AL_t rfl | apply AL_0 rfl | apply AD_t rfl | apply AD_0 rfl); focus (first | ((apply u_k 8; (focus rfl); exact op_num ⟨rfl, rfl, rfl⟩ rfl rfl rfl rfl ((wrap_id64 (by omega) (by omega)).trans hqE))) | (apply u_g; (focus rfl); apply op_gyes rfl rfl rfl rfl rfl; ((apply u_k 8; (focus rfl); exact op_num ⟨rfl, rfl, rfl⟩ rfl rfl rfl rfl ((wrap_id64 (by omega) (by omega)).trans hqE)))) | exact z_auto | exact c_A (hir) | exact c_A (hcm) | fail)) | refine thenA_n ?_ | refine thenA_r ?_ | refine thenA_e ?_ | refine inB_n ?_ | refine inB_r ?_ | refine inB_hit ?_ | refine inB_miss rfl ?_ | ((first | refine AL_cl rfl rfl rfl ⟨fun hc => ?_, fun hc => ?_⟩ | refine AD_cl rfl rfl rfl ⟨fun hc => ?_, fun hc => ?_⟩) <;> (fail_if_success (have q : (true = true) := hc)) <;> (fail_if_success (have q : (false = false) := hc)) <;> (repeat rw [List.length_map] at hc) <;> (try exact absd hc)) | refine AW_cond_nil rfl rfl (fun hc => ?_) ?_))
            (refine ⟨(by first | exact .inl rfl | exact .inr rfl), res1 rfl ?_⟩)
            exact rv_bool rfl rfl
        · have hok : okAt l z := fun _ => ⟨hr, fun h => absurd h h0⟩
          clear hb hno
          (repeat' (first | refine AW_seq ?_ | refine AW_block ?_ | refine AW_skip ?_ | refine AW_exit ?_ | refine AW_ret ?_ | refine AW_region ?_ | refine AW_draw mixed0 ?_ | refine AL_nil ?_ | refine AD_nil (by kernel_rfl) ?_ | (refine AW_cl rfl rfl ⟨fun hc => ?_, fun hc => ?_⟩ <;> (repeat rw [List.length_map] at hc) <;> (try exact absd hc)) | ((first | apply AL_t rfl | apply AL_0 rfl | apply AD_t rfl | apply AD_0 rfl); focus (first | exact z_auto | exact c_A (hir) | fail)) | refine thenA_n ?_ | refine thenA_r ?_ | refine thenA_e ?_ | refine inB_n ?_ | refine inB_r ?_ | refine inB_hit ?_ | refine inB_miss rfl ?_ | ((first | refine AL_cl rfl rfl rfl ⟨fun hc => ?_, fun hc => ?_⟩ | refine AD_cl rfl rfl rfl ⟨fun hc => ?_, fun hc => ?_⟩) <;> (fail_if_success (have q : (true = true) := hc)) <;> (fail_if_success (have q : (false = false) := hc)) <;> (repeat rw [List.length_map] at hc) <;> (try exact absd hc)) | refine AW_cond_nil rfl rfl (fun hc => ?_) ?_))
          refine ⟨z + 1, ⟨by omega, fun i hi => ?_⟩, by omega, ?_⟩
          · rcases Nat.lt_or_ge i z with q | q
            · exact h2 i q
            · obtain rfl : i = z := by omega
              exact hok
          · exact le_auto
    · have hb1 : b = true := hb.2 (fun i => by
        rcases Nat.lt_or_ge i z with q | q
        · exact h2 i q
        · exact fun h => by omega)
      subst hb1
      clear hb h2
      (repeat' (first | refine AW_seq ?_ | refine AW_block ?_ | refine AW_skip ?_ | refine AW_exit ?_ | refine AW_ret ?_ | refine AW_region ?_ | refine AW_draw mixed0 ?_ | refine AL_nil ?_ | refine AD_nil (by kernel_rfl) ?_ | (refine AW_cl rfl rfl ⟨fun hc => ?_, fun hc => ?_⟩ <;> (repeat rw [List.length_map] at hc) <;> (try exact absd hc)) | ((first | apply AL_t rfl | apply AL_0 rfl | apply AD_t rfl | apply AD_0 rfl); focus (first | exact z_auto | fail)) | refine thenA_n ?_ | refine thenA_r ?_ | refine thenA_e ?_ | refine inB_n ?_ | refine inB_r ?_ | refine inB_hit ?_ | refine inB_miss rfl ?_ | ((first | refine AL_cl rfl rfl rfl ⟨fun hc => ?_, fun hc => ?_⟩ | refine AD_cl rfl rfl rfl ⟨fun hc => ?_, fun hc => ?_⟩) <;> (fail_if_success (have q : (true = true) := hc)) <;> (fail_if_success (have q : (false = false) := hc)) <;> (repeat rw [List.length_map] at hc) <;> (try exact absd hc)) | refine AW_cond_nil rfl rfl (fun hc => ?_) ?_))
      (refine ⟨(by first | exact .inl rfl | exact .inr rfl), res1 rfl ?_⟩)
      exact rv_bool rfl rfl
end
end Go.Proofs.Ytbpmafpmlapekaa
