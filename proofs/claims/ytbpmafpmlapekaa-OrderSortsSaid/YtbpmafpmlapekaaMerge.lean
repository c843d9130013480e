/- The stable sort at fewer than 20; item.Merge. -/
import Derived.Test.YtbpmafpmlapekaaSort
namespace Go.Proofs.Ytbpmafpmlapekaa
open Go.RowKit
/-- one more, behind what is merged so far -/
def mrgF (out : List It) (x : It) : List It := match out.reverse with
  | [] => [x]
  | y :: r => if y.key = x.key then (if cmpI x y > 0 then r.reverse ++ [x] else out) else out ++ [x]
def mergeK (ls : List (List It)) : List It := (srtK (ls.flatten.filter itR)).foldl mrgF []
theorem mrgF_len (out : List It) (x : It) : (mrgF out x).length ≤ out.length + 1 := by
  unfold mrgF
  rcases snoc_cases out with rfl | ⟨o, y, rfl⟩
  · simp
  · simp only [List.reverse_append, List.reverse_cons, List.reverse_nil, List.nil_append, List.singleton_append]
    split
    · split <;> simp
    · simp
theorem srtK_len (l : List It) : (srtK l).length = l.length := by
  unfold srtK
  have : ∀ (l p : List It), (l.foldl insR p).length = p.length + l.length := by
    intro l
    induction l with
    | nil => intro p; rfl
    | cons x l ih =>
      intro p
      rw [List.foldl_cons, ih]
      unfold insR
      rw [insG_len]; simp; omega
  simpa using this l []
theorem insG_mem (x : It) : ∀ (l r : List It) (z : It), z ∈ insG x l r → z = x ∨ z ∈ l ∨ z ∈ r := by
  intro l
  induction l with
  | nil => intro r z h; simpa [insG] using h
  | cons y l ih =>
    intro r z h
    unfold insG at h
    split at h
    · rcases ih _ _ h with h | h | h
      · exact .inl h
      · exact .inr (.inl (by simp [h]))
      · rcases List.mem_cons.1 h with h | h
        · exact .inr (.inl (by simp [h]))
        · exact .inr (.inr h)
    · simp at h
      rcases h with h | h | h | h
      · exact .inr (.inl (by simp [h]))
      · exact .inr (.inl (by simp [h]))
      · exact .inl h
      · exact .inr (.inr h)
theorem kOk_right {l : List It} (h : ∀ x ∈ l, itR x = true) : kOk l := fun x hx => by
  have := (itR_nums (h x hx)).2.2.2
  omega
section
set_option maxRecDepth 10000
set_option maxHeartbeats 4000000
theorem sort_small (M : List It) (hk : kOk M) (hl : M.length < 20) : FnM Try.prog 115 [.row 1000 0, iC .i64 (M.length : Nat), cmpC] [(1000, itsW M)] .any [(1000, itsW (srtK M))] := by
  have h := sort_ins [] M [] hk (by simp; omega)
  simp only [List.nil_append, List.append_nil, List.length_nil, Nat.zero_add] at h
  generalize srtK M = R at *
  refine fnm_intro Try.func115 rfl (by kernel_rfl) Try.ntmps115 (Nat.le_of_ble_eq_true rfl) ?_
  (repeat' (first | refine AW_seq ?_ | refine AW_block ?_ | refine AW_skip ?_ | refine AW_exit ?_ | refine AW_ret ?_ | refine AW_region ?_ | refine AW_draw mixed0 ?_ | refine AL_nil ?_ | refine AD_nil (by kernel_rfl) ?_ | (refine AW_cl rfl rfl ⟨fun hc => ?_, fun hc => ?_⟩ <;> (repeat rw [List.length_map] at hc) <;> (try exact absd hc)) | ((first | apply AL_t rfl | apply AL_0 rfl | apply AD_t rfl | apply AD_0 rfl); focus (first | exact z_auto | exact c_MA [(1000, 1000)] (h) | fail)) | refine thenA_n ?_ | refine thenA_r ?_ | refine thenA_e ?_ | refine inB_n ?_ | refine inB_r ?_ | refine inB_hit ?_ | refine inB_miss rfl ?_ | ((first | refine AL_cl rfl rfl rfl ⟨fun hc => ?_, fun hc => ?_⟩ | refine AD_cl rfl rfl rfl ⟨fun hc => ?_, fun hc => ?_⟩) <;> (fail_if_success (have q : (true = true) := hc)) <;> (fail_if_success (have q : (false = false) := hc)) <;> (repeat rw [List.length_map] at hc) <;> (try exact absd hc)) | refine AW_cond_nil rfl rfl (fun hc => ?_) ?_))
  refine AW_loopP (X := Unit) (fun _ => True) (fun _ => mkSt [(0, .row 1000 0), (1, iC .i64 (M.length : Nat)), (2, cmpC), (6, iC .i64 20), (7, iC .i64 0), (8, iC .i64 20)] [(1000, itsW M)]) (fun _ => 0) () trivial ?_ ?_
  · exact le_auto
  · rintro _ -
    (repeat' (first | refine AW_seq ?_ | refine AW_block ?_ | refine AW_skip ?_ | refine AW_exit ?_ | refine AW_ret ?_ | refine AW_region ?_ | refine AW_draw mixed0 ?_ | refine AL_nil ?_ | refine AD_nil (by kernel_rfl) ?_ | (refine AW_cl rfl rfl ⟨fun hc => ?_, fun hc => ?_⟩ <;> (repeat rw [List.length_map] at hc) <;> (try exact absd hc)) | ((first | apply AL_t rfl | apply AL_0 rfl | apply AD_t rfl | apply AD_0 rfl); focus (first | exact z_auto | exact c_MA [(1000, 1000)] (h) | fail)) | refine thenA_n ?_ | refine thenA_r ?_ | refine thenA_e ?_ | refine inB_n ?_ | refine inB_r ?_ | refine inB_hit ?_ | refine inB_miss rfl ?_ | ((first | refine AL_cl rfl rfl rfl ⟨fun hc => ?_, fun hc => ?_⟩ | refine AD_cl rfl rfl rfl ⟨fun hc => ?_, fun hc => ?_⟩) <;> (fail_if_success (have q : (true = true) := hc)) <;> (fail_if_success (have q : (false = false) := hc)) <;> (repeat rw [List.length_map] at hc) <;> (try exact absd hc)) | refine AW_cond_nil rfl rfl (fun hc => ?_) ?_))
    refine AW_loopP (X := Unit) (fun _ => True) (fun _ => mkSt [(1, iC .i64 (M.length : Nat)), (6, iC .i64 20)] [(1000, itsW R)]) (fun _ => 0) () trivial ?_ ?_
    · exact le_auto
    · rintro _ -
      (repeat' (first | refine AW_seq ?_ | refine AW_block ?_ | refine AW_skip ?_ | refine AW_exit ?_ | refine AW_ret ?_ | refine AW_region ?_ | refine AW_draw mixed0 ?_ | refine AL_nil ?_ | refine AD_nil (by kernel_rfl) ?_ | (refine AW_cl rfl rfl ⟨fun hc => ?_, fun hc => ?_⟩ <;> (repeat rw [List.length_map] at hc) <;> (try exact absd hc)) | ((first | apply AL_t rfl | apply AL_0 rfl | apply AD_t rfl | apply AD_0 rfl); focus (first | exact z_auto | fail)) | refine thenA_n ?_ | refine thenA_r ?_ | refine thenA_e ?_ | refine inB_n ?_ | refine inB_r ?_ | refine inB_hit ?_ | refine inB_miss rfl ?_ | ((first | refine AL_cl rfl rfl rfl ⟨fun hc => ?_, fun hc => ?_⟩ | refine AD_cl rfl rfl rfl ⟨fun hc => ?_, fun hc => ?_⟩) <;> (fail_if_success (have q : (true = true) := hc)) <;> (fail_if_success (have q : (false = false) := hc)) <;> (repeat rw [List.length_map] at hc) <;> (try exact absd hc)) | refine AW_cond_nil rfl rfl (fun hc => ?_) ?_))
      (refine ⟨(by first | exact .inl rfl | exact .inr rfl), resM0 [(1000, 1000)] rfl rfl ?_⟩; (focus (repeat (first | exact AllX.nil | (refine AllX.cons rfl ?_ ?_; (focus first | rfl | skip))))))
theorem sort_stable (M : List It) (hk : kOk M) (hl : M.length < 20) : FnM Try.prog 78 [.row 1000 0, cmpC] [(1000, itsW M)] .any [(1000, itsW (srtK M))] := by
  have h := sort_small M hk hl
  generalize srtK M = R at *
  refine fnm_intro Try.func78 rfl (by kernel_rfl) Try.ntmps78 (Nat.le_of_ble_eq_true rfl) ?_
  (repeat' (first | refine AW_seq ?_ | refine AW_block ?_ | refine AW_skip ?_ | refine AW_exit ?_ | refine AW_ret ?_ | refine AW_region ?_ | refine AW_draw mixed0 ?_ | refine AL_nil ?_ | refine AD_nil (by kernel_rfl) ?_ | (refine AW_cl rfl rfl ⟨fun hc => ?_, fun hc => ?_⟩ <;> (repeat rw [List.length_map] at hc) <;> (try exact absd hc)) | ((first | apply AL_t rfl | apply AL_0 rfl | apply AD_t rfl | apply AD_0 rfl); focus (first | exact z_auto | exact c_MA [(1000, 1000)] (h) | fail)) | refine thenA_n ?_ | refine thenA_r ?_ | refine thenA_e ?_ | refine inB_n ?_ | refine inB_r ?_ | refine inB_hit ?_ | refine inB_miss rfl ?_ | ((first | refine AL_cl rfl rfl rfl ⟨fun hc => ?_, fun hc => ?_⟩ | refine AD_cl rfl rfl rfl ⟨fun hc => ?_, fun hc => ?_⟩) <;> (fail_if_success (have q : (true = true) := hc)) <;> (fail_if_success (have q : (false = false) := hc)) <;> (repeat rw [List.length_map] at hc) <;> (try exact absd hc)) | refine AW_cond_nil rfl rfl (fun hc => ?_) ?_))
  (refine ⟨(by first | exact .inl rfl | exact .inr rfl), resM0 [(1000, 1000)] rfl rfl ?_⟩; (focus (repeat (first | exact AllX.nil | (refine AllX.cons rfl ?_ ?_; (focus first | rfl | skip))))))
end
end Go.Proofs.Ytbpmafpmlapekaa
