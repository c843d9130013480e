/- Texts joined: KnO. -/
import Derived.Test.YtbpmafpmlapekaaGreatJ34
namespace Go.Proofs.YtbpmafpmlapekaaGreat
open Go.RowKit
/-! ### sizes -/
theorem setFrom_sz {M : Nat} : ∀ (T : List (List Rn)) (i : Nat), (∀ l ∈ T, l.length ≤ M) → (setFrom ofR i T).length ≤ T.length ∧ ((setFrom ofR i T).flatMap Kn.runs).length ≤ T.length * M := by
  intro T
  induction T with
  | nil => intro i _; simp [setFrom]
  | cons l T ih =>
    intro i h
    have h1 := ih (i + 1) (fun x hx => h x (List.mem_cons_of_mem _ hx))
    have h2 := h l (by simp)
    have h3 := ofR_len l
    rw [setFrom, List.flatMap_append, List.length_append, List.length_append, List.length_cons, Nat.add_mul, Nat.one_mul]
    split
    · simp only [List.length_nil, List.flatMap_nil]; omega
    · simp only [List.length_cons, List.length_nil, List.flatMap_cons, List.flatMap_nil, List.append_nil]; omega
theorem vsOf_sz {X : List Kn} {M : Nat} (h : (X.flatMap Kn.runs).length ≤ M) : (vsOf ofR X).length ≤ 16 ∧ ((vsOf ofR X).flatMap Kn.runs).length ≤ 16 * M := by
  have := setFrom_sz (M := M) (tabOf X) 0 (fun l hl => by
    obtain ⟨r, _, rfl⟩ := List.mem_map.1 hl
    have := tabAt_len X r
    omega)
  rw [tabOf_len] at this
  exact this
theorem atK_sz {k : List Pc} (hk : pcsMid k) (s : ByteArray) : (atK k s).length ≤ 16 ∧ ((atK k s).flatMap Kn.runs).length ≤ 16000000 := by
  have h1 := flat_sub_len Kn.runs (flat_sub (hasF_sub s) k)
  have := vsOf_sz (X := k.flatMap (hasF s)) (M := 1000000) (by have := hk.2.2; omega)
  exact this
theorem atK_mid2 {k : List Pc} (hk : pcsMid k) (s : ByteArray) : knsMid (atK k s) := by
  have := atK_sz hk s
  exact ⟨by omega, by omega⟩
theorem atK_tab {k : List Pc} (hk : pcsMid k) (s : ByteArray) : ∀ l ∈ tabOf (atK k s), l.length ≤ 1000000 := fun l hl => by
  unfold atK at hl
  rw [tabOf_vsOf] at hl
  obtain ⟨t, ht, rfl⟩ := List.mem_map.1 hl
  obtain ⟨r, _, rfl⟩ := List.mem_map.1 ht
  have h1 := ofR_len (tabAt (k.flatMap (hasF s)) r)
  have h2 := tabAt_len (k.flatMap (hasF s)) r
  have h3 := flat_sub_len Kn.runs (flat_sub (hasF_sub s) k)
  have h4 := hk.2.2
  show (ofR (tabAt (k.flatMap (hasF s)) r)).length ≤ _
  omega
theorem zip_mem {g : List Rn → List Rn → List Rn} : ∀ (T U : List (List Rn)) (l : List Rn), l ∈ List.zipWith g T U → ∃ t u, t ∈ T ∧ u ∈ U ∧ l = g t u := by
  intro T
  induction T with
  | nil => intro U l h; simp at h
  | cons t T ih =>
    intro U l h
    cases U with
    | nil => simp at h
    | cons u U =>
      rw [List.zipWith_cons_cons] at h
      rcases List.mem_cons.1 h with h | h
      · exact ⟨t, u, by simp, by simp, h⟩
      · obtain ⟨t', u', a, b, c⟩ := ih U l h
        exact ⟨t', u', List.mem_cons_of_mem _ a, List.mem_cons_of_mem _ b, c⟩
theorem vsLess_sz {a b : List Pc} (ha : pcsMid a) (hb : pcsMid b) (s : ByteArray) : (vsLess (atK a s) (atK b s)).length ≤ 16 ∧ ((vsLess (atK a s) (atK b s)).flatMap Kn.runs).length ≤ 64000000 := by
  have hl : (lessTab (tabOf (atK a s)) (tabOf (atK b s))).length = 16 := by unfold lessTab; rw [List.length_zipWith, tabOf_len, tabOf_len]; rfl
  have := setFrom_sz (M := 4000000) (lessTab (tabOf (atK a s)) (tabOf (atK b s))) 0 (fun l hl' => by
    obtain ⟨t, u, ht, hu, rfl⟩ := zip_mem _ _ _ hl'
    have h1 := opR_len (byR lessK t u) t u
    have h2 := atK_tab ha s _ ht
    have h3 := atK_tab hb s _ hu
    unfold lessR
    omega)
  rw [hl] at this
  exact this
theorem vsLess_ok (a b : List Kn) : knsOk (vsLess a b) := (setFrom_ok _ 0 (by unfold lessTab; rw [List.length_zipWith, tabOf_len, tabOf_len]; decide)).1
def lessKn (a b : List Pc) : List Pc := bldK (fun s => vsLess (atK a s) (atK b s)) (edgK (a ++ b))
theorem edgK_sz {k : List Pc} {m : ByteArray} (h : m ∈ edgK k) : m.size ≤ 1000000000 := by
  have := edgK_ok k m h; omega
theorem edgK_len (k : List Pc) : (edgK k).length ≤ 1 + 2 * k.length := by
  have := edgT_len (rgsOf k) [emB]
  unfold edgK
  unfold rgsOf at *
  simp only [List.length_cons, List.length_nil, List.length_map, Nat.zero_add] at this
  exact this
section
set_option maxRecDepth 10000
set_option maxHeartbeats 4000000
theorem kn_less1 (a b : List Pc) (s : ByteArray) (ha : pcsMid a) (hb : pcsMid b) (hs : s.size ≤ 1000000000) :
    Fn Tryz.prog 44 [sC s, .per (rptrP [pcsP a]), .per (rptrP [pcsP b])] (ownKn (vsLess (atK a s) (atK b s))) := by
  have h1 := kn_At a s ha hs
  have h2 := kn_At b s hb hs
  have h3 := vset_Less (atK a s) (atK b s) (atK_mid2 ha s) (atK_mid2 hb s)
  generalize vsLess (atK a s) (atK b s) = R at *
  generalize atK a s = A at *
  generalize atK b s = B at *
  refine fn_intro Tryz.func44 rfl (by kernel_rfl) Tryz.ntmps44 (Nat.le_of_ble_eq_true rfl) ?_
  (have ko1 := h1; have ko2 := h2; have kc1 := h3; refine w0 ?_; (repeat' (first | refine W2.mk ?_ ?_ | refine W1.mk fun hc => ?_)); all_goals clear kc1 ko2 ko1)
  (refine ⟨(by first | exact .inl rfl | exact .inr rfl), res1 rfl ?_⟩)
  exact rv_own rfl rfl rfl
theorem kn_Less (a b : List Pc) (ha : pcsMid a) (hb : pcsMid b) (hab : a.length + b.length ≤ 1000000) : Fn Tryz.prog 21 [pcsC a, pcsC b] (ownPc (lessKn a b)) := by
  have hla := ha.1
  have hlb := hb.1
  have h1 := kn_edges [a, b] (by simp) (by simp; omega)
  have e1 : [a, b].flatten = a ++ b := by simp
  rw [e1] at h1
  have hlE := edgK_len (a ++ b)
  rw [List.length_append] at hlE
  have h2 := kn_build 44 [rptrP [pcsP a], rptrP [pcsP b]] (fun s => vsLess (atK a s) (atK b s)) (edgK (a ++ b)) (by omega) (fun s hs => (kn_less1 a b s ha hb (edgK_sz hs)).frz.toM) (fun s _ => vsLess_ok _ _) (fun s _ => by
    have := vsLess_sz ha hb s
    exact ⟨by omega, by omega⟩)
  rw [show bldK (fun s => vsLess (atK a s) (atK b s)) (edgK (a ++ b)) = lessKn a b from rfl] at h2
  generalize lessKn a b = R at *
  generalize edgK (a ++ b) = E at *
  clear hlE e1
  refine fn_intro Tryz.func21 rfl (by kernel_rfl) Tryz.ntmps21 (Nat.le_of_ble_eq_true rfl) ?_
  (refine w0 ?_; (repeat' (first | refine W2.mk ?_ ?_ | refine W1.mk fun hc => ?_)))
  refine AL_le (Le_fzB 2 _ 22 rfl rfl rfl) (AL_le (Le_fzB 3 _ 22 rfl rfl rfl) ?_)
  (repeat' (first | refine AW_seq ?_ | refine AW_block ?_ | refine AW_skip ?_ | refine AW_exit ?_ | refine AW_ret ?_ | refine AW_region ?_ | refine AW_draw mixed0 ?_ | refine AL_nil ?_ | refine AD_nil (by kernel_rfl) ?_ | (refine AW_cl rfl rfl ⟨fun hc => ?_, fun hc => ?_⟩ <;> (repeat rw [List.length_map] at hc) <;> (try exact absd hc)) | ((first | apply AL_t rfl | apply AL_0 rfl | apply AD_t rfl | apply AD_0 rfl); focus (first | ((apply u_k 22; (focus rfl); exact op_mkP2 ⟨rfl, rfl, rfl⟩ rfl rfl rfl)) | (apply u_g; (focus rfl); apply op_gyes rfl rfl rfl rfl rfl; ((apply u_k 22; (focus rfl); exact op_mkP2 ⟨rfl, rfl, rfl⟩ rfl rfl rfl))) | exact z_auto | ((refine c_O (h1) (hg := ?_); ((repeat (first | exact GL.nil | (refine GL.cons ?_ ?_; focus (first | exact gl_per rfl | exact gl_lst rfl | exact gl_row rfl rfl rfl | exact gl_bor rfl | exact gl_nil rfl | exact gl_nil' rfl)))); done))) | (apply u_g; (focus rfl); apply op_gyes rfl rfl rfl rfl rfl; ((refine c_O (h1) (hg := ?_); ((repeat (first | exact GL.nil | (refine GL.cons ?_ ?_; focus (first | exact gl_per rfl | exact gl_lst rfl | exact gl_row rfl rfl rfl | exact gl_bor rfl | exact gl_nil rfl | exact gl_nil' rfl)))); done)))) | ((refine c_O (h2) (hg := ?_); ((repeat (first | exact GL.nil | (refine GL.cons ?_ ?_; focus (first | exact gl_per rfl | exact gl_lst rfl | exact gl_row rfl rfl rfl | exact gl_bor rfl | exact gl_nil rfl | exact gl_nil' rfl)))); done))) | (apply u_g; (focus rfl); apply op_gyes rfl rfl rfl rfl rfl; ((refine c_O (h2) (hg := ?_); ((repeat (first | exact GL.nil | (refine GL.cons ?_ ?_; focus (first | exact gl_per rfl | exact gl_lst rfl | exact gl_row rfl rfl rfl | exact gl_bor rfl | exact gl_nil rfl | exact gl_nil' rfl)))); done)))) | fail)) | refine thenA_n ?_ | refine thenA_r ?_ | refine thenA_e ?_ | refine inB_n ?_ | refine inB_r ?_ | refine inB_hit ?_ | refine inB_miss rfl ?_ | ((first | refine AL_cl rfl rfl rfl ⟨fun hc => ?_, fun hc => ?_⟩ | refine AD_cl rfl rfl rfl ⟨fun hc => ?_, fun hc => ?_⟩) <;> (fail_if_success (have q : (true = true) := hc)) <;> (fail_if_success (have q : (false = false) := hc)) <;> (repeat rw [List.length_map] at hc) <;> (try exact absd hc)) | refine AW_cond_nil rfl rfl (fun hc => ?_) ?_))
  (refine ⟨(by first | exact .inl rfl | exact .inr rfl), res1 rfl ?_⟩)
  exact rv_own rfl rfl rfl
theorem kn_clone (k : List Pc) (hk : pcsOk k) (hm : pcsMid k) : Fn Tryz.prog 64 [pcsB k] (ownPc k) := by
  have hl := hm.1
  refine fn_intro Tryz.func64 rfl (by kernel_rfl) Tryz.ntmps64 (Nat.le_of_ble_eq_true rfl) ?_
  (refine w0 ?_; (repeat' (first | refine W2.mk ?_ ?_ | refine W1.mk fun hc => ?_)))
  refine AW_le (Le_nil 3 700 48 4 rfl rfl) ?_
  refine AW_loopP (X := Nat) (fun z => z ≤ k.length)
    (fun z => mkSt [(3, .row 700 0), (6, pcsB k), (7, iC .i64 (k.length : Nat)), (8, iC .i64 ((z : Nat) : Int))] [(700, pcsW (k.take z))]) (fun z => k.length - z) 0 (Nat.zero_le _) ?_ ?_
  · exact le_auto
  · intro z hz
    by_cases hlt : z < k.length
    · have hset := (hk z hlt hlt).2.2.1
      have htot : knsTot k[z].set := by
        have h1 := mem_flat_len2 Pc.set (List.getElem_mem hlt)
        have h2 := flat_sub_len Kn.runs (a := k[z].set) (b := k.flatMap Pc.set) (by
          have : k[z] ∈ k := List.getElem_mem hlt
          generalize k[z] = p at *
          clear hset h1 hk hm hlt hz hl z
          induction k with
          | nil => cases this
          | cons q k ih =>
            rw [List.flatMap_cons]
            rcases List.mem_cons.1 this with rfl | h
            · exact List.sublist_append_left _ _
            · exact (ih h).trans (List.sublist_append_right _ _))
        have h3 := hm.2
        exact ⟨by omega, by omega⟩
      have c1 := (vs_Of_ok k[z].set htot hset).frz
      have hsn : k.take (z + 1) = k.take z ++ [k[z]] := by rw [List.take_succ_eq_append_getElem hlt]
      have hlk : (k.take z).length ≤ z := by rw [List.length_take]; omega
      generalize k.take z = A at *
      clear hk hm
      (have kc1 := c1; refine w0 ?_; (repeat' (first | refine W2.mk ?_ ?_ | refine W1.mk fun hc => ?_)); all_goals clear kc1)
      refine ⟨z + 1, hlt, by omega, Le_trans (Le_mv 700 701) (Le_trans (Le_mv 701 700) ?_)⟩
      rw [hsn]
      exact le_auto
    · rw [List.take_of_length_le (show k.length ≤ z by omega)]
      (refine w0 ?_; (repeat' (first | refine W2.mk ?_ ?_ | refine W1.mk fun hc => ?_)))
      (refine ⟨(by first | exact .inl rfl | exact .inr rfl), res1 rfl ?_⟩)
      exact rv_own rfl rfl rfl
theorem pcsMid_sz {k : List Pc} (h : pcsMid k) : pcsSz k := ⟨by have := h.1; omega, fun p hp => by
  have h1 := mem_flat_len2 Pc.set hp
  have h2 := flat_sub_len Kn.runs (a := p.set) (b := k.flatMap Pc.set) (by
    clear h1 h
    induction k with
    | nil => cases hp
    | cons q k ih =>
      rw [List.flatMap_cons]
      rcases List.mem_cons.1 hp with rfl | h
      · exact List.sublist_append_left _ _
      · exact (ih h).trans (List.sublist_append_right _ _))
  have h3 := h.2
  exact ⟨by omega, by omega⟩⟩
theorem kn_of1 (k : List Pc) (s : ByteArray) (hk : pcsMid k) (hs : s.size ≤ 1000000000) : Fn Tryz.prog 65 [sC s, .per (rptrP [pcsP k])] (ownKn (atK k s)) := by
  have h1 := kn_At k s hk hs
  generalize atK k s = A at *
  refine fn_intro Tryz.func65 rfl (by kernel_rfl) Tryz.ntmps65 (Nat.le_of_ble_eq_true rfl) ?_
  (have ko1 := h1; refine w0 ?_; (repeat' (first | refine W2.mk ?_ ?_ | refine W1.mk fun hc => ?_)); all_goals clear ko1)
  (refine ⟨(by first | exact .inl rfl | exact .inr rfl), res1 rfl ?_⟩)
  exact rv_own rfl rfl rfl
theorem kn_Of (k : List Pc) (hk : pcsMid k) : Fn Tryz.prog 32 [pcsC k] (ownPc (ofK k)) := by
  have hl := hk.1
  by_cases hok : pcsOk k
  · have h0 := know_Right k (pcsMid_sz hk) true (by simp [hok])
    have h1 := kn_clone k hok hk
    rw [ofK_id hok]
    clear hok hk
    refine fn_intro Tryz.func32 rfl (by kernel_rfl) Tryz.ntmps32 (Nat.le_of_ble_eq_true rfl) ?_
    (have kc1 := h0; have kc2 := h1; refine w0 ?_; (repeat' (first | refine W2.mk ?_ ?_ | refine W1.mk fun hc => ?_)); all_goals clear kc2 kc1)
    (refine ⟨(by first | exact .inl rfl | exact .inr rfl), res1 rfl ?_⟩)
    exact rv_own rfl rfl rfl
  · have h0 := know_Right k (pcsMid_sz hk) false (by simp [hok])
    have h1 := kn_edges [k] (by simp) (by simp; omega)
    have e1 : [k].flatten = k := by simp
    rw [e1] at h1
    have hlE := edgK_len k
    have h2 := kn_build 65 [rptrP [pcsP k]] (atK k) (edgK k) (by omega) (fun s hs => (kn_of1 k s hk (edgK_sz hs)).frz.toM) (fun s _ => atK_ok k s) (fun s _ => by
      have := atK_sz hk s
      exact ⟨by omega, by omega⟩)
    rw [show bldK (atK k) (edgK k) = ofK k from rfl] at h2
    generalize ofK k = R at *
    generalize edgK k = E at *
    clear hlE e1 hok hk
    refine fn_intro Tryz.func32 rfl (by kernel_rfl) Tryz.ntmps32 (Nat.le_of_ble_eq_true rfl) ?_
    (have kc1 := h0; refine w0 ?_; (repeat' (first | refine W2.mk ?_ ?_ | refine W1.mk fun hc => ?_)); all_goals clear kc1)
    refine AL_le (Le_fzB 1 _ 22 rfl rfl rfl) ?_
    (repeat' (first | refine AW_seq ?_ | refine AW_block ?_ | refine AW_skip ?_ | refine AW_exit ?_ | refine AW_ret ?_ | refine AW_region ?_ | refine AW_draw mixed0 ?_ | refine AL_nil ?_ | refine AD_nil (by kernel_rfl) ?_ | (refine AW_cl rfl rfl ⟨fun hc => ?_, fun hc => ?_⟩ <;> (repeat rw [List.length_map] at hc) <;> (try exact absd hc)) | ((first | apply AL_t rfl | apply AL_0 rfl | apply AD_t rfl | apply AD_0 rfl); focus (first | ((apply u_k 22; (focus rfl); exact op_mkP1 ⟨rfl, rfl, rfl⟩ rfl rfl)) | (apply u_g; (focus rfl); apply op_gyes rfl rfl rfl rfl rfl; ((apply u_k 22; (focus rfl); exact op_mkP1 ⟨rfl, rfl, rfl⟩ rfl rfl))) | exact z_auto | ((refine c_O (h1) (hg := ?_); ((repeat (first | exact GL.nil | (refine GL.cons ?_ ?_; focus (first | exact gl_per rfl | exact gl_lst rfl | exact gl_row rfl rfl rfl | exact gl_bor rfl | exact gl_nil rfl | exact gl_nil' rfl)))); done))) | (apply u_g; (focus rfl); apply op_gyes rfl rfl rfl rfl rfl; ((refine c_O (h1) (hg := ?_); ((repeat (first | exact GL.nil | (refine GL.cons ?_ ?_; focus (first | exact gl_per rfl | exact gl_lst rfl | exact gl_row rfl rfl rfl | exact gl_bor rfl | exact gl_nil rfl | exact gl_nil' rfl)))); done)))) | ((refine c_O (h2) (hg := ?_); ((repeat (first | exact GL.nil | (refine GL.cons ?_ ?_; focus (first | exact gl_per rfl | exact gl_lst rfl | exact gl_row rfl rfl rfl | exact gl_bor rfl | exact gl_nil rfl | exact gl_nil' rfl)))); done))) | (apply u_g; (focus rfl); apply op_gyes rfl rfl rfl rfl rfl; ((refine c_O (h2) (hg := ?_); ((repeat (first | exact GL.nil | (refine GL.cons ?_ ?_; focus (first | exact gl_per rfl | exact gl_lst rfl | exact gl_row rfl rfl rfl | exact gl_bor rfl | exact gl_nil rfl | exact gl_nil' rfl)))); done)))) | fail)) | refine thenA_n ?_ | refine thenA_r ?_ | refine thenA_e ?_ | refine inB_n ?_ | refine inB_r ?_ | refine inB_hit ?_ | refine inB_miss rfl ?_ | ((first | refine AL_cl rfl rfl rfl ⟨fun hc => ?_, fun hc => ?_⟩ | refine AD_cl rfl rfl rfl ⟨fun hc => ?_, fun hc => ?_⟩) <;> (fail_if_success (have q : (true = true) := hc)) <;> (fail_if_success (have q : (false = false) := hc)) <;> (repeat rw [List.length_map] at hc) <;> (try exact absd hc)) | refine AW_cond_nil rfl rfl (fun hc => ?_) ?_))
    (refine ⟨(by first | exact .inl rfl | exact .inr rfl), res1 rfl ?_⟩)
    exact rv_own rfl rfl rfl
/-- joined -/
theorem kn_Join (ls : List (List Pc)) (hl : ls.length ≤ 1000) (hk : pcsMid ls.flatten) : Fn Tryz.prog 27 [.bor 1 (ls.map fun k => [pcsP k])] (ownPc (ofK ls.flatten)) := by
  have h1 := kn_Of ls.flatten hk
  have hkl := hk.1
  generalize ofK ls.flatten = R at *
  clear hk
  refine fn_intro Tryz.func27 rfl (by kernel_rfl) Tryz.ntmps27 (Nat.le_of_ble_eq_true rfl) ?_
  (refine w0 ?_; (repeat' (first | refine W2.mk ?_ ?_ | refine W1.mk fun hc => ?_)))
  refine AW_le (Le_nil 3 700 48 4 rfl rfl) ?_
  refine AW_loopP (X := Nat) (fun z => z ≤ ls.length)
    (fun z => mkSt [(3, .row 700 0), (6, .bor 1 (ls.map fun k => [pcsP k])), (7, iC .i64 (ls.length : Nat)), (8, iC .i64 ((z : Nat) : Int))] [(700, pcsW (ls.take z).flatten)]) (fun z => ls.length - z) 0 (Nat.zero_le _) ?_ ?_
  · exact le_auto
  · intro z hz
    by_cases hlt : z < ls.length
    · have htk : (ls.take (z + 1)).flatten = (ls.take z).flatten ++ ls[z] := by rw [List.take_succ_eq_append_getElem hlt, List.flatten_append]; simp
      have hsub : (ls.take (z + 1)).flatten.length ≤ ls.flatten.length := by
        have : ls.flatten = (ls.take (z + 1)).flatten ++ (ls.drop (z + 1)).flatten := by rw [← List.flatten_append, List.take_append_drop]
        rw [this, List.length_append]; omega
      rw [htk, List.length_append] at hsub
      generalize (ls.take z).flatten = A at *
      clear h1
      (refine w0 ?_; (repeat' (first | refine W2.mk ?_ ?_ | refine W1.mk fun hc => ?_)))
      refine ⟨z + 1, hlt, by omega, Le_trans (Le_mv 700 701) (Le_trans (Le_mv 701 700) ?_)⟩
      rw [htk]
      exact le_auto
    · rw [List.take_of_length_le (show ls.length ≤ z by omega)]
      generalize ls.flatten = A at *
      (refine w0 ?_; (repeat' (first | refine W2.mk ?_ ?_ | refine W1.mk fun hc => ?_)))
      refine AL_le (Le_fz 700 _ 48 4 rfl rfl) ?_
      (have kc1 := h1; refine w0 ?_; (repeat' (first | refine W2.mk ?_ ?_ | refine W1.mk fun hc => ?_)); all_goals clear kc1)
      (refine ⟨(by first | exact .inl rfl | exact .inr rfl), res1 rfl ?_⟩)
      exact rv_own rfl rfl rfl
end
end Go.Proofs.YtbpmafpmlapekaaGreat
