/- Texts joined: FtM VsE. -/
import Derived.Test.YtbpmafpmlapekaaGreatJ10
import Derived.Test.YtbpmafpmlapekaaGreatJ25
namespace Go.Proofs.YtbpmafpmlapekaaGreat
open Go.RowKit
def isPl : Cnt → Bool
  | .per _ => true
  | .bor _ _ => true
  | _ => false
theorem crep_low {C : Ctx} {w : World} {c : Cnt} (hc : isPl c = true) {v : Value} (h : crep C z0 C.G0 w v c) : crep ⟨w, fun b => C.N0 b ∨ C.G0.ow b ≠ none, fun _ => False, g0⟩ (fun _ => 0) g0 w v c := by
  have hn : ∀ b, b < w.heap.size → Gh.N g0 ⟨w, fun b => C.N0 b ∨ C.G0.ow b ≠ none, fun _ => False, g0⟩ b → C.G0.N C b := fun b _ q => by
    rcases q with q | q
    · exact q
    · exact absurd rfl q
  cases c with
  | per A => exact A.mono (Nat.le_refl _) (fun _ _ _ => rfl) hn h
  | bor k es => exact lstAt.mono (Nat.le_refl _) (fun _ _ _ => rfl) (fun _ _ _ => rfl) (fun b _ q => absurd rfl q) hn h
  | _ => cases hc
theorem Fn.toM {P : Program} {f : FuncId} {As : List Cnt} {A : PV} (h : Fn P f As (.per A)) (hA : As.all isPl = true := by rfl) : FnM P f As [] (.per A) [] := by
  refine ⟨h.ent, ?_⟩
  intro C w vs _ hN hO hl hvs _
  refine (h.run (fun b => C.N0 b ∨ C.G0.ow b ≠ none) w vs (fun b q => ?_) ⟨hl, fun i v c h1 h2 => crep_low (List.all_eq_true.1 hA c (List.mem_of_getElem? h2)) (hvs i v c h1 h2)⟩).mono ?_
  · rcases q with q | q
    · exact (hN b q).1
    · obtain ⟨id, e⟩ := Option.ne_none_iff_exists'.1 q
      exact (hO b id e).1
  · rintro e w' ⟨v, rfl, hx, hr⟩
    refine ⟨v, C.G0, rfl, ⟨hx.os, hx.tape, hx.output, hx.size, fun b hb _ => hx.block b hb, fun b id q => ⟨Nat.lt_of_lt_of_le (hO b id q).1 hx.size, .inr (hO b id q).2⟩, fun _ _ => ⟨rfl, rfl⟩⟩, ?_, fun id => trivial⟩
    exact hr
end Go.Proofs.YtbpmafpmlapekaaGreat
namespace Go.Proofs.YtbpmafpmlapekaaGreat
open Go.RowKit
abbrev ownKn (l : List Kn) : Ret := .own 64 2 (l.map knP)
/-- replica by replica, what the one has and not the other -/
def lessTab (T U : List (List Rn)) : List (List Rn) := List.zipWith lessR T U
def vsLess (a b : List Kn) : List Kn := setFrom ofR 0 (lessTab (tabOf a) (tabOf b))
theorem tabOf_lens (s : List Kn) (hs : knsTot s) : ∀ l ∈ tabOf s, l.length ≤ 1000000000 := fun l hl => by
  obtain ⟨r, _, rfl⟩ := List.mem_map.1 hl
  have := tabAt_len s r
  have := hs.2
  omega
theorem tabC_per {F : Cnt → Cnt} (h : ∀ A, F (.per A) = .per A) {T : List (List Rn)} : (tabC T).map F = tabC T := by
  unfold tabC
  rw [List.map_map]
  exact List.map_congr_left fun x _ => h _
section
set_option maxRecDepth 10000
set_option maxHeartbeats 8000000
theorem vset_Of (s : List Kn) (hs : knsTot s) : Fn Tryz.prog 70 [knsB s] (ownKn (vsOf ofR s)) :=
  vs_Of ofR s hs (fun l hl => cnt_Of l (tabOf_lens s hs l hl))
abbrev lessFC : Cnt := .per (rawP (.func (.func 78) #[] #[]))
def knsMid (s : List Kn) : Prop := s.length ≤ 100000000 ∧ (s.flatMap Kn.runs).length ≤ 100000000
theorem knsMid.tot {s : List Kn} (h : knsMid s) : knsTot s := ⟨by have := h.1; omega, by have := h.2; omega⟩
theorem vs_each (a b : List Kn) (ha : knsMid a) (hb : knsMid b) : Fn Tryz.prog 77 [knsB a, knsB b, lessFC] (ownKn (vsLess a b)) := by
  have f1 := vs_fill a ha.tot
  have f2 := vs_fill b hb.tot
  have hT := tabOf_len a
  have hU := tabOf_len b
  have lT : ∀ l ∈ tabOf a, l.length ≤ 100000000 := fun l hl => by
    obtain ⟨r, _, rfl⟩ := List.mem_map.1 hl
    have := tabAt_len a r
    have := ha.2
    omega
  have lU : ∀ l ∈ tabOf b, l.length ≤ 100000000 := fun l hl => by
    obtain ⟨r, _, rfl⟩ := List.mem_map.1 hl
    have := tabAt_len b r
    have := hb.2
    omega
  unfold vsLess
  generalize tabOf a = T at *
  generalize tabOf b = U at *
  clear ha hb
  have hZ : (lessTab T U).length = 16 := by unfold lessTab; rw [List.length_zipWith]; omega
  have hZg : ∀ (i : Nat) (t u : List Rn), T[i]? = some t → U[i]? = some u → (lessTab T U)[i]? = some (lessR t u) := fun i t u h1 h2 => by
    unfold lessTab; rw [List.getElem?_zipWith, h1, h2]
  have f3 := vs_tset ofR (lessTab T U) hZ (fun l hl => by
    obtain ⟨i, hi, rfl⟩ := List.getElem_of_mem hl
    have h0 := hZg i _ _ (List.getElem?_eq_getElem (show i < T.length by omega)) (List.getElem?_eq_getElem (show i < U.length by omega))
    rw [List.getElem?_eq_getElem hi] at h0
    rw [Option.some.inj h0]
    refine cnt_Of _ ?_
    have h1 := opR_len (byR lessK (T[i]'(by omega)) (U[i]'(by omega))) (T[i]'(by omega)) (U[i]'(by omega))
    have h2 := lT (T[i]'(by omega)) (List.getElem_mem _)
    have h3 := lU (U[i]'(by omega)) (List.getElem_mem _)
    unfold lessR
    omega)
  generalize lessTab T U = Z at *
  generalize setFrom ofR 0 Z = R at *
  refine fn_intro Tryz.func77 rfl (by kernel_rfl) Tryz.ntmps77 (Nat.le_of_ble_eq_true rfl) ?_
  (repeat' (first | refine AW_seq ?_ | refine AW_block ?_ | refine AW_skip ?_ | refine AW_exit ?_ | refine AW_ret ?_ | refine AW_region ?_ | refine AW_draw mixed0 ?_ | refine AL_nil ?_ | refine AD_nil (by kernel_rfl) ?_ | (refine AW_cl rfl rfl ⟨fun hc => ?_, fun hc => ?_⟩ <;> (repeat rw [List.length_map] at hc) <;> (try exact absd hc)) | ((first | apply AL_t rfl | apply AL_0 rfl | apply AD_t rfl | apply AD_0 rfl); focus (first | ((apply u_k 6; (focus rfl); exact u_storeA ⟨rfl, rfl⟩ rfl inferInstance rfl rfl rfl rfl rfl rfl (by simp [hT, hU]))) | (apply u_g; (focus rfl); apply op_gyes rfl rfl rfl rfl rfl; ((apply u_k 6; (focus rfl); exact u_storeA ⟨rfl, rfl⟩ rfl inferInstance rfl rfl rfl rfl rfl rfl (by simp [hT, hU])))) | exact z_auto | exact c_A (f1) | exact c_A (f2) | fail)) | refine thenA_n ?_ | refine thenA_r ?_ | refine thenA_e ?_ | refine inB_n ?_ | refine inB_r ?_ | refine inB_hit ?_ | refine inB_miss rfl ?_ | ((first | refine AL_cl rfl rfl rfl ⟨fun hc => ?_, fun hc => ?_⟩ | refine AD_cl rfl rfl rfl ⟨fun hc => ?_, fun hc => ?_⟩) <;> (fail_if_success (have q : (true = true) := hc)) <;> (fail_if_success (have q : (false = false) := hc)) <;> (repeat rw [List.length_map] at hc) <;> (try exact absd hc)) | refine AW_cond_nil rfl rfl (fun hc => ?_) ?_))
  refine AW_loopP (X := Nat) (fun z => z ≤ 16)
    (fun z => mkSt [(2, lessFC), (7, .ptr 7 0 0), (8, .ptr 8 0 0), (14, iC .i64 ((z : Nat) : Int))] [(7, .box 129 (tabC (Z.take z ++ T.drop z))), (8, .box 129 (tabC U))]) (fun z => 16 - z) 0 (Nat.zero_le _) ?_ ?_
  · have HF7 : ∀ (F : Cnt → Cnt) (cells : List Cnt), (∀ A, F (.per A) = .per A) → cells.length = 16 → (setL cells 0 ((T.map rnsP).map .per)).map F = tabC (Z.take 0 ++ T.drop 0) := fun F cells h1 h2 => by
      rw [setL_full (by simp [hT, h2]), tabC_map]
      exact tabC_per h1
    have HF8 : ∀ (F : Cnt → Cnt) (cells : List Cnt), (∀ A, F (.per A) = .per A) → cells.length = 16 → (setL cells 0 ((U.map rnsP).map .per)).map F = tabC U := fun F cells h1 h2 => by
      rw [setL_full (by simp [hU, h2]), tabC_map]
      exact tabC_per h1
    (refine Le_mk ?_ ?_; (focus ((repeat (first | exact AllG.nil | (refine AllG.cons ?_ ?_; rotate_left))); (all_goals try (first | rfl | (refine eqI ?_; first | omega | (simp; done) | (simp; omega)) | (refine eqBo ?_; first | (simp; done) | (simp [*]; done)))))); (focus ((repeat (first | exact AllB.nil | (refine AllB.cons ?_ ?_; rotate_left))); (all_goals try (first | rfl | (refine eqRw ?_; (rw [List.map_append] <;> rfl); done) | (refine eqMix ?_; (rw [List.map_append] <;> rfl); done))))))
    · exact congrArg (Blk.box _) (HF7 _ _ (fun _ => rfl) rfl)
    · exact congrArg (Blk.box _) (HF8 _ _ (fun _ => rfl) rfl)
  · intro z hz
    by_cases hlt : z < 16
    · have ht := List.getElem?_eq_getElem (show z < T.length by omega)
      have hu := List.getElem?_eq_getElem (show z < U.length by omega)
      have lt := lT _ (List.getElem_mem (show z < T.length by omega))
      have lu := lU _ (List.getElem_mem (show z < U.length by omega))
      have hdr := List.drop_eq_getElem_cons (show z < T.length by omega)
      generalize T[z]'(by omega) = tt at *
      generalize U[z]'(by omega) = uu at *
      have hz' := hZg z tt uu ht hu
      have c1 := (cnt_Less tt uu lt lu).frz.toM
      generalize lessR tt uu = rr at *
      have e1 : (Z.take z).length = z := by rw [List.length_take]; omega
      have hW1 : (Z.take z ++ T.drop z)[z]? = some tt := by
        rw [List.getElem?_append_right (by omega), e1, Nat.sub_self, hdr]; rfl
      have hW2 : Z.take (z + 1) ++ T.drop (z + 1) = (Z.take z ++ T.drop z).set z rr := by
        obtain ⟨q1, q2⟩ := List.getElem?_eq_some_iff.1 hz'
        rw [hdr, set_at2 _ _ _ _ _ e1.symm, List.take_succ_eq_append_getElem q1, q2, List.append_assoc]; rfl
      have hW3 : (Z.take z ++ T.drop z).length = 16 := by rw [List.length_append, e1, List.length_drop]; omega
      generalize Z.take z ++ T.drop z = W at *
      have HJ : (tabC W)[0 + z * 1]? = some (.per (rnsP tt)) := by rw [Nat.zero_add, Nat.mul_one, List.getElem?_map, hW1]; rfl
      have HK : (tabC U)[0 + z * 1]? = some (.per (rnsP uu)) := by rw [Nat.zero_add, Nat.mul_one, List.getElem?_map, hu]; rfl
      have HB : Nat.ble (0 + z * 1 + 1) (tabC W).length = true := Nat.ble_eq_true_of_le (by simp; omega)
      have HF : ∀ (F : Cnt → Cnt), (∀ A, F (.per A) = .per A) → (setL (tabC W) (0 + z * 1) [.per (rnsP rr)]).map F = tabC (W.set z rr) := fun F h1 => by
        rw [Nat.zero_add, Nat.mul_one, setL_set _ _ _ (by simp; omega), List.map_set, tabC_per h1, h1]
        unfold tabC
        rw [List.map_set]
      have HU : ∀ (F : Cnt → Cnt), (∀ A, F (.per A) = .per A) → (tabC U).map F = tabC U := fun F h1 => tabC_per h1
      clear lT lU hZg f1 f2 f3 hz' hdr
      (repeat' (first | refine AW_seq ?_ | refine AW_block ?_ | refine AW_skip ?_ | refine AW_exit ?_ | refine AW_ret ?_ | refine AW_region ?_ | refine AW_draw mixed0 ?_ | refine AL_nil ?_ | refine AD_nil (by kernel_rfl) ?_ | (refine AW_cl rfl rfl ⟨fun hc => ?_, fun hc => ?_⟩ <;> (repeat rw [List.length_map] at hc) <;> (try exact absd hc)) | ((first | apply AL_t rfl | apply AL_0 rfl | apply AD_t rfl | apply AD_0 rfl); focus (first | ((apply u_k 5; (focus rfl); first | exact u_load1 ⟨rfl, rfl, rfl⟩ rfl inferInstance rfl rfl rfl HJ | exact u_load1 ⟨rfl, rfl, rfl⟩ rfl inferInstance rfl rfl rfl HK)) | (apply u_g; (focus rfl); apply op_gyes rfl rfl rfl rfl rfl; ((apply u_k 5; (focus rfl); first | exact u_load1 ⟨rfl, rfl, rfl⟩ rfl inferInstance rfl rfl rfl HJ | exact u_load1 ⟨rfl, rfl, rfl⟩ rfl inferInstance rfl rfl rfl HK))) | ((apply u_k 6; (focus rfl); exact u_store1 ⟨rfl, rfl⟩ rfl inferInstance rfl rfl rfl HB rfl (by first | exact oneP_raw rfl rfl | exact oneP_lst | exact oneP_rp))) | (apply u_g; (focus rfl); apply op_gyes rfl rfl rfl rfl rfl; ((apply u_k 6; (focus rfl); exact u_store1 ⟨rfl, rfl⟩ rfl inferInstance rfl rfl rfl HB rfl (by first | exact oneP_raw rfl rfl | exact oneP_lst | exact oneP_rp)))) | exact z_auto | (exact c_Vx [] c1) | (apply u_g; (focus rfl); apply op_gyes rfl rfl rfl rfl rfl; (exact c_Vx [] c1)) | fail)) | refine thenA_n ?_ | refine thenA_r ?_ | refine thenA_e ?_ | refine inB_n ?_ | refine inB_r ?_ | refine inB_hit ?_ | refine inB_miss rfl ?_ | ((first | refine AL_cl rfl rfl rfl ⟨fun hc => ?_, fun hc => ?_⟩ | refine AD_cl rfl rfl rfl ⟨fun hc => ?_, fun hc => ?_⟩) <;> (fail_if_success (have q : (true = true) := hc)) <;> (fail_if_success (have q : (false = false) := hc)) <;> (repeat rw [List.length_map] at hc) <;> (try exact absd hc)) | refine AW_cond_nil rfl rfl (fun hc => ?_) ?_))
      refine ⟨z + 1, by omega, by omega, ?_⟩
      (refine Le_mk ?_ ?_; (focus ((repeat (first | exact AllG.nil | (refine AllG.cons ?_ ?_; rotate_left))); (all_goals try (first | rfl | (refine eqI ?_; first | omega | (simp; done) | (simp; omega)) | (refine eqBo ?_; first | (simp; done) | (simp [*]; done)))))); (focus ((repeat (first | exact AllB.nil | (refine AllB.cons ?_ ?_; rotate_left))); (all_goals try (first | rfl | (refine eqRw ?_; (rw [List.map_append] <;> rfl); done) | (refine eqMix ?_; (rw [List.map_append] <;> rfl); done))))))
      · rw [hW2]
        exact congrArg (Blk.box _) (HF _ (fun _ => rfl))
      · exact congrArg (Blk.box _) (HU _ (fun _ => rfl))
    · obtain rfl : z = 16 := by omega
      have e : Z.take 16 ++ T.drop 16 = Z := by rw [List.take_of_length_le (by omega), List.drop_of_length_le (by omega), List.append_nil]
      rw [e]
      have HP := tabC_full hZ
      have HB := tabC_ble hZ
      clear hZg f1 f2 lT lU e
      (repeat' (first | refine AW_seq ?_ | refine AW_block ?_ | refine AW_skip ?_ | refine AW_exit ?_ | refine AW_ret ?_ | refine AW_region ?_ | refine AW_draw mixed0 ?_ | refine AL_nil ?_ | refine AD_nil (by kernel_rfl) ?_ | (refine AW_cl rfl rfl ⟨fun hc => ?_, fun hc => ?_⟩ <;> (repeat rw [List.length_map] at hc) <;> (try exact absd hc)) | ((first | apply AL_t rfl | apply AL_0 rfl | apply AD_t rfl | apply AD_0 rfl); focus (first | ((apply u_k 5; (focus rfl); exact u_loadA ⟨rfl, rfl, rfl⟩ rfl inferInstance inferInstance rfl rfl rfl rfl HB HP)) | (apply u_g; (focus rfl); apply op_gyes rfl rfl rfl rfl rfl; ((apply u_k 5; (focus rfl); exact u_loadA ⟨rfl, rfl, rfl⟩ rfl inferInstance inferInstance rfl rfl rfl rfl HB HP))) | exact z_auto | exact c_A (f3) | fail)) | refine thenA_n ?_ | refine thenA_r ?_ | refine thenA_e ?_ | refine inB_n ?_ | refine inB_r ?_ | refine inB_hit ?_ | refine inB_miss rfl ?_ | ((first | refine AL_cl rfl rfl rfl ⟨fun hc => ?_, fun hc => ?_⟩ | refine AD_cl rfl rfl rfl ⟨fun hc => ?_, fun hc => ?_⟩) <;> (fail_if_success (have q : (true = true) := hc)) <;> (fail_if_success (have q : (false = false) := hc)) <;> (repeat rw [List.length_map] at hc) <;> (try exact absd hc)) | refine AW_cond_nil rfl rfl (fun hc => ?_) ?_))
      (refine ⟨(by first | exact .inl rfl | exact .inr rfl), res1 rfl ?_⟩)
      exact rv_own rfl rfl rfl
theorem vset_Less (a b : List Kn) (ha : knsMid a) (hb : knsMid b) : Fn Tryz.prog 45 [knsB a, knsB b] (ownKn (vsLess a b)) := by
  have h := vs_each a b ha hb
  generalize vsLess a b = R at *
  refine fn_intro Tryz.func45 rfl (by kernel_rfl) Tryz.ntmps45 (Nat.le_of_ble_eq_true rfl) ?_
  (have kc1 := h; refine w0 ?_; (repeat' (first | refine W2.mk ?_ ?_ | refine W1.mk fun hc => ?_)); all_goals clear kc1)
  (refine ⟨(by first | exact .inl rfl | exact .inr rfl), res1 rfl ?_⟩)
  exact rv_own rfl rfl rfl
end
end Go.Proofs.YtbpmafpmlapekaaGreat
