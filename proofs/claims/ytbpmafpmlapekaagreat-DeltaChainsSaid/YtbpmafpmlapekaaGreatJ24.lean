/- Texts joined: Cnt RnE. -/
import Derived.Test.YtbpmafpmlapekaaGreatJ19
import Derived.Test.YtbpmafpmlapekaaGreatJ23
import Derived.Test.YtbpmafpmlapekaaGreatJ18
namespace Go.Proofs.YtbpmafpmlapekaaGreat
open Go.RowKit
theorem set_at2 {α : Type} (A : List α) (x y : α) (T : List α) (j : Nat) (hj : j = A.length) : (A ++ x :: T).set j y = A ++ y :: T := by
  subst hj; simp
theorem snoc_c2 {α : Type} (l : List α) : l = [] ∨ ∃ (l' : List α) (y : α), l = l' ++ [y] := by
  rcases List.eq_nil_or_concat l with h | ⟨a, y, h⟩
  · exact .inl h
  · exact .inr ⟨a, y, by rw [h]; simp⟩
theorem map_set2 {α β : Type} (f : α → β) (l : List α) (j : Nat) (y : α) : (l.map f).set j (f y) = (l.set j y).map f := by rw [List.map_set]
section
variable {P : Program} {n t : Nat} {ops : Array Oper} {o : Oper} {S : St}
theorem op_maxZ {ty ty' : TypeId} {x y : Operand} {k : IntKind} {u v z : Int} (hp : Pl n o t) (ho : o.op = .call { callee := .builtin .max, args := #[x, y], argTypes := #[ty, ty'] }) (hx : S.opd x = iC k u) (hy : S.opd y = iC k v) (hz : (if v > u then v else u) = z) : OpOk n P ops o (opdN x ++ opdN y) (iC k z) [] S :=
  hz ▸ op_max hp ho hx hy
end
abbrev ownRn (l : List Rn) : Ret := .own 102 2 (l.map rnP)
abbrev rnsW (l : List Rn) : Blk := .row 102 2 (l.map rnP)
section
set_option maxRecDepth 10000
set_option maxHeartbeats 4000000
theorem cnt_Of (l : List Rn) (hl : l.length ≤ 1000000000) : Fn Tryz.prog 114 [rnsB l] (ownRn (ofR l)) := by
  by_cases hok : rnsOk l
  · rw [ofR_id hok]
    exact cnt_Of_ok l hl hok
  have h0 := cnt_Right l hl false (by simp [hok])
  generalize hT : l.filter rnR = T at *
  have hTr : ∀ x ∈ T, rnR x = true := fun x hx => by rw [← hT] at hx; exact (List.mem_filter.1 hx).2
  have hTl : T.length ≤ 1000000000 := by rw [← hT]; exact Nat.le_trans (List.length_filter_le _ _) hl
  have hs := sort_run T hTr hTl
  obtain ⟨hp, hsr⟩ := sortRn_spec hTr
  have hR := ofR_sorted (l := l) hsr (fun r => by rw [hp.mem_iff, hT])
  have hQr : ∀ x ∈ sortRn T, rnR x = true := fun x hx => hTr x (hp.mem_iff.1 hx)
  have hQl : (sortRn T).length = T.length := hp.length_eq
  rw [← hR]
  generalize sortRn T = Q at *
  generalize hRR : mergeR Q = R
  clear hR hp hsr hok
  refine fn_intro Tryz.func114 rfl (by kernel_rfl) Tryz.ntmps114 (Nat.le_of_ble_eq_true rfl) ?_
  (have kc1 := h0; refine w0 ?_; (repeat' (first | refine W2.mk ?_ ?_ | refine W1.mk fun hc => ?_)); all_goals clear kc1)
  refine AW_le (Le_nil 3 600 102 2 rfl rfl) ?_
  refine AW_loopP (X := Nat × List Rn) (fun x => x.1 ≤ l.length ∧ x.2 ++ (l.drop x.1).filter rnR = T)
    (fun x => mkSt [(3, .row 600 0), (14, rnsB l), (15, iC .i64 (l.length : Nat)), (16, iC .i64 (x.1 : Nat))] [(600, rnsW x.2)]) (fun x => l.length - x.1) (0, []) ⟨Nat.zero_le _, by simp [hT]⟩ ?_ ?_
  · exact le_auto
  · rintro ⟨k, ac⟩ ⟨g1, g2⟩
    simp only at g1 g2 ⊢
    by_cases hk : k < l.length
    · have hir := cnt_one l[k]
      have hlen : ac.length ≤ 1000000000 := by
        have := congrArg List.length g2
        simp only [List.length_append] at this; omega
      rw [List.drop_eq_getElem_cons hk, List.filter_cons] at g2
      cases hr : rnR l[k] with
      | false =>
        rw [hr] at hir g2
        clear hTr hQr hs
        (have kc1 := hir; refine w0 ?_; (repeat' (first | refine W2.mk ?_ ?_ | refine W1.mk fun hc => ?_)); all_goals clear kc1)
        refine ⟨(k + 1, ac), ⟨by simp only; omega, by simpa using g2⟩, by simp only; omega, ?_⟩
        exact le_auto
      | true =>
        rw [hr] at hir g2
        clear hTr hQr hs
        (have kc1 := hir; refine w0 ?_; (repeat' (first | refine W2.mk ?_ ?_ | refine W1.mk fun hc => ?_)); all_goals clear kc1)
        refine ⟨(k + 1, ac ++ [l[k]]), ⟨by simp only; omega, by simpa using g2⟩, by simp only; omega, Le_trans (Le_mv 600 601) (Le_trans (Le_mv 601 600) ?_)⟩
        exact le_auto
    · have hkl : k = l.length := by omega
      subst hkl
      rw [List.drop_length] at g2
      simp at g2
      subst g2
      (have km1 := (show FnMs [(1000, 600)] _ _ _ _ _ _ from hs); refine w0 ?_; (repeat' (first | refine W2.mk ?_ ?_ | refine W1.mk fun hc => ?_)); all_goals clear km1)
      clear hs hTr hT
      refine AW_le (Le_nil 6 700 102 2 rfl rfl) ?_
      refine AW_loopP (X := Nat × List Rn) (fun x => x.1 ≤ Q.length ∧ x.2.length ≤ x.1 ∧ ((x.2 = [] ∧ x.1 = 0) ∨ ∃ o y, x.2 = o ++ [y] ∧ rnR y = true ∧ o ++ mgC y (Q.drop x.1) = R))
        (fun x => mkSt [(6, .row 700 0), (29, .row 600 0), (30, iC .i64 (Q.length : Nat)), (31, iC .i64 (x.1 : Nat))] [(600, rnsW Q), (700, rnsW x.2)]) (fun x => Q.length - x.1) (0, []) ⟨Nat.zero_le _, Nat.le_refl _, .inl ⟨rfl, rfl⟩⟩ ?_ ?_
      · exact le_auto
      · rintro ⟨k, out⟩ ⟨g1, g0, g2⟩
        simp only at g1 g0 g2 ⊢
        by_cases hk : k < Q.length
        · have hxr := hQr _ (List.getElem_mem hk)
          have hdr := List.drop_eq_getElem_cons hk
          generalize hx : Q[k] = x at *
          have HQ : (Q.map rnP)[k]? = some (rnP x) := by rw [List.getElem?_map, List.getElem?_eq_getElem hk, hx]; rfl
          have hxi := (rnR_iff x).1 hxr
          clear hQr
          rcases g2 with ⟨rfl, rfl⟩ | ⟨o, y, rfl, hyr, g2⟩
          · have g4 : [] ++ mgC x (Q.drop 1) = R := by
              rw [List.drop_zero] at hdr
              rw [← hRR, hdr]; rfl
            (refine w0 ?_; (repeat' (first | refine W2.mk ?_ ?_ | refine W1.mk fun hc => ?_ | ((first | apply AL_t rfl | apply AL_0 rfl | apply AD_t rfl | apply AD_0 rfl); (focus (first | ((apply u_k 5; (focus rfl); exact u_load_rA ⟨rfl, rfl, rfl⟩ rfl inferInstance inferInstance rfl rfl rfl HQ rfl rfl rfl)) | (apply u_g; (focus rfl); apply op_gyes rfl rfl rfl rfl rfl; first | ((apply u_k 5; (focus rfl); exact u_load_rA ⟨rfl, rfl, rfl⟩ rfl inferInstance inferInstance rfl rfl rfl HQ rfl rfl rfl))))); refine w0 ?_))))
            refine ⟨(1, [x]), ⟨by simp only; omega, Nat.le_refl _, .inr ⟨[], x, rfl, hxr, g4⟩⟩, by simp only; omega, Le_trans (Le_mv 700 701) (Le_trans (Le_mv 701 700) ?_)⟩
            exact le_auto
          · have hyi := (rnR_iff y).1 hyr
            rw [hdr, mgC] at g2
            have hL1 : (o ++ [y]).length = o.length + 1 := by simp
            have hM : (if x.to > y.to then x.to else y.to) = max y.to x.to := by omega
            have hmr : rnR ⟨y.fr, max y.to x.to⟩ = true := (rnR_iff _).2 (by simp only; omega)
            generalize max y.to x.to = M at *
            generalize hL : o ++ [y] = L at *
            have hLi : ((L.length : Int) - 1).toNat = o.length := by omega
            have HY : (L.map rnP)[((L.length : Int) - 1).toNat]? = some (rnP y) := by
              rw [List.getElem?_map, hLi, ← hL]
              simp
            have HS1 : (L.map rnP).set ((L.length : Int) - 1).toNat (setP (rnP y) 1 [rawP (.int .i64 M)]) = (o ++ [(⟨y.fr, M⟩ : Rn)]).map rnP := by
              rw [show (L.map rnP).set ((L.length : Int) - 1).toNat (setP (rnP y) 1 [rawP (.int .i64 M)]) = (L.set ((L.length : Int) - 1).toNat ⟨y.fr, M⟩).map rnP from map_set2 rnP L _ (⟨y.fr, M⟩ : Rn), ← hL, set_at2 o y _ [] _ (by rw [hL]; omega)]
            have hML : (o ++ [(⟨y.fr, M⟩ : Rn)]).length = L.length := by rw [← hL]; simp
            by_cases c : x.fr - y.to < 2
            · rw [if_pos c] at g2
              (repeat' (first | refine AW_seq ?_ | refine AW_block ?_ | refine AW_skip ?_ | refine AW_exit ?_ | refine AW_ret ?_ | refine AW_region ?_ | refine AW_draw mixed0 ?_ | refine AL_nil ?_ | refine AD_nil (by kernel_rfl) ?_ | (refine AW_cl rfl rfl ⟨fun hc => ?_, fun hc => ?_⟩ <;> (repeat rw [List.length_map] at hc) <;> (try exact absd hc)) | ((first | apply AL_t rfl | apply AL_0 rfl | apply AD_t rfl | apply AD_0 rfl); focus (first | ((apply u_k 19; (focus rfl); exact op_maxZ ⟨rfl, rfl, rfl⟩ rfl rfl rfl hM)) | (apply u_g; (focus rfl); apply op_gyes rfl rfl rfl rfl rfl; ((apply u_k 19; (focus rfl); exact op_maxZ ⟨rfl, rfl, rfl⟩ rfl rfl rfl hM))) | exact z_auto | ((apply u_k 5; (focus rfl); first | exact u_load_r1 ⟨rfl, rfl, rfl⟩ rfl inferInstance rfl rfl rfl HY rfl | exact u_load_rA ⟨rfl, rfl, rfl⟩ rfl inferInstance inferInstance rfl rfl rfl HQ rfl rfl rfl)) | (apply u_g; (focus rfl); apply op_gyes rfl rfl rfl rfl rfl; ((apply u_k 5; (focus rfl); first | exact u_load_r1 ⟨rfl, rfl, rfl⟩ rfl inferInstance rfl rfl rfl HY rfl | exact u_load_rA ⟨rfl, rfl, rfl⟩ rfl inferInstance inferInstance rfl rfl rfl HQ rfl rfl rfl))) | ((apply u_k 6; (focus rfl); exact u_store_r ⟨rfl, rfl⟩ rfl inferInstance rfl rfl rfl rfl HY rfl (part_raw rfl rfl rfl) rfl HS1)) | (apply u_g; (focus rfl); apply op_gyes rfl rfl rfl rfl rfl; ((apply u_k 6; (focus rfl); exact u_store_r ⟨rfl, rfl⟩ rfl inferInstance rfl rfl rfl rfl HY rfl (part_raw rfl rfl rfl) rfl HS1))) | fail)) | refine thenA_n ?_ | refine thenA_r ?_ | refine thenA_e ?_ | refine inB_n ?_ | refine inB_r ?_ | refine inB_hit ?_ | refine inB_miss rfl ?_ | ((first | refine AL_cl rfl rfl rfl ⟨fun hc => ?_, fun hc => ?_⟩ | refine AD_cl rfl rfl rfl ⟨fun hc => ?_, fun hc => ?_⟩) <;> (fail_if_success (have q : (true = true) := hc)) <;> (fail_if_success (have q : (false = false) := hc)) <;> (repeat rw [List.length_map] at hc) <;> (try exact absd hc)) | refine AW_cond_nil rfl rfl (fun hc => ?_) ?_))
              refine ⟨(k + 1, _), ⟨by simp only; omega, by simp only; omega, .inr ⟨o, _, rfl, hmr, g2⟩⟩, by simp only; omega, ?_⟩
              exact le_auto
            · rw [if_neg c] at g2
              (refine w0 ?_; (repeat' (first | refine W2.mk ?_ ?_ | refine W1.mk fun hc => ?_ | ((first | apply AL_t rfl | apply AL_0 rfl | apply AD_t rfl | apply AD_0 rfl); (focus (first | ((apply u_k 5; (focus rfl); first | exact u_load_r1 ⟨rfl, rfl, rfl⟩ rfl inferInstance rfl rfl rfl HY rfl | exact u_load_rA ⟨rfl, rfl, rfl⟩ rfl inferInstance inferInstance rfl rfl rfl HQ rfl rfl rfl)) | (apply u_g; (focus rfl); apply op_gyes rfl rfl rfl rfl rfl; first | ((apply u_k 5; (focus rfl); first | exact u_load_r1 ⟨rfl, rfl, rfl⟩ rfl inferInstance rfl rfl rfl HY rfl | exact u_load_rA ⟨rfl, rfl, rfl⟩ rfl inferInstance inferInstance rfl rfl rfl HQ rfl rfl rfl))))); refine w0 ?_))))
              refine ⟨(k + 1, L ++ [x]), ⟨by simp only; omega, by simp; omega, .inr ⟨L, x, rfl, hxr, by simp only; rw [← hL, List.append_assoc]; exact g2⟩⟩, by simp only; omega, Le_trans (Le_mv 700 701) (Le_trans (Le_mv 701 700) ?_)⟩
              exact le_auto
        · have hkl : k = Q.length := by omega
          subst hkl
          have g3 : out = R := by
            rcases g2 with ⟨a, b⟩ | ⟨o, y, a, _, b⟩
            · rw [a, ← hRR, List.eq_nil_of_length_eq_zero b]; rfl
            · rw [List.drop_length] at b
              rw [a, ← b]; rfl
          clear g2 hRR hQr
          (refine w0 ?_; (repeat' (first | refine W2.mk ?_ ?_ | refine W1.mk fun hc => ?_)))
          (refine ⟨(by first | exact .inl rfl | exact .inr rfl), res1 rfl ?_⟩)
          exact rv_ownM rfl rfl rfl g3
end
end Go.Proofs.YtbpmafpmlapekaaGreat
namespace Go.Proofs.YtbpmafpmlapekaaGreat
def hasRb (l : List Rn) (n : Int) : Bool := l.any fun r => rnR r && (decide (r.fr ≤ n) && decide (n ≤ r.to))
theorem hasRb_iff (l : List Rn) (n : Int) : hasRb l n = true ↔ hasR l n := by
  unfold hasRb hasR
  rw [List.any_eq_true]
  simp
theorem hasRb_cong {l m : List Rn} {n : Int} (h : hasR l n ↔ hasR m n) : hasRb l n = hasRb m n := by
  rw [Bool.eq_iff_iff, hasRb_iff, hasRb_iff]; exact h
/-- a number put among rising ones, once -/
def putN : List Int → Int → List Int
  | [], n => [n]
  | x :: l, n => if x < n then x :: putN l n else if x = n then x :: l else n :: x :: l
theorem putN_mem : ∀ (l : List Int) (n m : Int), m ∈ putN l n ↔ m = n ∨ m ∈ l := by
  intro l
  induction l with
  | nil => intro n m; simp [putN]
  | cons x l ih =>
    intro n m
    rw [putN]
    split
    · simp only [List.mem_cons, ih]
      constructor
      · rintro (h | h | h) <;> simp [h]
      · rintro (h | h | h) <;> simp [h]
    · split
      · rename_i e
        subst e
        simp
      · simp
abbrev upN (l : List Int) : Prop := l.Pairwise (· < ·)
theorem putN_up : ∀ (l : List Int) (n : Int), upN l → upN (putN l n) := by
  intro l
  induction l with
  | nil => intro n _; simp [putN]
  | cons x l ih =>
    intro n h
    obtain ⟨h1, h2⟩ := List.pairwise_cons.1 h
    rw [putN]
    split
    · rename_i c
      refine List.pairwise_cons.2 ⟨fun z hz => ?_, ih n h2⟩
      rcases (putN_mem _ _ _).1 hz with rfl | hz
      · exact c
      · exact h1 z hz
    · split
      · exact h
      · refine List.pairwise_cons.2 ⟨fun z hz => ?_, h⟩
        rcases List.mem_cons.1 hz with rfl | hz
        · omega
        · have := h1 z hz; omega
def edg1 (e : List Int) (r : Rn) : List Int := if rnR r then putN (putN e r.fr) (r.to + 1) else e
def edgR (e : List Int) (l : List Rn) : List Int := l.foldl edg1 e
theorem edg1_up {e : List Int} {r : Rn} (h : upN e) : upN (edg1 e r) := by
  unfold edg1; split
  · exact putN_up _ _ (putN_up _ _ h)
  · exact h
theorem edgR_up : ∀ (l : List Rn) (e : List Int), upN e → upN (edgR e l) := by
  intro l
  induction l with
  | nil => intro e h; exact h
  | cons r l ih => intro e h; exact ih _ (edg1_up h)
theorem edgR_mem : ∀ (l : List Rn) (e : List Int) (m : Int), m ∈ edgR e l ↔ m ∈ e ∨ ∃ r ∈ l, rnR r = true ∧ (m = r.fr ∨ m = r.to + 1) := by
  intro l
  induction l with
  | nil => intro e m; simp [edgR]
  | cons r l ih =>
    intro e m
    show m ∈ edgR (edg1 e r) l ↔ _
    rw [ih]
    unfold edg1
    by_cases c : rnR r = true
    · rw [if_pos c, putN_mem, putN_mem]
      constructor
      · rintro ((h | h | h) | ⟨x, hx, h⟩)
        · exact .inr ⟨r, by simp, c, .inr h⟩
        · exact .inr ⟨r, by simp, c, .inl h⟩
        · exact .inl h
        · exact .inr ⟨x, by simp [hx], h⟩
      · rintro (h | ⟨x, hx, h⟩)
        · exact .inl (.inr (.inr h))
        · rcases List.mem_cons.1 hx with rfl | hx
          · rcases h.2 with h | h
            · exact .inl (.inr (.inl h))
            · exact .inl (.inl h)
          · exact .inr ⟨x, hx, h⟩
    · rw [if_neg c]
      constructor
      · rintro (h | ⟨x, hx, h⟩)
        · exact .inl h
        · exact .inr ⟨x, by simp [hx], h⟩
      · rintro (h | ⟨x, hx, h⟩)
        · exact .inl h
        · rcases List.mem_cons.1 hx with rfl | hx
          · exact absurd h.1 c
          · exact .inr ⟨x, hx, h⟩
theorem edgR_len : ∀ (l : List Rn) (e : List Int), (edgR e l).length ≤ e.length + 2 * l.length := by
  have h1 : ∀ (l : List Int) (n : Int), (putN l n).length ≤ l.length + 1 := by
    intro l
    induction l with
    | nil => intro n; simp [putN]
    | cons x l ih =>
      intro n
      rw [putN]
      split
      · have := ih n; simp; omega
      · split <;> simp
  intro l
  induction l with
  | nil => intro e; simp [edgR]
  | cons r l ih =>
    intro e
    show (edgR (edg1 e r) l).length ≤ _
    have h2 := ih (edg1 e r)
    have h3 : (edg1 e r).length ≤ e.length + 2 := by
      unfold edg1
      split
      · have a := h1 (putN e r.fr) (r.to + 1)
        have b := h1 e r.fr
        omega
      · omega
    rw [List.length_cons]; omega
/-- the stretches between edges of which it is said -/
def segF (f : Int → Bool) : List Int → List Rn
  | e :: e' :: E => (if f e then [⟨e, e' - 1⟩] else []) ++ segF f (e' :: E)
  | _ => []
theorem segF_low (f : Int → Bool) : ∀ (E : List Int) (e : Int), upN (e :: E) → (∀ m ∈ e :: E, 1 ≤ m ∧ m ≤ 1099511627777) → ∀ r ∈ segF f (e :: E), rnR r = true ∧ e ≤ r.fr := by
  intro E
  induction E with
  | nil => intro e _ _ r hr; simp [segF] at hr
  | cons e' E ih =>
    intro e h hm r hr
    obtain ⟨h1, h2⟩ := List.pairwise_cons.1 h
    have h3 := h1 e' (by simp)
    rw [segF, List.mem_append] at hr
    rcases hr with hr | hr
    · split at hr
      · have hr : r = ⟨e, e' - 1⟩ := by simpa using hr
        subst hr
        have a := hm e (by simp)
        have b := hm e' (by simp)
        exact ⟨(rnR_iff _).2 (by simp only; omega), Int.le_refl _⟩
      · simp at hr
    · have := ih e' h2 (fun m hm' => hm m (by simp at hm' ⊢; exact .inr hm')) r hr
      exact ⟨this.1, by omega⟩
theorem segF_srt (f : Int → Bool) : ∀ (E : List Int), upN E → (∀ m ∈ E, 1 ≤ m ∧ m ≤ 1099511627777) → srtR (segF f E) := by
  intro E
  induction E with
  | nil => intro _ _; exact List.Pairwise.nil
  | cons e E ih =>
    intro h hm
    cases E with
    | nil => exact List.Pairwise.nil
    | cons e' E =>
      obtain ⟨h1, h2⟩ := List.pairwise_cons.1 h
      have hm' : ∀ m ∈ e' :: E, 1 ≤ m ∧ m ≤ 1099511627777 := fun m q => hm m (by simp at q ⊢; exact .inr q)
      have h3 := ih h2 hm'
      rw [segF]
      split
      · refine List.pairwise_cons.2 ⟨fun z hz => ?_, h3⟩
        have := (segF_low f E e' h2 hm' z hz).2
        have := h1 e' (by simp)
        simp only; omega
      · exact h3
/-- what is said turns at edges alone -/
structure Cst (f : Int → Bool) (M : Int → Prop) : Prop where
  mid : ∀ e n, e ≤ n → (∀ m, M m → m ≤ e ∨ n < m) → f e = f n
  lo : ∀ n, (∀ m, M m → n < m) → f n = false
  hi : ∀ n, (∀ m, M m → m ≤ n) → f n = false
theorem segF_has {f : Int → Bool} {M : Int → Prop} (hf : Cst f M) : ∀ (E : List Int) (e : Int), upN (e :: E) → (∀ m ∈ e :: E, 1 ≤ m ∧ m ≤ 1099511627777) → (∀ m, M m → m ≤ e ∨ m ∈ E) → ∀ n, e ≤ n → (hasR (segF f (e :: E)) n ↔ f n = true) := by
  intro E
  induction E with
  | nil =>
    intro e _ _ hM n hn
    have : f n = false := hf.hi n (fun m hm => by rcases hM m hm with h | h; · omega
                                                  · simp at h)
    rw [this]
    simp [segF, hasR_nil]
  | cons e' E ih =>
    intro e h hm hM n hn
    obtain ⟨h1, h2⟩ := List.pairwise_cons.1 h
    have h3 := h1 e' (by simp)
    have hm' : ∀ m ∈ e' :: E, 1 ≤ m ∧ m ≤ 1099511627777 := fun m q => hm m (by simp at q ⊢; exact .inr q)
    obtain ⟨h4, _⟩ := List.pairwise_cons.1 h2
    have a := hm e (by simp)
    have b := hm e' (by simp)
    rw [segF, hasR_app]
    by_cases c : n < e'
    · have hno : ¬ hasR (segF f (e' :: E)) n := fun ⟨r, hr, _, q, _⟩ => by
        have := (segF_low f E e' h2 hm' r hr).2
        omega
      have he : f e = f n := hf.mid e n hn (fun m q => by
        rcases hM m q with z | z
        · exact .inl z
        · rcases List.mem_cons.1 z with rfl | z
          · exact .inr c
          · have := h4 m z
            exact .inr (by omega))
      rw [← he]
      constructor
      · rintro (q | q)
        · split at q
          · assumption
          · exact absurd q (hasR_nil n)
        · exact absurd q hno
      · intro q
        rw [if_pos q]
        exact .inl ((hasR_cons _ _ _).2 (.inl ⟨(rnR_iff _).2 (by simp only; omega), hn, by simp only; omega⟩))
    · rw [ih e' h2 hm' (fun m q => by
        rcases hM m q with z | z
        · exact .inl (by omega)
        · rcases List.mem_cons.1 z with rfl | z
          · exact .inl (Int.le_refl _)
          · exact .inr z) n (by omega)]
      constructor
      · rintro (q | q)
        · split at q
          · rcases (hasR_cons _ _ _).1 q with q | q
            · simp only at q; omega
            · exact absurd q (hasR_nil n)
          · exact absurd q (hasR_nil n)
        · exact q
      · exact .inr
def opR (f : Int → Bool) (a b : List Rn) : List Rn := mergeR (segF f (edgR (edgR [] a) b))
/-- what is said of counts by whether lists have them -/
def byR (keep : Bool → Bool → Bool) (a b : List Rn) (n : Int) : Bool := keep (hasRb a n) (hasRb b n)
abbrev edM (a b : List Rn) (m : Int) : Prop := m ∈ edgR (edgR [] a) b
theorem edM_iff (a b : List Rn) (m : Int) : edM a b m ↔ (∃ r ∈ a, rnR r = true ∧ (m = r.fr ∨ m = r.to + 1)) ∨ ∃ r ∈ b, rnR r = true ∧ (m = r.fr ∨ m = r.to + 1) := by
  unfold edM
  rw [edgR_mem, edgR_mem]
  simp
theorem hasRb_mid {l : List Rn} {e n : Int} (hen : e ≤ n) (h : ∀ r ∈ l, rnR r = true → (r.fr ≤ e ∨ n < r.fr) ∧ (r.to + 1 ≤ e ∨ n < r.to + 1)) : hasRb l e = hasRb l n := by
  rw [Bool.eq_iff_iff, hasRb_iff, hasRb_iff]
  refine ⟨fun ⟨r, hr, c, q⟩ => ?_, fun ⟨r, hr, c, q⟩ => ?_⟩
  · have := h r hr c
    exact ⟨r, hr, c, by omega, by omega⟩
  · have := h r hr c
    exact ⟨r, hr, c, by omega, by omega⟩
theorem hasRb_no {l : List Rn} {n : Int} (h : ∀ r ∈ l, rnR r = true → n < r.fr ∨ r.to + 1 ≤ n) : hasRb l n = false := by
  rw [← Bool.not_eq_true, hasRb_iff]
  rintro ⟨r, hr, c, q⟩
  have := h r hr c
  omega
theorem byR_cst {keep : Bool → Bool → Bool} (hk : keep false false = false) (a b : List Rn) : Cst (byR keep a b) (edM a b) := by
  have inA : ∀ r ∈ a, rnR r = true → edM a b r.fr ∧ edM a b (r.to + 1) := fun r hr c => ⟨(edM_iff _ _ _).2 (.inl ⟨r, hr, c, .inl rfl⟩), (edM_iff _ _ _).2 (.inl ⟨r, hr, c, .inr rfl⟩)⟩
  have inB : ∀ r ∈ b, rnR r = true → edM a b r.fr ∧ edM a b (r.to + 1) := fun r hr c => ⟨(edM_iff _ _ _).2 (.inr ⟨r, hr, c, .inl rfl⟩), (edM_iff _ _ _).2 (.inr ⟨r, hr, c, .inr rfl⟩)⟩
  refine ⟨fun e n hen h => ?_, fun n h => ?_, fun n h => ?_⟩
  · unfold byR
    rw [hasRb_mid hen (fun r hr c => ⟨h _ (inA r hr c).1, h _ (inA r hr c).2⟩), hasRb_mid hen (fun r hr c => ⟨h _ (inB r hr c).1, h _ (inB r hr c).2⟩)]
  · unfold byR
    rw [hasRb_no (fun r hr c => .inl (h _ (inA r hr c).1)), hasRb_no (fun r hr c => .inl (h _ (inB r hr c).1)), hk]
  · unfold byR
    rw [hasRb_no (fun r hr c => .inr (h _ (inA r hr c).2)), hasRb_no (fun r hr c => .inr (h _ (inB r hr c).2)), hk]
theorem edM_rng {a b : List Rn} {m : Int} (h : edM a b m) : 1 ≤ m ∧ m ≤ 1099511627777 := by
  rcases (edM_iff _ _ _).1 h with ⟨r, _, c, q⟩ | ⟨r, _, c, q⟩ <;>
  · have := (rnR_iff r).1 c
    omega
theorem opR_ok {keep : Bool → Bool → Bool} (hk : keep false false = false) (a b : List Rn) : rnsOk (opR (byR keep a b) a b) ∧ ∀ n, hasR (opR (byR keep a b) a b) n ↔ byR keep a b n = true := by
  have hc := byR_cst hk a b
  have hup : upN (edgR (edgR [] a) b) := edgR_up _ _ (edgR_up _ _ List.Pairwise.nil)
  have hrg : ∀ m ∈ edgR (edgR [] a) b, 1 ≤ m ∧ m ≤ 1099511627777 := fun m hm => edM_rng hm
  unfold opR
  unfold edM at hc
  generalize byR keep a b = f at *
  generalize edgR (edgR [] a) b = E at *
  have hR : ∀ r ∈ segF f E, rnR r = true := fun r hr => by
    cases E with
    | nil => simp [segF] at hr
    | cons e E => exact (segF_low f E e hup hrg r hr).1
  have h1 := mergeR_ok (segF_srt f E hup hrg) hR
  refine ⟨h1.1, fun n => ?_⟩
  rw [h1.2 n]
  cases E with
  | nil =>
    rw [hc.lo n (fun m hm => by simp at hm)]
    simp [segF, hasR_nil]
  | cons e E =>
    by_cases q : e ≤ n
    · exact segF_has hc E e hup hrg (fun m hm => by
        rcases List.mem_cons.1 hm with rfl | hm
        · exact .inl (Int.le_refl _)
        · exact .inr hm) n q
    · rw [hc.lo n (fun m hm => by
        rcases List.mem_cons.1 hm with rfl | hm
        · omega
        · have := (List.pairwise_cons.1 hup).1 m hm; omega)]
      refine ⟨fun ⟨r, hr, _, z, _⟩ => ?_, fun z => by cases z⟩
      have := (segF_low f E e hup hrg r hr).2
      omega
theorem segF_len (f : Int → Bool) : ∀ (E : List Int), (segF f E).length ≤ E.length := by
  intro E
  induction E with
  | nil => simp [segF]
  | cons e E ih =>
    cases E with
    | nil => simp [segF]
    | cons e' E =>
      rw [segF, List.length_append]
      have : (if f e then [(⟨e, e' - 1⟩ : Rn)] else []).length ≤ 1 := by split <;> simp
      simp only [List.length_cons] at ih ⊢
      omega
theorem opR_len (f : Int → Bool) (a b : List Rn) : (opR f a b).length ≤ 2 * (a.length + b.length) := by
  have h1 := mergeR_len (segF f (edgR (edgR [] a) b))
  have h2 := segF_len f (edgR (edgR [] a) b)
  have h3 := edgR_len b (edgR [] a)
  have h4 := edgR_len a []
  unfold opR
  simp at h4
  omega
/-- a right list that has just what is said of both -/
theorem opR_eq {keep : Bool → Bool → Bool} (hk : keep false false = false) {a b m : List Rn} (h : rnsOk m) (e : ∀ n, hasR m n ↔ byR keep a b n = true) : opR (byR keep a b) a b = m :=
  rnsOk_uniq (opR_ok hk a b).1 h (fun n => ((opR_ok hk a b).2 n).trans (e n).symm)
theorem opR_or (a b : List Rn) : opR (byR (fun x y => x || y) a b) a b = ofR (a ++ b) := by
  refine opR_eq rfl (ofR_ok _) (fun n => ?_)
  rw [ofR_has, hasR_app, byR, Bool.or_eq_true, hasRb_iff, hasRb_iff]
def lessK (x y : Bool) : Bool := x && !y
def lessR (a b : List Rn) : List Rn := opR (byR lessK a b) a b
end Go.Proofs.YtbpmafpmlapekaaGreat
