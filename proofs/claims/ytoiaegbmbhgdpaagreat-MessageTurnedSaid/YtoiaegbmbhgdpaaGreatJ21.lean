/- Texts joined: FcR Law10P. -/
import Derived.Test.YtoiaegbmbhgdpaaGreatJ17
import Derived.Test.YtoiaegbmbhgdpaaGreatJ20
import Derived.Test.YtoiaegbmbhgdpaaGreatJ09
namespace Go.Proofs.YtoiaegbmbhgdpaaGreat
open Go.RowKit
def ba (l : List UInt8) : ByteArray := ⟨l.toArray⟩
/-- a range read; what is left, and the first error -/
def rgSt (l : List UInt8) (e : Int) : Rg × List UInt8 × Int :=
  let t := textSt 17 l e
  let o := withinSt 0 1 t.2.1 t.2.2
  if (o.1 == 1) = true then (⟨ba t.1, e0, true⟩, o.2.1, o.2.2) else
    let h := textSt 17 o.2.1 o.2.2
    (⟨ba t.1, ba h.1, false⟩, h.2.1, h.2.2)
/-- as many things, read one behind the other, till an error -/
def lsSt {α : Type} (st : List UInt8 → Int → α × List UInt8 × Int) : Nat → List α → List UInt8 → Int → List α × List UInt8 × Int
  | 0, acc, l, e => (acc, l, e)
  | n + 1, acc, l, e => if e ≠ 0 then (acc, l, e) else lsSt st n (acc ++ [(st l e).1]) (st l e).2.1 (st l e).2.2
def lisSt {α : Type} (st : List UInt8 → Int → α × List UInt8 × Int) (most : Int) (l : List UInt8) (e : Int) : List α × List UInt8 × Int :=
  lsSt st (withinSt 0 most l e).1.toNat [] (withinSt 0 most l e).2.1 (withinSt 0 most l e).2.2
theorem lsSt_suf {α : Type} {st : List UInt8 → Int → α × List UInt8 × Int} (h : ∀ l e, (st l e).2.1 <:+ l) : ∀ (n : Nat) (acc : List α) (l : List UInt8) (e : Int), (lsSt st n acc l e).2.1 <:+ l := by
  intro n
  induction n with
  | zero => intro acc l e; exact List.suffix_refl l
  | succ n ih =>
    intro acc l e
    unfold lsSt
    split
    · exact List.suffix_refl l
    · exact (ih _ _ _).trans (h _ _)
theorem lsSt_len {α : Type} {st : List UInt8 → Int → α × List UInt8 × Int} : ∀ (n : Nat) (acc : List α) (l : List UInt8) (e : Int), (lsSt st n acc l e).1.length ≤ acc.length + n := by
  intro n
  induction n with
  | zero => intro acc l e; simp [lsSt]
  | succ n ih =>
    intro acc l e
    unfold lsSt
    split
    · simp
    · have := ih (acc ++ [(st l e).1]) (st l e).2.1 (st l e).2.2
      simp at this ⊢; omega
instance (l : List Rg) : Decidable (rgsOk l) := by unfold rgsOk rgOk; infer_instance
/-- the first error, or what was read if it is right -/
def finL {α : Type} (ok : List α → Prop) [DecidablePred ok] (r : List α × List UInt8 × Int) : List α × Int :=
  if endSt r.2.1 r.2.2 ≠ 0 then ([], endSt r.2.1 r.2.2) else if ok r.1 then (r.1, 0) else ([], 11)
def rdRgs (b : List UInt8) : List Rg × Int := finL rgsOk (lisSt rgSt 4096 b 0)
section
set_option maxRecDepth 10000
set_option maxHeartbeats 8000000
theorem fc_span (l : List UInt8) (e : Int) : FnM Tryz.prog 145 [.aggK rdC .aggN] [(1000, rdBox l e)] (rgC (rgSt l e).1) [(1000, rdBox (rgSt l e).2.1 (rgSt l e).2.2)] := by
  dsimp only [rgSt]
  have h1 := r_Text l e 17
  generalize textSt 17 l e = t at *
  have h2 := r_Bool t.2.1 t.2.2
  generalize withinSt 0 1 t.2.1 t.2.2 = o at *
  have h3 := r_Text o.2.1 o.2.2 17
  generalize textSt 17 o.2.1 o.2.2 = h at *
  by_cases ho : (o.1 == 1) = true
  · rw [if_pos ho]
    rw [ho] at h2
    refine fnm_intro Tryz.func145 rfl (by kernel_rfl) Tryz.ntmps145 (Nat.le_of_ble_eq_true rfl) ?_
    (have kr1 := h1; have kr2 := h2; have kr3 := h3; refine w0 ?_; (repeat' (first | refine W2.mk ?_ ?_ | refine W1.mk fun hc => ?_)); all_goals clear kr3 kr2 kr1)
    (refine ⟨(by first | exact .inl rfl | exact .inr rfl), resM1 [(1000, 1000)] rfl rfl ?_ ?_⟩; (focus (repeat (first | exact AllX.nil | (refine AllX.cons rfl ?_ ?_; (focus first | rfl | skip))))))
    exact rvm_cellA inferInstance inferInstance rfl rfl rfl rfl rfl rfl
  · rw [if_neg ho]
    rw [show (o.1 == 1) = false by simpa using ho] at h2
    refine fnm_intro Tryz.func145 rfl (by kernel_rfl) Tryz.ntmps145 (Nat.le_of_ble_eq_true rfl) ?_
    (have kr1 := h1; have kr2 := h2; have kr3 := h3; refine w0 ?_; (repeat' (first | refine W2.mk ?_ ?_ | refine W1.mk fun hc => ?_)); all_goals clear kr3 kr2 kr1)
    (refine ⟨(by first | exact .inl rfl | exact .inr rfl), resM1 [(1000, 1000)] rfl rfl ?_ ?_⟩; (focus (repeat (first | exact AllX.nil | (refine AllX.cons rfl ?_ ?_; (focus first | rfl | skip))))))
    exact rvm_cellA inferInstance inferInstance rfl rfl rfl rfl rfl rfl
abbrev rgFC : Cnt := .per (rawP (.func (.func 145) #[] #[]))
theorem fc_list_rg (most : Int) (hm : 0 ≤ most) (hm2 : most ≤ 1000000) (l : List UInt8) (e : Int) : FnM Tryz.prog 144 [.aggK rdC .aggN, iC .i64 most, rgFC] [(1000, rdBox l e)] (.row 3000 0) [(1000, rdBox (lisSt rgSt most l e).2.1 (lisSt rgSt most l e).2.2), (3000, .row 26 3 ((lisSt rgSt most l e).1.map rgP))] := by
  dsimp only [lisSt]
  have h1 := r_Within l e 0 most
  have hn := within_rng0 (most := most) hm l e
  generalize withinSt 0 most l e = s at *
  obtain ⟨n, l0, e0⟩ := s
  simp only at h1 hn ⊢
  obtain ⟨hn0, hn1⟩ := hn
  obtain ⟨n, rfl⟩ := Int.eq_ofNat_of_zero_le hn0
  rw [Int.toNat_natCast]
  generalize hR : lsSt rgSt n [] l0 e0 = R at *
  refine fnm_intro Tryz.func144 rfl (by kernel_rfl) Tryz.ntmps144 (Nat.le_of_ble_eq_true rfl) ?_
  (have kr1 := h1; refine w0 ?_; (repeat' (first | refine W2.mk ?_ ?_ | refine W1.mk fun hc => ?_)); all_goals clear kr1)
  refine AW_le (Le_nil 8 600 26 3 rfl rfl) ?_
  refine AW_loopP (X := Nat × List Rg × List UInt8 × Int) (fun x => x.1 ≤ n ∧ x.2.1.length ≤ x.1 ∧ lsSt rgSt (n - x.1) x.2.1 x.2.2.1 x.2.2.2 = R)
    (fun x => mkSt [(2, rgFC), (3, .ptr 3 0 0), (7, iC .i64 (n : Nat)), (8, .row 600 0), (9, iC .i64 (x.1 : Nat))] [(3, .box 202 [rdC]), (1000, rdBox x.2.2.1 x.2.2.2), (600, .row 26 3 (x.2.1.map rgP))]) (fun x => n - x.1) (0, [], l0, e0) ⟨Nat.zero_le _, Nat.le_refl _, hR⟩ ?_ ?_
  · exact le_auto
  · rintro ⟨i, acc, l, e⟩ ⟨hi, hacc, hR⟩
    simp only at hi hacc hR ⊢
    have hE := r_Err l e
    by_cases hlt : i < n
    · by_cases he : e = 0
      · subst he
        obtain ⟨m, hm⟩ : ∃ m, n - i = m + 1 := ⟨n - i - 1, by omega⟩
        rw [hm, lsSt, if_neg (by simp)] at hR
        have h2 := fc_span l 0
        generalize rgSt l 0 = q at *
        (have kr1 := hE; refine w0 ?_; (repeat' (first | refine W2.mk ?_ ?_ | refine W1.mk fun hc => ?_ | ((first | apply AL_t rfl | apply AL_0 rfl | apply AD_t rfl | apply AD_0 rfl); (focus (first | (exact c_Vx [(1000, 1000)] h2) | (apply u_g; (focus rfl); apply op_gyes rfl rfl rfl rfl rfl; first | (exact c_Vx [(1000, 1000)] h2)))); refine w0 ?_))); all_goals clear kr1)
        refine ⟨(i + 1, acc ++ [q.1], q.2.1, q.2.2), ⟨by simp only; omega, by simp; omega, by simp only; rw [show n - (i + 1) = m by omega]; exact hR⟩, by simp only; omega, ?_⟩
        exact le_auto
      · have hR2 : R = (acc, l, e) := by
          rw [← hR]
          cases n - i with
          | zero => rfl
          | succ m => rw [lsSt, if_pos he]
        subst hR2
        (have kr1 := hE; refine w0 ?_; (repeat' (first | refine W2.mk ?_ ?_ | refine W1.mk fun hc => ?_)); all_goals clear kr1)
        refine ⟨.inl rfl, resM1 [(1000, 1000), (600, 3000)] rfl rfl ?_ (rvm rfl rfl)⟩
        (repeat (first | exact AllX.nil | (refine AllX.cons rfl ?_ ?_; (focus first | rfl | skip))))
    · have hR2 : R = (acc, l, e) := by
        rw [← hR, show n - i = 0 by omega]; rfl
      subst hR2
      (have kr1 := hE; refine w0 ?_; (repeat' (first | refine W2.mk ?_ ?_ | refine W1.mk fun hc => ?_)); all_goals clear kr1)
      refine ⟨.inl rfl, resM1 [(1000, 1000), (600, 3000)] rfl rfl ?_ (rvm rfl rfl)⟩
      (repeat (first | exact AllX.nil | (refine AllX.cons rfl ?_ ?_; (focus first | rfl | skip))))
end
end Go.Proofs.YtoiaegbmbhgdpaaGreat
namespace Go.Proofs.YtoiaegbmbhgdpaaGreat
open Go.RowKit
section
set_option maxRecDepth 10000
set_option maxHeartbeats 8000000
theorem lisSt_len {α : Type} {st : List UInt8 → Int → α × List UInt8 × Int} {most : Int} (h : 0 ≤ most) (l : List UInt8) (e : Int) : ((lisSt st most l e).1.length : Int) ≤ most := by
  have h1 := lsSt_len (st := st) (withinSt 0 most l e).1.toNat [] (withinSt 0 most l e).2.1 (withinSt 0 most l e).2.2
  have h2 := within_rng0 (most := most) h l e
  unfold lisSt
  simp at h1
  omega
theorem fcode_ReadRanges (b : List UInt8) (hb : b.length ≤ 1000000000) : Fn Tryz.prog 85 [bytesB b] (.tup2 (.own 26 3 ((rdRgs b).1.map rgP)) (inR (rdRgs b).2)) := by
  have h1 := fc_list_rg 4096 (by omega) (by omega) b 0
  have hn := lisSt_len (st := rgSt) (most := 4096) (by omega) b 0
  generalize hQ : rdRgs b = Q at *
  unfold rdRgs at hQ
  generalize lisSt rgSt 4096 b 0 = R at *
  obtain ⟨acc, l, e⟩ := R
  simp only at hQ h1 hn
  have h2 := r_End l e
  have h3 := rgs_Right acc (by omega) (decide (rgsOk acc)) (by simp)
  refine fn_intro Tryz.func85 rfl (by kernel_rfl) Tryz.ntmps85 (Nat.le_of_ble_eq_true rfl) ?_
  (have kn1 := v_New b hb; have km1 := (show FnMs [(1000, 8), (3000, 700)] _ _ _ _ _ _ from h1); have kr1 := h2; have kc1 := h3; refine w0 ?_; (repeat' (first | refine W2.mk ?_ ?_ | refine W1.mk fun hc => ?_)); all_goals clear kc1 kr1 km1 kn1)
  · rw [finL, if_pos (by assumption)] at hQ
    subst hQ
    (refine ⟨(by first | exact .inl rfl | exact .inr rfl), res2 rfl ?_ ?_⟩)
    · exact rv_nil rfl
    · exact rv_int rfl rfl
  · rw [finL, if_neg (by simp [*]), if_neg (by simp_all)] at hQ
    subst hQ
    (refine ⟨(by first | exact .inl rfl | exact .inr rfl), res2 rfl ?_ ?_⟩)
    · exact rv_nil rfl
    · exact rv_int rfl rfl
  · rw [finL, if_neg (by simp [*]), if_pos (by simp_all)] at hQ
    subst hQ
    (refine ⟨(by first | exact .inl rfl | exact .inr rfl), res2 rfl ?_ ?_⟩)
    · exact rv_own rfl rfl rfl
    · exact rv_int rfl rfl
theorem ref_ReadRanges (b : List UInt8) (hb : b.length ≤ 1000000000) : Fn Tryz.prog 62 [.per (bysP b)] (.tup2 (.own 26 3 ((rdRgs b).1.map rgP)) (inR (rdRgs b).2)) := by
  have hs : b <:+ b := List.suffix_refl b
  have hb' : b.length ≤ 1000000000000 := by omega
  generalize hQ : rdRgs b = Q at *
  dsimp only [rdRgs, lisSt] at hQ
  have h1 := rr_Within b b 0 hs hb' 0 4096
  have hn := within_rng0 (most := 4096) (by omega) b 0
  replace hs := (withinSt_suf 0 4096 b 0).trans hs
  generalize withinSt 0 4096 b 0 = s at *
  obtain ⟨n, l0, e0'⟩ := s
  simp only at h1 hn hs hQ
  obtain ⟨hn0, hn1⟩ := hn
  obtain ⟨n, rfl⟩ := Int.eq_ofNat_of_zero_le hn0
  rw [Int.toNat_natCast] at hQ
  generalize hR : lsSt rgSt n [] l0 e0' = R at *
  have e0 : ((b.length - b.length : Nat) : Int) = 0 := by omega
  unfold rrBox at h1
  rw [e0] at h1
  refine fn_intro Tryz.func62 rfl (by kernel_rfl) Tryz.ntmps62 (Nat.le_of_ble_eq_true rfl) ?_
  (have kr1 := h1; refine w0 ?_; (repeat' (first | refine W2.mk ?_ ?_ | refine W1.mk fun hc => ?_)); all_goals clear kr1)
  refine AW_le (Le_nil 6 600 26 3 rfl rfl) ?_
  refine AW_loopP (X := Nat × List Rg × List UInt8 × Int) (fun x => x.1 ≤ n ∧ x.2.1.length ≤ x.1 ∧ x.2.2.1 <:+ b ∧ lsSt rgSt (n - x.1) x.2.1 x.2.2.1 x.2.2.2 = R)
    (fun x => mkSt [(4, .ptr 11 0 0), (5, iC .i64 (n : Nat)), (6, .row 600 0), (7, iC .i64 (x.1 : Nat))] [(11, rrBox b x.2.2.1 x.2.2.2), (600, .row 26 3 (x.2.1.map rgP))]) (fun x => n - x.1) (0, [], l0, e0') ⟨Nat.zero_le _, Nat.le_refl _, hs, hR⟩ ?_ ?_
  · exact le_auto
  · clear h1 hR hs
    rintro ⟨i, acc, l, e⟩ ⟨hi, hacc, hs, hR⟩
    simp only at hi hacc hs hR ⊢
    have hD := rr_End b l e hs
    by_cases hst : i < n ∧ e = 0
    · obtain ⟨hlt, he⟩ := hst
      subst he
      obtain ⟨m, hm⟩ : ∃ m, n - i = m + 1 := ⟨n - i - 1, by omega⟩
      rw [hm, lsSt, if_neg (by simp)] at hR
      clear hQ hD
      dsimp only [rgSt] at hR
      have h2 := rr_Text b l 0 hs hb' 17
      replace hs := (textSt_suf 17 l 0).trans hs
      generalize textSt 17 l 0 = t at *
      have h3 := rr_Within b t.2.1 t.2.2 hs hb' 0 1
      replace hs := (withinSt_suf 0 1 t.2.1 t.2.2).trans hs
      generalize withinSt 0 1 t.2.1 t.2.2 = o at *
      by_cases ho : o.1 = 1
      · rw [if_pos (by simp [ho])] at hR
        rw [ho] at h3
        (have kr1 := h2; have kr2 := h3; refine w0 ?_; (repeat' (first | refine W2.mk ?_ ?_ | refine W1.mk fun hc => ?_)); all_goals clear kr2 kr1)
        refine ⟨(i + 1, acc ++ [⟨ba t.1, ByteArray.mk #[], true⟩], o.2.1, o.2.2), ⟨by simp only; omega, by simp; omega, hs, by simp only; rw [show n - (i + 1) = m by omega]; exact hR⟩, by simp only; omega, ?_⟩
        exact le_auto
      · rw [if_neg (by simp [ho])] at hR
        have h4 := rr_Text b o.2.1 o.2.2 hs hb' 17
        replace hs := (textSt_suf 17 o.2.1 o.2.2).trans hs
        generalize textSt 17 o.2.1 o.2.2 = h at *
        (have kr1 := h2; have kr2 := h3; have kr3 := h4; refine w0 ?_; (repeat' (first | refine W2.mk ?_ ?_ | refine W1.mk fun hc => ?_)); all_goals clear kr3 kr2 kr1)
        refine ⟨(i + 1, acc ++ [⟨ba t.1, ba h.1, false⟩], h.2.1, h.2.2), ⟨by simp only; omega, by simp; omega, hs, by simp only; rw [show n - (i + 1) = m by omega]; exact hR⟩, by simp only; omega, ?_⟩
        (refine Le_mk ?_ ?_; (focus ((repeat (first | exact AllG.nil | (refine AllG.cons ?_ ?_; rotate_left))); (all_goals try (first | rfl | (refine eqI ?_; first | omega | (simp; done) | (simp; omega)) | (refine eqBo ?_; first | (simp; done) | (simp [*]; done)))))); (focus ((repeat (first | exact AllB.nil | (refine AllB.cons ?_ ?_; rotate_left))); (all_goals try (first | rfl | (refine eqRw ?_; (rw [List.map_append] <;> rfl); done) | (refine eqMix ?_; (rw [List.map_append] <;> rfl); done))))))
        show Blk.row _ _ (acc.map rgP ++ [[_, _, rawP (.bool (o.1 == 1))]]) = _
        rw [show (o.1 == 1) = false by simpa using ho, List.map_append]
        rfl
    · have hR2 : R = (acc, l, e) := by
        rw [← hR]
        by_cases he : e = 0
        · rw [show n - i = 0 by omega]; rfl
        · cases n - i with
          | zero => rfl
          | succ m => rw [lsSt, if_pos he]
      subst hR2
      have h3 := rrgs_Right acc (by omega) (decide (rgsOk acc)) (by simp)
      by_cases hlt : i < n
      · have he : e ≠ 0 := fun q => hst ⟨hlt, q⟩
        have hen : endSt l e ≠ 0 := by unfold endSt; rw [if_neg (fun q => he q.1)]; exact he
        rw [finL, if_pos hen] at hQ
        subst hQ
        (have kr1 := hD; have kc1 := h3; refine w0 ?_; (repeat' (first | refine W2.mk ?_ ?_ | refine W1.mk fun hc => ?_)); all_goals clear kc1 kr1)
        (refine ⟨(by first | exact .inl rfl | exact .inr rfl), res2 rfl ?_ ?_⟩)
        · exact rv_nil rfl
        · exact rv_int rfl rfl
      · (have kr1 := hD; have kc1 := h3; refine w0 ?_; (repeat' (first | refine W2.mk ?_ ?_ | refine W1.mk fun hc => ?_)); all_goals clear kc1 kr1)
        · rw [finL, if_pos (by assumption)] at hQ
          subst hQ
          (refine ⟨(by first | exact .inl rfl | exact .inr rfl), res2 rfl ?_ ?_⟩)
          · exact rv_nil rfl
          · exact rv_int rfl rfl
        · rw [finL, if_neg (by simp [*]), if_neg (by simp_all)] at hQ
          subst hQ
          (refine ⟨(by first | exact .inl rfl | exact .inr rfl), res2 rfl ?_ ?_⟩)
          · exact rv_nil rfl
          · exact rv_int rfl rfl
        · rw [finL, if_neg (by simp [*]), if_pos (by simp_all)] at hQ
          subst hQ
          (refine ⟨(by first | exact .inl rfl | exact .inr rfl), res2 rfl ?_ ?_⟩)
          · exact rv_own rfl rfl rfl
          · exact rv_int rfl rfl
end
end Go.Proofs.YtoiaegbmbhgdpaaGreat
namespace Go.Proofs.YtoiaegbmbhgdpaaGreat
open Go.RowKit
theorem ls_put {α : Type} {st : List UInt8 → Int → α × List UInt8 × Int} {B : α → List UInt8} : ∀ (l acc : List α) (r : List UInt8), (∀ x ∈ l, ∀ r, st (B x ++ r) 0 = (x, r, 0)) → lsSt st l.length acc (l.flatMap B ++ r) 0 = (acc ++ l, r, 0) := by
  intro l
  induction l with
  | nil => intro acc r _; simp [lsSt]
  | cons x l ih =>
    intro acc r h
    rw [List.length_cons, lsSt, if_neg (by simp), List.flatMap_cons, List.append_assoc, h x List.mem_cons_self]
    rw [ih _ _ (fun y hy => h y (List.mem_cons_of_mem _ hy))]
    simp
theorem ls_back {α : Type} {st : List UInt8 → Int → α × List UInt8 × Int} {B : α → List UInt8} (h : ∀ l e, (st l e).2.2 = 0 → e = 0 ∧ l = B (st l e).1 ++ (st l e).2.1) :
    ∀ (n : Nat) (acc : List α) (l : List UInt8) (e : Int), (lsSt st n acc l e).2.2 = 0 → e = 0 ∧ ∃ m : List α, (lsSt st n acc l e).1 = acc ++ m ∧ m.length = n ∧ l = m.flatMap B ++ (lsSt st n acc l e).2.1 := by
  intro n
  induction n with
  | zero => intro acc l e h0; exact ⟨h0, [], by simp [lsSt], rfl, by simp [lsSt]⟩
  | succ n ih =>
    intro acc l e h0
    unfold lsSt at h0 ⊢
    by_cases he : e = 0
    · subst he
      rw [if_neg (by simp)] at h0 ⊢
      obtain ⟨g1, m, g2, g3, g4⟩ := ih _ _ _ h0
      obtain ⟨_, r2⟩ := h l 0 g1
      refine ⟨rfl, (st l 0).1 :: m, by rw [g2]; simp, by simp [g3], ?_⟩
      rw [List.flatMap_cons, List.append_assoc, ← g4]
      exact r2
    · rw [if_pos he] at h0
      exact absurd h0 he
theorem list_put {α : Type} {st : List UInt8 → Int → α × List UInt8 × Int} {B : α → List UInt8} {ok : List α → Prop} [DecidablePred ok] {most : Int} {l : List α} (h : ∀ x ∈ l, ∀ r, st (B x ++ r) 0 = (x, r, 0)) (hl : (l.length : Int) ≤ most) (hm : most ≤ 1000000) (hok : ok l) :
    finL ok (lisSt st most (numI (l.length : Nat) ++ l.flatMap B) 0) = (l, 0) := by
  unfold lisSt
  rw [within_put (by unfold okNum; omega) (by omega) hl]
  dsimp only
  rw [Int.toNat_natCast]
  have := ls_put (st := st) (B := B) l [] [] h
  rw [List.append_nil] at this
  rw [this]
  simp [finL, endSt, hok]
theorem list_back {α : Type} {st : List UInt8 → Int → α × List UInt8 × Int} {B : α → List UInt8} {ok : List α → Prop} [DecidablePred ok] {most : Int} {b : List UInt8} (h : ∀ l e, (st l e).2.2 = 0 → e = 0 ∧ l = B (st l e).1 ++ (st l e).2.1)
    (h0 : (finL ok (lisSt st most b 0)).2 = 0) : ok (finL ok (lisSt st most b 0)).1 ∧ ((finL ok (lisSt st most b 0)).1.length : Int) ≤ most ∧ numI ((finL ok (lisSt st most b 0)).1.length : Nat) ++ (finL ok (lisSt st most b 0)).1.flatMap B = b := by
  unfold finL at h0 ⊢
  split at h0
  · rename_i hc; exact absurd h0 hc
  · rename_i hc
    rw [if_neg hc]
    split at h0
    · rename_i hk
      rw [if_pos hk]
      obtain ⟨e1, e2⟩ := end_back (by simpa using hc)
      unfold lisSt at e1 e2 hk ⊢
      obtain ⟨g1, m, g3, g4, g6⟩ := ls_back h _ _ _ _ e2
      obtain ⟨_, w2, w3, w4, w5⟩ := within_back g1
      refine ⟨hk, ?_, ?_⟩
      · rw [g3]; simp; omega
      · rw [e1, List.append_nil] at g6
        simp only [g3, List.nil_append]
        rw [g4, ← g6, Int.toNat_of_nonneg w3, ← w5]
    · cases h0
theorem ba_eq {s : ByteArray} : ba s.data.toList = s := ba_eta s
theorem rg_put {r : Rg} (h : rgR r = true) (x : List UInt8) : rgSt (rgB r ++ x) 0 = (r, x, 0) := by
  obtain ⟨h1, h2, h3⟩ := (rgR_iff r).1 h
  obtain ⟨lo, hi, op⟩ := r
  simp only at h1 h2 h3
  dsimp only [rgSt, rgB]
  cases op with
  | true =>
    simp only [if_true] at h3 ⊢
    subst h3
    rw [List.append_assoc, text_put (by omega) (by omega)]
    dsimp only
    rw [within_put (by unfold okNum; omega) (by omega) (by omega)]
    dsimp only
    rw [if_pos (by decide), ba_eq]
  | false =>
    simp only [Bool.false_eq_true, if_false]
    rw [List.append_assoc, text_put (by omega) (by omega)]
    dsimp only
    rw [List.append_assoc, within_put (by unfold okNum; omega) (by omega) (by omega)]
    dsimp only
    rw [if_neg (by decide), text_put (by omega) (by omega)]
    dsimp only
    rw [ba_eq, ba_eq]
theorem rg_back {l : List UInt8} {e : Int} (h : (rgSt l e).2.2 = 0) : e = 0 ∧ l = rgB (rgSt l e).1 ++ (rgSt l e).2.1 := by
  dsimp only [rgSt] at h ⊢
  split at h
  · rename_i ho
    rw [if_pos ho]
    obtain ⟨o1, _, _, _, o5⟩ := within_back h
    obtain ⟨t1, _, t3⟩ := text_back o1
    rw [beq_iff_eq] at ho
    rw [ho] at o5
    refine ⟨t1, ?_⟩
    simp only [rgB, if_true]
    rw [List.append_assoc, ← o5]
    exact t3
  · rename_i ho
    rw [if_neg ho]
    obtain ⟨h1, _, h3⟩ := text_back h
    obtain ⟨o1, _, o3, o4, o5⟩ := within_back h1
    obtain ⟨t1, _, t3⟩ := text_back o1
    have ho' : (withinSt 0 1 (textSt 17 l e).2.1 (textSt 17 l e).2.2).1 = 0 := by
      have : (withinSt 0 1 (textSt 17 l e).2.1 (textSt 17 l e).2.2).1 ≠ 1 := by simpa using ho
      omega
    rw [ho'] at o5
    refine ⟨t1, ?_⟩
    simp only [rgB, Bool.false_eq_true, if_false]
    rw [List.append_assoc, List.append_assoc]
    unfold ba
    rw [← h3, ← o5]
    exact t3
theorem rdRgs_put {l : List Rg} (h : rgsOk l) (hl : l.length ≤ 4096) : rdRgs (rgsBy l) = (l, 0) :=
  list_put (fun x hx r => by
    obtain ⟨i, hi, rfl⟩ := List.getElem_of_mem hx
    exact rg_put (rgsOk_R h hi) r) (by omega) (by omega) h
theorem rdRgs_back {b : List UInt8} (h : (rdRgs b).2 = 0) : rgsOk (rdRgs b).1 ∧ ((rdRgs b).1.length : Int) ≤ 4096 ∧ rgsBy (rdRgs b).1 = b := list_back (fun _ _ => rg_back) h
theorem flat_len {α : Type} {B : α → List UInt8} : ∀ l : List α, (∀ x ∈ l, (B x).length ≤ 40) → (l.flatMap B).length ≤ 40 * l.length := by
  intro l
  induction l with
  | nil => intro _; simp
  | cons x l ih =>
    intro h
    have h1 := h x List.mem_cons_self
    have h2 := ih (fun y hy => h y (List.mem_cons_of_mem _ hy))
    rw [List.flatMap_cons, List.length_append, List.length_cons]; omega
theorem rgsBy_len {l : List Rg} (h : rgsOk l) (hl : l.length ≤ 4096) : (rgsBy l).length ≤ 10 + 40 * l.length := by
  have h1 := flat_len (B := rgB) l (fun x hx => by
    obtain ⟨i, hi, rfl⟩ := List.getElem_of_mem hx
    exact rgB_len (rgsOk_R h hi))
  have h2 := numI_len (l.length : Int) (by omega)
  unfold rgsBy
  rw [List.length_append]; omega
end Go.Proofs.YtoiaegbmbhgdpaaGreat
