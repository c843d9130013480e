/- Texts joined: Cmp Rg. -/
import Derived.Test.YtoiaegbmbhgdpaaGreatJ10
import Derived.Test.YtoiaegbmbhgdpaaGreatJ14
namespace Go.Proofs.YtoiaegbmbhgdpaaGreat
open Go.RowKit
def cmpL : List UInt8 → List UInt8 → Int
  | [], [] => 0
  | [], _ :: _ => -1
  | _ :: _, [] => 1
  | x :: a, y :: b => if x.toNat < y.toNat then -1 else if y.toNat < x.toNat then 1 else cmpL a b
def cmpB (s t : ByteArray) : Int := cmpL s.data.toList t.data.toList
theorem cmpL_step (a b : List UInt8) (k : Nat) (h1 : k < a.length) (h2 : k < b.length) : cmpL (a.drop k) (b.drop k) = if a[k].toNat < b[k].toNat then -1 else if b[k].toNat < a[k].toNat then 1 else cmpL (a.drop (k + 1)) (b.drop (k + 1)) := by
  rw [List.drop_eq_getElem_cons h1, List.drop_eq_getElem_cons h2, cmpL]
theorem cmpL_end (a b : List UInt8) (k : Nat) (h : a.length ≤ k ∨ b.length ≤ k) (h1 : k ≤ a.length) (h2 : k ≤ b.length) : cmpL (a.drop k) (b.drop k) = if a.length < b.length then -1 else if a.length > b.length then 1 else 0 := by
  by_cases e1 : a.length ≤ k
  · rw [List.drop_eq_nil_of_le e1]
    by_cases e2 : b.length ≤ k
    · rw [List.drop_eq_nil_of_le e2, cmpL, if_neg (by omega), if_neg (by omega)]
    · rw [List.drop_eq_getElem_cons (by omega : k < b.length), cmpL, if_pos (by omega)]
  · have e2 : b.length ≤ k := by omega
    rw [List.drop_eq_nil_of_le e2, List.drop_eq_getElem_cons (by omega : k < a.length), cmpL, if_neg (by omega), if_pos (by omega)]
section
set_option maxRecDepth 10000
set_option maxHeartbeats 4000000
theorem key_Cmp (s t : ByteArray) (hs : s.size ≤ 1000000000000) : Fn Tryz.prog 174 [sC s, sC t] (inR (cmpB s t)) := by
  generalize hR : cmpB s t = R
  refine fn_intro Tryz.func174 rfl (by kernel_rfl) Tryz.ntmps174 (Nat.le_of_ble_eq_true rfl) ?_
  (refine w0 ?_; (repeat' (first | refine W2.mk ?_ ?_ | refine W1.mk fun hc => ?_)))
  refine AW_loopP (fun k => k ≤ s.size ∧ k ≤ t.size ∧ cmpL (s.data.toList.drop k) (t.data.toList.drop k) = R) (fun k => mkSt [(0, sC s), (1, sC t), (10, iC .i64 (min (s.size : Int) (t.size : Int))), (11, iC .i64 (k : Nat))] []) (fun k => s.size - k) 0 ⟨Nat.zero_le _, Nat.zero_le _, hR⟩ ?_ ?_
  · exact le_auto
  · rintro k ⟨h1, h2, h3⟩
    have hst := cmpL_step s.data.toList t.data.toList k
    have hen := cmpL_end s.data.toList t.data.toList k
    simp only [str_len] at hst hen
    rw [h3] at hst hen
    by_cases hk : k < s.size ∧ k < t.size
    · have hst := hst hk.1 hk.2
      have hm : (k : Int) < min (s.size : Int) (t.size : Int) := by omega
      (refine w0 ?_; (repeat' (first | refine W2.mk ?_ ?_ | refine W1.mk fun hc => ?_)))
      · rw [if_pos (by omega)] at hst
        (refine ⟨(by first | exact .inl rfl | exact .inr rfl), res1 rfl ?_⟩)
        exact rv_int rfl hst.symm
      · rw [if_neg (by omega), if_pos (by omega)] at hst
        (refine ⟨(by first | exact .inl rfl | exact .inr rfl), res1 rfl ?_⟩)
        exact rv_int rfl hst.symm
      · rw [if_neg (by omega), if_neg (by omega)] at hst
        refine ⟨k + 1, ⟨by omega, by omega, hst.symm⟩, by omega, ?_⟩
        exact le_auto
    · have hen := hen (by omega) h1 h2
      have hm : ¬ (k : Int) < min (s.size : Int) (t.size : Int) := by omega
      (refine w0 ?_; (repeat' (first | refine W2.mk ?_ ?_ | refine W1.mk fun hc => ?_)))
      all_goals (refine ⟨(by first | exact .inl rfl | exact .inr rfl), res1 rfl ?_⟩)
      · rw [if_pos (by omega)] at hen
        exact rv_int rfl hen.symm
      · rw [if_neg (by omega), if_pos (by omega)] at hen
        exact rv_int rfl hen.symm
      · rw [if_neg (by omega), if_neg (by omega)] at hen
        exact rv_int rfl hen.symm
theorem ref_Less (s t : ByteArray) (hs : s.size ≤ 1000000000000) : Fn Tryz.prog 126 [sC s, sC t] (boR (decide (cmpB s t < 0))) := by
  generalize hR : cmpB s t = R
  refine fn_intro Tryz.func126 rfl (by kernel_rfl) Tryz.ntmps126 (Nat.le_of_ble_eq_true rfl) ?_
  (refine w0 ?_; (repeat' (first | refine W2.mk ?_ ?_ | refine W1.mk fun hc => ?_)))
  refine AW_loopP (fun k => k ≤ s.size ∧ k ≤ t.size ∧ cmpL (s.data.toList.drop k) (t.data.toList.drop k) = R) (fun k => mkSt [(0, sC s), (1, sC t), (5, iC .i64 (k : Nat))] []) (fun k => s.size - k) 0 ⟨Nat.zero_le _, Nat.zero_le _, hR⟩ ?_ ?_
  · exact le_auto
  · rintro k ⟨h1, h2, h3⟩
    have hst := cmpL_step s.data.toList t.data.toList k
    have hen := cmpL_end s.data.toList t.data.toList k
    simp only [str_len] at hst hen
    rw [h3] at hst hen
    by_cases hk : k < s.size ∧ k < t.size
    · have hst := hst hk.1 hk.2
      (refine w0 ?_; (repeat' (first | refine W2.mk ?_ ?_ | refine W1.mk fun hc => ?_)))
      · (refine ⟨(by first | exact .inl rfl | exact .inr rfl), res1 rfl ?_⟩)
        refine rv_bool rfl ?_
        rw [hst]
        clear hst hen h3
        generalize (s.data.toList[k]'(by simpa using hk.1)).toNat = x at *
        generalize (t.data.toList[k]'(by simpa using hk.2)).toNat = y at *
        split
        · rw [decide_eq_true (by omega), decide_eq_true (by omega)]
        · rw [if_pos (by omega), decide_eq_false (by omega), decide_eq_false (by omega)]
      · rw [if_neg (by omega), if_neg (by omega)] at hst
        refine ⟨k + 1, ⟨by omega, by omega, hst.symm⟩, by omega, ?_⟩
        exact le_auto
    · have hen := hen (by omega) h1 h2
      (refine w0 ?_; (repeat' (first | refine W2.mk ?_ ?_ | refine W1.mk fun hc => ?_)))
      all_goals (refine ⟨(by first | exact .inl rfl | exact .inr rfl), res1 rfl ?_⟩)
      all_goals refine rv_bool rfl ?_
      · rw [hen, if_neg (by omega)]
        split <;> simp
      · rw [hen]
        split
        · simp; omega
        · split <;> (simp; omega)
end
end Go.Proofs.YtoiaegbmbhgdpaaGreat
namespace Go.Proofs.YtoiaegbmbhgdpaaGreat
open Go.RowKit
structure Rg where
  lo : ByteArray
  hi : ByteArray
  op : Bool
deriving DecidableEq
def encRg (r : Rg) : List Value := [.string r.lo, .string r.hi, .bool r.op]
theorem encRg_ok : Enc 3 encRg := ⟨by decide, fun _ => rfl, fun x u hu => by
  simp only [encRg, List.mem_cons, List.not_mem_nil, or_false] at hu
  rcases hu with rfl | rfl | rfl <;> rfl⟩
abbrev rgP (r : Rg) : List PV := [rawP (.string r.lo), rawP (.string r.hi), rawP (.bool r.op)]
abbrev rgC (r : Rg) : Cnt := .per (aggP (rgP r))
abbrev rgsP (l : List Rg) : PV := lstP 3 (l.map rgP)
abbrev rgsB (l : List Rg) : Cnt := .bor 3 (l.map rgP)
def rgE (x y : Rg) : Bool := (x.lo == y.lo) && ((x.hi == y.hi) && ((x.op == y.op) && true))
theorem rgE_iff (x y : Rg) : rgE x y = true ↔ x = y := by
  obtain ⟨a, b, c⟩ := x
  obtain ⟨a', b', c'⟩ := y
  simp only [rgE, Bool.and_eq_true, sbeq, beq_iff_eq, and_true, Rg.mk.injEq]
theorem rgE_o (x y : Rg) : eqO Tryz.prog 10000 26 (encRg x) (encRg y) = some (rgE x y) := by kernel_rfl
theorem rgG : Tryz.prog.eqGuardType Tryz.prog.depth 26 = false := by kernel_rfl
theorem toL_inj' (s u : ByteArray) : s.toList = u.toList ↔ s = u := by
  rw [← sbeq, beq_toListBytes, beq_iff_eq]
def e0 : ByteArray := ⟨#[]⟩
/-- a right range -/
def rgR (r : Rg) : Bool := decide (r.lo.size ≤ 17 ∧ r.hi.size ≤ 17 ∧ (if r.op = true then r.hi = e0 else cmpB r.lo r.hi < 0))
theorem rgR_iff (r : Rg) : rgR r = true ↔ r.lo.size ≤ 17 ∧ r.hi.size ≤ 17 ∧ (if r.op = true then r.hi = e0 else cmpB r.lo r.hi < 0) := by
  unfold rgR; exact decide_eq_true_iff
/-- right, and behind the one ahead of it -/
def rgOk (l : List Rg) (i : Nat) : Prop := ∀ h : i < l.length, rgR l[i] = true ∧ ∀ h0 : 0 < i, l[i - 1].op = false ∧ cmpB l[i - 1].hi l[i].lo < 0
def rgsOk (l : List Rg) : Prop := ∀ i, rgOk l i
section
set_option maxRecDepth 10000
set_option maxHeartbeats 4000000
theorem key_Edge (s : ByteArray) : Fn Tryz.prog 203 [sC s] (boR (decide (s.size ≤ 17))) := by
  refine fn_intro Tryz.func203 rfl (by kernel_rfl) Tryz.ntmps203 (Nat.le_of_ble_eq_true rfl) ?_
  (refine w0 ?_; (repeat' (first | refine W2.mk ?_ ?_ | refine W1.mk fun hc => ?_)))
  (refine ⟨(by first | exact .inl rfl | exact .inr rfl), res1 rfl ?_⟩)
  exact rv_bool rfl (by simp; omega)
theorem span_Right (r : Rg) : Fn Tryz.prog 173 [rgC r] (boR (rgR r)) := by
  obtain ⟨lo, hi, op⟩ := r
  have h1 := key_Edge lo
  have h2 := key_Edge hi
  have hR := rgR_iff ⟨lo, hi, op⟩
  generalize rgR ⟨lo, hi, op⟩ = b at *
  simp only at hR
  show Fn Tryz.prog _ [.per (aggP [rawP (.string lo), rawP (.string hi), rawP (.bool op)])] (boR b)
  by_cases hl : lo.size ≤ 17
  · by_cases hh : hi.size ≤ 17
    · rw [decide_eq_true hl] at h1
      rw [decide_eq_true hh] at h2
      cases op with
      | true =>
        have hE := rgE_o ⟨lo, hi, true⟩ ⟨lo, e0, true⟩
        have hI := rgE_iff ⟨lo, hi, true⟩ ⟨lo, e0, true⟩
        generalize rgE ⟨lo, hi, true⟩ ⟨lo, e0, true⟩ = q at *
        refine fn_intro Tryz.func173 rfl (by kernel_rfl) Tryz.ntmps173 (Nat.le_of_ble_eq_true rfl) ?_
        (have kc1 := h1; have kc2 := h2; refine w0 ?_; (repeat' (first | refine W2.mk ?_ ?_ | refine W1.mk fun hc => ?_ | ((first | apply AL_t rfl | apply AL_0 rfl | apply AD_t rfl | apply AD_0 rfl); (focus (first | (exact op_eqA (us := encRg ⟨lo, hi, true⟩) (vs := encRg ⟨lo, e0, true⟩) ⟨rfl, rfl, rfl⟩ rfl rfl rfl (by first | exact .inl ⟨rfl, rfl⟩ | exact .inr ⟨rfl, rfl⟩) rgG rfl hE) | (apply u_g; (focus rfl); apply op_gyes rfl rfl rfl rfl rfl; first | (exact op_eqA (us := encRg ⟨lo, hi, true⟩) (vs := encRg ⟨lo, e0, true⟩) ⟨rfl, rfl, rfl⟩ rfl rfl rfl (by first | exact .inl ⟨rfl, rfl⟩ | exact .inr ⟨rfl, rfl⟩) rgG rfl hE)))); refine w0 ?_))); all_goals clear kc2 kc1)
        (refine ⟨(by first | exact .inl rfl | exact .inr rfl), res1 rfl ?_⟩)
        refine rv_bool rfl ?_
        rw [show (q != false) = q by cases q <;> rfl, Bool.eq_iff_iff, hI, hR]
        simp [hl, hh]
      | false =>
        have h3 := key_Cmp lo hi (by omega)
        refine fn_intro Tryz.func173 rfl (by kernel_rfl) Tryz.ntmps173 (Nat.le_of_ble_eq_true rfl) ?_
        (have kc1 := h1; have kc2 := h2; have kc3 := h3; refine w0 ?_; (repeat' (first | refine W2.mk ?_ ?_ | refine W1.mk fun hc => ?_)); all_goals clear kc3 kc2 kc1)
        (refine ⟨(by first | exact .inl rfl | exact .inr rfl), res1 rfl ?_⟩)
        refine rv_bool rfl ?_
        rw [Bool.eq_iff_iff, hR]
        simp [hl, hh]
    · rw [decide_eq_true hl] at h1
      rw [decide_eq_false hh] at h2
      have hr : b = false := by rw [← Bool.not_eq_true, hR]; exact fun h => hh h.2.1
      rw [hr]
      clear hR
      refine fn_intro Tryz.func173 rfl (by kernel_rfl) Tryz.ntmps173 (Nat.le_of_ble_eq_true rfl) ?_
      (have kc1 := h1; have kc2 := h2; refine w0 ?_; (repeat' (first | refine W2.mk ?_ ?_ | refine W1.mk fun hc => ?_)); all_goals clear kc2 kc1)
      (refine ⟨(by first | exact .inl rfl | exact .inr rfl), res1 rfl ?_⟩)
      exact rv_bool rfl rfl
  · rw [decide_eq_false hl] at h1
    have hr : b = false := by rw [← Bool.not_eq_true, hR]; exact fun h => hl h.1
    rw [hr]
    clear hR
    refine fn_intro Tryz.func173 rfl (by kernel_rfl) Tryz.ntmps173 (Nat.le_of_ble_eq_true rfl) ?_
    (have kc1 := h1; refine w0 ?_; (repeat' (first | refine W2.mk ?_ ?_ | refine W1.mk fun hc => ?_)); all_goals clear kc1)
    (refine ⟨(by first | exact .inl rfl | exact .inr rfl), res1 rfl ?_⟩)
    exact rv_bool rfl rfl
theorem rspan_Right (r : Rg) : Fn Tryz.prog 69 [rgC r] (boR (rgR r)) := by
  obtain ⟨lo, hi, op⟩ := r
  have hR := rgR_iff ⟨lo, hi, op⟩
  generalize rgR ⟨lo, hi, op⟩ = b at *
  simp only at hR
  show Fn Tryz.prog _ [.per (aggP [rawP (.string lo), rawP (.string hi), rawP (.bool op)])] (boR b)
  by_cases hl : lo.size ≤ 17
  · by_cases hh : hi.size ≤ 17
    · cases op with
      | true =>
        refine fn_intro Tryz.func69 rfl (by kernel_rfl) Tryz.ntmps69 (Nat.le_of_ble_eq_true rfl) ?_
        (refine w0 ?_; (repeat' (first | refine W2.mk ?_ ?_ | refine W1.mk fun hc => ?_)))
        (refine ⟨(by first | exact .inl rfl | exact .inr rfl), res1 rfl ?_⟩)
        refine rv_bool rfl ?_
        rw [Bool.eq_iff_iff, hR, beq_iff_eq, toL_inj']
        simp [hl, hh, e0]
      | false =>
        have h3 := ref_Less lo hi (by omega)
        refine fn_intro Tryz.func69 rfl (by kernel_rfl) Tryz.ntmps69 (Nat.le_of_ble_eq_true rfl) ?_
        (have kc1 := h3; refine w0 ?_; (repeat' (first | refine W2.mk ?_ ?_ | refine W1.mk fun hc => ?_)); all_goals clear kc1)
        (refine ⟨(by first | exact .inl rfl | exact .inr rfl), res1 rfl ?_⟩)
        refine rv_bool rfl ?_
        rw [Bool.eq_iff_iff, hR]
        simp [hl, hh]
    · have hr : b = false := by rw [← Bool.not_eq_true, hR]; exact fun h => hh h.2.1
      rw [hr]
      clear hR
      refine fn_intro Tryz.func69 rfl (by kernel_rfl) Tryz.ntmps69 (Nat.le_of_ble_eq_true rfl) ?_
      (refine w0 ?_; (repeat' (first | refine W2.mk ?_ ?_ | refine W1.mk fun hc => ?_)))
      (refine ⟨(by first | exact .inl rfl | exact .inr rfl), res1 rfl ?_⟩)
      exact rv_bool rfl rfl
  · have hr : b = false := by rw [← Bool.not_eq_true, hR]; exact fun h => hl h.1
    rw [hr]
    clear hR
    refine fn_intro Tryz.func69 rfl (by kernel_rfl) Tryz.ntmps69 (Nat.le_of_ble_eq_true rfl) ?_
    (refine w0 ?_; (repeat' (first | refine W2.mk ?_ ?_ | refine W1.mk fun hc => ?_)))
    (refine ⟨(by first | exact .inl rfl | exact .inr rfl), res1 rfl ?_⟩)
    exact rv_bool rfl rfl
theorem rgs_Right (l : List Rg) (hl : l.length ≤ 1000000000) (b : Bool) (hb : b = true ↔ rgsOk l) : Fn Tryz.prog 129 [rgsB l] (boR b) := by
  refine fn_intro Tryz.func129 rfl (by kernel_rfl) Tryz.ntmps129 (Nat.le_of_ble_eq_true rfl) ?_
  (refine w0 ?_; (repeat' (first | refine W2.mk ?_ ?_ | refine W1.mk fun hc => ?_)))
  refine AW_loopP (X := Nat) (fun z => z ≤ l.length ∧ ∀ i, i < z → rgOk l i)
    (fun z => mkSt [(0, rgsB l), (5, rgsB l), (6, iC .i64 (l.length : Nat)), (7, iC .i64 (z : Nat))] []) (fun z => l.length - z) 0 ⟨Nat.zero_le _, fun i h => absurd h (Nat.not_lt_zero _)⟩ ?_ ?_
  · exact le_auto
  · rintro z ⟨h1, h2⟩
    by_cases hz : z < l.length
    · have hir := span_Right l[z]
      have hno : ¬ rgOk l z → b = false := fun h => by rw [← Bool.not_eq_true, hb]; exact fun q => h (q z)
      cases hr : rgR l[z] with
      | false =>
        have hb0 := hno (fun h => by have := (h hz).1; rw [hr] at this; cases this)
        subst hb0
        clear hb hno h2
        rw [hr] at hir
        (have kc1 := hir; refine w0 ?_; (repeat' (first | refine W2.mk ?_ ?_ | refine W1.mk fun hc => ?_)); all_goals clear kc1)
        (refine ⟨(by first | exact .inl rfl | exact .inr rfl), res1 rfl ?_⟩)
        exact rv_bool rfl rfl
      | true =>
        rw [hr] at hir
        by_cases h0 : 0 < z
        · obtain ⟨q, rfl⟩ : ∃ q, z = q + 1 := ⟨z - 1, by omega⟩
          have hqE : ((q + 1 : Nat) : Int) - 1 = (q : Nat) := by omega
          have hrq := (rgR_iff _).1 ((h2 q (by omega)) (by omega)).1
          have hcm := key_Cmp l[q].hi l[q + 1].lo (by omega)
          cases ho : l[q].op with
          | true =>
            have hb0 := hno (fun h => by have := ((h hz).2 h0).1; rw [show l[q + 1 - 1] = l[q] from rfl, ho] at this; cases this)
            subst hb0
            clear hb hno h2 hrq
            (have ke1 := Lib.hid (hqE); have kc1 := hir; have kc2 := hcm; refine w0e ?_; (repeat' (first | refine W2.mk ?_ ?_ | refine W1.mk fun hc => ?_)); all_goals clear kc2 kc1 ke1)
            all_goals first | (exfalso; simp_all; done) | skip
            (refine ⟨(by first | exact .inl rfl | exact .inr rfl), res1 rfl ?_⟩)
            exact rv_bool rfl rfl
          | false =>
            by_cases hlt : cmpB l[q].hi l[q + 1].lo < 0
            · have hok : rgOk l (q + 1) := fun _ => ⟨hr, fun _ => ⟨ho, hlt⟩⟩
              clear hb hno hrq
              (have ke1 := Lib.hid (hqE); have kc1 := hir; have kc2 := hcm; refine w0e ?_; (repeat' (first | refine W2.mk ?_ ?_ | refine W1.mk fun hc => ?_)); all_goals clear kc2 kc1 ke1)
              all_goals first | (exfalso; simp_all; done) | skip
              refine ⟨q + 1 + 1, ⟨by omega, fun i hi => ?_⟩, by omega, ?_⟩
              · rcases Nat.lt_or_ge i (q + 1) with q' | q'
                · exact h2 i q'
                · obtain rfl : i = q + 1 := by omega
                  exact hok
              · exact le_auto
            · have hb0 := hno (fun h => hlt ((h hz).2 h0).2)
              subst hb0
              clear hb hno h2 hrq
              (have ke1 := Lib.hid (hqE); have kc1 := hir; have kc2 := hcm; refine w0e ?_; (repeat' (first | refine W2.mk ?_ ?_ | refine W1.mk fun hc => ?_)); all_goals clear kc2 kc1 ke1)
              all_goals first | (exfalso; simp_all; done) | skip
              (refine ⟨(by first | exact .inl rfl | exact .inr rfl), res1 rfl ?_⟩)
              exact rv_bool rfl rfl
        · have hok : rgOk l z := fun _ => ⟨hr, fun h => absurd h h0⟩
          clear hb hno
          (have kc1 := hir; refine w0 ?_; (repeat' (first | refine W2.mk ?_ ?_ | refine W1.mk fun hc => ?_)); all_goals clear kc1)
          refine ⟨z + 1, ⟨by omega, fun i hi => ?_⟩, by omega, ?_⟩
          · rcases Nat.lt_or_ge i z with q | q
            · exact h2 i q
            · obtain rfl : i = z := by omega
              exact hok
          · exact le_auto
    · have hb1 : b = true := hb.2 (fun i => by
        rcases Nat.lt_or_ge i z with q | q
        · exact h2 i q
        · exact fun h => by omega)
      subst hb1
      clear hb h2
      (refine w0 ?_; (repeat' (first | refine W2.mk ?_ ?_ | refine W1.mk fun hc => ?_)))
      (refine ⟨(by first | exact .inl rfl | exact .inr rfl), res1 rfl ?_⟩)
      exact rv_bool rfl rfl
theorem rrgs_Right (l : List Rg) (hl : l.length ≤ 1000000000) (b : Bool) (hb : b = true ↔ rgsOk l) : Fn Tryz.prog 67 [rgsB l] (boR b) := by
  refine fn_intro Tryz.func67 rfl (by kernel_rfl) Tryz.ntmps67 (Nat.le_of_ble_eq_true rfl) ?_
  (refine w0 ?_; (repeat' (first | refine W2.mk ?_ ?_ | refine W1.mk fun hc => ?_)))
  refine AW_loopP (X := Nat) (fun z => z ≤ l.length ∧ ∀ i, i < z → rgOk l i)
    (fun z => mkSt [(0, rgsB l), (3, iC .i64 (z : Nat))] []) (fun z => l.length - z) 0 ⟨Nat.zero_le _, fun i h => absurd h (Nat.not_lt_zero _)⟩ ?_ ?_
  · exact le_auto
  · rintro z ⟨h1, h2⟩
    by_cases hz : z < l.length
    · have hir := rspan_Right l[z]
      have hno : ¬ rgOk l z → b = false := fun h => by rw [← Bool.not_eq_true, hb]; exact fun q => h (q z)
      cases hr : rgR l[z] with
      | false =>
        have hb0 := hno (fun h => by have := (h hz).1; rw [hr] at this; cases this)
        subst hb0
        clear hb hno h2
        rw [hr] at hir
        (have kc1 := hir; refine w0 ?_; (repeat' (first | refine W2.mk ?_ ?_ | refine W1.mk fun hc => ?_)); all_goals clear kc1)
        (refine ⟨(by first | exact .inl rfl | exact .inr rfl), res1 rfl ?_⟩)
        exact rv_bool rfl rfl
      | true =>
        rw [hr] at hir
        by_cases h0 : 0 < z
        · obtain ⟨q, rfl⟩ : ∃ q, z = q + 1 := ⟨z - 1, by omega⟩
          have hqE : ((q + 1 : Nat) : Int) - 1 = (q : Nat) := by omega
          have hrq := (rgR_iff _).1 ((h2 q (by omega)) (by omega)).1
          have hcm := ref_Less l[q].hi l[q + 1].lo (by omega)
          cases ho : l[q].op with
          | true =>
            have hb0 := hno (fun h => by have := ((h hz).2 h0).1; rw [show l[q + 1 - 1] = l[q] from rfl, ho] at this; cases this)
            subst hb0
            clear hb hno h2 hrq
            (have ke1 := Lib.hid (hqE); have kc1 := hir; have kc2 := hcm; refine w0e ?_; (repeat' (first | refine W2.mk ?_ ?_ | refine W1.mk fun hc => ?_)); all_goals clear kc2 kc1 ke1)
            all_goals first | (exfalso; simp_all; done) | skip
            (refine ⟨(by first | exact .inl rfl | exact .inr rfl), res1 rfl ?_⟩)
            exact rv_bool rfl rfl
          | false =>
            by_cases hlt : cmpB l[q].hi l[q + 1].lo < 0
            · have hok : rgOk l (q + 1) := fun _ => ⟨hr, fun _ => ⟨ho, hlt⟩⟩
              rw [decide_eq_true hlt] at hcm
              clear hb hno hrq
              (have ke1 := Lib.hid (hqE); have kc1 := hir; have kc2 := hcm; refine w0e ?_; (repeat' (first | refine W2.mk ?_ ?_ | refine W1.mk fun hc => ?_)); all_goals clear kc2 kc1 ke1)
              all_goals first | (exfalso; simp_all; done) | skip
              refine ⟨q + 1 + 1, ⟨by omega, fun i hi => ?_⟩, by omega, ?_⟩
              · rcases Nat.lt_or_ge i (q + 1) with q' | q'
                · exact h2 i q'
                · obtain rfl : i = q + 1 := by omega
                  exact hok
              · exact le_auto
            · have hb0 := hno (fun h => hlt ((h hz).2 h0).2)
              rw [decide_eq_false hlt] at hcm
              subst hb0
              clear hb hno h2 hrq
              (have ke1 := Lib.hid (hqE); have kc1 := hir; have kc2 := hcm; refine w0e ?_; (repeat' (first | refine W2.mk ?_ ?_ | refine W1.mk fun hc => ?_)); all_goals clear kc2 kc1 ke1)
              all_goals first | (exfalso; simp_all; done) | skip
              (refine ⟨(by first | exact .inl rfl | exact .inr rfl), res1 rfl ?_⟩)
              exact rv_bool rfl rfl
        · have hok : rgOk l z := fun _ => ⟨hr, fun h => absurd h h0⟩
          clear hb hno
          (have kc1 := hir; refine w0 ?_; (repeat' (first | refine W2.mk ?_ ?_ | refine W1.mk fun hc => ?_)); all_goals clear kc1)
          refine ⟨z + 1, ⟨by omega, fun i hi => ?_⟩, by omega, ?_⟩
          · rcases Nat.lt_or_ge i z with q | q
            · exact h2 i q
            · obtain rfl : i = z := by omega
              exact hok
          · exact le_auto
    · have hb1 : b = true := hb.2 (fun i => by
        rcases Nat.lt_or_ge i z with q | q
        · exact h2 i q
        · exact fun h => by omega)
      subst hb1
      clear hb h2
      (refine w0 ?_; (repeat' (first | refine W2.mk ?_ ?_ | refine W1.mk fun hc => ?_)))
      (refine ⟨(by first | exact .inl rfl | exact .inr rfl), res1 rfl ?_⟩)
      exact rv_bool rfl rfl
end
end Go.Proofs.YtoiaegbmbhgdpaaGreat
