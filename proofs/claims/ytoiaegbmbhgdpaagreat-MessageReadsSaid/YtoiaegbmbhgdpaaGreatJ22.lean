/- Texts joined: KnT. -/
import Derived.Test.YtoiaegbmbhgdpaaGreatJ21
namespace Go.Proofs.YtoiaegbmbhgdpaaGreat
open Go.RowKit
structure Rn where
  fr : Int
  to : Int
deriving DecidableEq
structure Kn where
  rep : Int
  runs : List Rn
deriving DecidableEq
structure Pc where
  rg : Rg
  set : List Kn
deriving DecidableEq
def encRn (r : Rn) : List Value := [.int .i64 r.fr, .int .i64 r.to]
theorem encRn_ok : Enc 2 encRn := ⟨by decide, fun _ => rfl, fun x u hu => by
  simp only [encRn, List.mem_cons, List.not_mem_nil, or_false] at hu
  rcases hu with rfl | rfl <;> rfl⟩
abbrev rnP (r : Rn) : List PV := [rawP (.int .i64 r.fr), rawP (.int .i64 r.to)]
abbrev rnC (r : Rn) : Cnt := .per (aggP (rnP r))
abbrev rnsP (l : List Rn) : PV := lstP 2 (l.map rnP)
abbrev rnsB (l : List Rn) : Cnt := .bor 2 (l.map rnP)
abbrev knP (k : Kn) : List PV := [rawP (.int .i64 k.rep), rnsP k.runs]
abbrev knC (k : Kn) : Cnt := .per (aggP (knP k))
abbrev knsP (l : List Kn) : PV := lstP 2 (l.map knP)
abbrev knsB (l : List Kn) : Cnt := .bor 2 (l.map knP)
abbrev pcP (p : Pc) : List PV := [rawP (.string p.rg.lo), rawP (.string p.rg.hi), rawP (.bool p.rg.op), knsP p.set]
abbrev pcC (p : Pc) : Cnt := .per (aggP (pcP p))
abbrev pcsP (l : List Pc) : PV := lstP 4 (l.map pcP)
abbrev pcsB (l : List Pc) : Cnt := .bor 4 (l.map pcP)
/-- right runs -/
def rnR (r : Rn) : Bool := decide (1 ≤ r.fr ∧ r.fr ≤ r.to ∧ r.to ≤ 1099511627776)
theorem rnR_iff (r : Rn) : rnR r = true ↔ 1 ≤ r.fr ∧ r.fr ≤ r.to ∧ r.to ≤ 1099511627776 := by unfold rnR; exact decide_eq_true_iff
def rnOk (l : List Rn) (i : Nat) : Prop := ∀ h : i < l.length, rnR l[i] = true ∧ ∀ h0 : 0 < i, l[i - 1].to + 2 ≤ l[i].fr
def rnsOk (l : List Rn) : Prop := ∀ i, i < l.length → rnOk l i
/-- right sets -/
def knOk (l : List Kn) (i : Nat) : Prop := ∀ h : i < l.length, 1 ≤ l[i].rep ∧ l[i].rep ≤ 16 ∧ l[i].runs ≠ [] ∧ rnsOk l[i].runs ∧ ∀ h0 : 0 < i, l[i - 1].rep < l[i].rep
def knsOk (l : List Kn) : Prop := ∀ i, i < l.length → knOk l i
/-- right knowledge -/
def pcOk (l : List Pc) (i : Nat) : Prop := ∀ h : i < l.length, rgR l[i].rg = true ∧ l[i].set ≠ [] ∧ knsOk l[i].set ∧ ∀ h0 : 0 < i, l[i - 1].rg.op = false ∧ cmpB l[i - 1].rg.hi l[i].rg.lo ≤ 0 ∧ ¬ (l[i - 1].rg.hi = l[i].rg.lo ∧ l[i - 1].set = l[i].set)
def pcsOk (l : List Pc) : Prop := ∀ i, i < l.length → pcOk l i
instance (l : List Rn) (i : Nat) : Decidable (rnOk l i) := by unfold rnOk; infer_instance
instance (l : List Rn) : Decidable (rnsOk l) := by unfold rnsOk; infer_instance
instance (l : List Kn) (i : Nat) : Decidable (knOk l i) := by unfold knOk; infer_instance
instance (l : List Kn) : Decidable (knsOk l) := by unfold knsOk; infer_instance
instance (l : List Pc) (i : Nat) : Decidable (pcOk l i) := by unfold pcOk; infer_instance
instance (l : List Pc) : Decidable (pcsOk l) := by unfold pcsOk; infer_instance
theorem knsOk_get {l : List Kn} (h : knsOk l) {i : Nat} (hi : i < l.length) : 1 ≤ l[i].rep ∧ l[i].rep ≤ 16 ∧ l[i].runs ≠ [] ∧ rnsOk l[i].runs :=
  let ⟨a, b, c, d, _⟩ := h i hi hi; ⟨a, b, c, d⟩
theorem knsOk_rise {l : List Kn} (h : knsOk l) : ∀ i (hi : i < l.length), ((i : Int) + 1) ≤ l[i].rep := by
  intro i
  induction i with
  | zero => intro hi; have := (knsOk_get h hi).1; simpa using this
  | succ i ih =>
    intro hi
    have h1 := ih (by omega)
    have h2 := (h (i + 1) hi hi).2.2.2.2 (by omega)
    simp only [Nat.add_sub_cancel] at h2
    omega
theorem knsOk_len {l : List Kn} (h : knsOk l) : l.length ≤ 16 := by
  rcases Nat.eq_zero_or_pos l.length with h0 | h0
  · omega
  · have h1 := knsOk_rise h (l.length - 1) (by omega)
    have h2 := (knsOk_get h (i := l.length - 1) (by omega)).2.1
    omega
theorem rnsOk_get {l : List Rn} (h : rnsOk l) {i : Nat} (hi : i < l.length) : 1 ≤ l[i].fr ∧ l[i].fr ≤ l[i].to ∧ l[i].to ≤ 1099511627776 := (rnR_iff _).1 (h i hi hi).1
/-! ### bytes -/
def runsB : Int → List Rn → List UInt8
  | _, [] => []
  | was, r :: l => numI (r.fr - was) ++ (numI (r.to - r.fr) ++ runsB r.to l)
def knB (k : Kn) : List UInt8 := numI k.rep ++ (numI (k.runs.length : Nat) ++ runsB 0 k.runs)
def setB (s : List Kn) : List UInt8 := numI (s.length : Nat) ++ s.flatMap knB
def pcB (p : Pc) : List UInt8 := rgB p.rg ++ setB p.set
def knowB (k : List Pc) : List UInt8 := numI (k.length : Nat) ++ k.flatMap pcB
/-! ### read -/
def rnsSt : Nat → List Rn → Int → List UInt8 → Int → List Rn × List UInt8 × Int
  | 0, acc, _, l, e => (acc, l, e)
  | n + 1, acc, was, l, e => if e ≠ 0 then (acc, l, e) else
    let x := numSt l e
    let y := numSt x.2.1 x.2.2
    rnsSt n (acc ++ [⟨was + x.1, was + x.1 + y.1⟩]) (was + x.1 + y.1) y.2.1 y.2.2
def knSt (l : List UInt8) (e : Int) : Kn × List UInt8 × Int :=
  let a := withinSt 1 16 l e
  let n := withinSt 0 4096 a.2.1 a.2.2
  let r := rnsSt n.1.toNat [] 0 n.2.1 n.2.2
  (⟨a.1, r.1⟩, r.2.1, r.2.2)
def pcSt (l : List UInt8) (e : Int) : Pc × List UInt8 × Int :=
  let r := rgSt l e
  let s := lisSt knSt 16 r.2.1 r.2.2
  (⟨r.1, s.1⟩, s.2.1, s.2.2)
def rdKnow (b : List UInt8) : List Pc × Int := finL pcsOk (lisSt pcSt 4096 b 0)
theorem numSt_within (l : List UInt8) (e : Int) : withinSt 0 281474976710656 l e = numSt l e := by
  have h := rdNum_rng l
  unfold withinSt numSt
  split
  · rw [if_neg]; simp only; omega
  · rename_i he
    by_cases h0 : (rdNum l).2.2 = 0
    · simp [h0]; omega
    · simp [h0]
theorem numSt_rng (l : List UInt8) (e : Int) : 0 ≤ (numSt l e).1 ∧ (numSt l e).1 ≤ 281474976710656 := by
  have h := rdNum_rng l
  unfold numSt
  split
  · simp
  · split <;> simp <;> omega
theorem rnsSt_suf : ∀ (n : Nat) (acc : List Rn) (was : Int) (l : List UInt8) (e : Int), (rnsSt n acc was l e).2.1 <:+ l := by
  intro n
  induction n with
  | zero => intro acc was l e; exact List.suffix_refl l
  | succ n ih =>
    intro acc was l e
    unfold rnsSt
    split
    · exact List.suffix_refl l
    · exact (ih _ _ _ _).trans ((numSt_suf _ _).trans (numSt_suf _ _))
theorem knSt_suf (l : List UInt8) (e : Int) : (knSt l e).2.1 <:+ l := by
  dsimp only [knSt]
  exact (rnsSt_suf _ _ _ _ _).trans ((withinSt_suf _ _ _ _).trans (withinSt_suf _ _ _ _))
theorem lisSt_suf {α : Type} {st : List UInt8 → Int → α × List UInt8 × Int} (h : ∀ l e, (st l e).2.1 <:+ l) (most : Int) (l : List UInt8) (e : Int) : (lisSt st most l e).2.1 <:+ l :=
  (lsSt_suf h _ _ _ _).trans (withinSt_suf _ _ _ _)
/-! ### put and read -/
theorem runs_put : ∀ (l acc : List Rn) (was : Int) (r : List UInt8), 0 ≤ was → was ≤ 1099511627776 → (∀ i (h : i < l.length), rnR l[i] = true ∧ (∀ h0 : 0 < i, l[i - 1].to ≤ l[i].fr) ∧ (i = 0 → was ≤ l[i].fr)) →
    rnsSt l.length acc was (runsB was l ++ r) 0 = (acc ++ l, r, 0) := by
  intro l
  induction l with
  | nil => intro acc was r _ _ _; simp [rnsSt, runsB]
  | cons x l ih =>
    intro acc was r h0 h1 h
    have hx := h 0 (by simp)
    simp only [List.getElem_cons_zero] at hx
    have hr := (rnR_iff _).1 hx.1
    have hw := hx.2.2 trivial
    rw [List.length_cons, rnsSt, if_neg (by simp), runsB, List.append_assoc, num_put (by unfold okNum; omega)]
    dsimp only
    rw [List.append_assoc, num_put (by unfold okNum; omega)]
    dsimp only
    have e1 : was + (x.fr - was) = x.fr := by omega
    have e2 : x.fr + (x.to - x.fr) = x.to := by omega
    rw [e1, e2, ih _ _ _ (by omega) (by omega) (fun i hi => ?_)]
    · simp
    · have hi' := h (i + 1) (by simpa using hi)
      simp only [List.getElem_cons_succ] at hi'
      refine ⟨hi'.1, fun q => ?_, fun q => ?_⟩
      · have := hi'.2.1 (by omega)
        obtain ⟨j, rfl⟩ : ∃ j, i = j + 1 := ⟨i - 1, by omega⟩
        simpa using this
      · subst q
        have := hi'.2.1 (by omega)
        simpa using this
theorem kn_put {k : Kn} (h1 : 1 ≤ k.rep) (h2 : k.rep ≤ 16) (h3 : rnsOk k.runs) (hf : k.runs.length ≤ 4096) (r : List UInt8) : knSt (knB k ++ r) 0 = (k, r, 0) := by
  dsimp only [knSt, knB]
  rw [List.append_assoc, within_put (by unfold okNum; omega) h1 h2]
  dsimp only
  rw [List.append_assoc, within_put (by unfold okNum; omega) (by omega) (by omega)]
  dsimp only
  rw [Int.toNat_natCast, runs_put _ _ _ _ (by omega) (by omega) (fun i hi => ?_)]
  · simp
  · have h4 := h3 i hi hi
    have h5 := rnsOk_get h3 hi
    exact ⟨h4.1, fun q => by have := h4.2 q; omega, fun _ => by omega⟩
def fewS (s : List Kn) : Prop := ∀ k ∈ s, k.runs.length ≤ 4096
theorem lis_put {α : Type} {st : List UInt8 → Int → α × List UInt8 × Int} {B : α → List UInt8} {most : Int} {l : List α} (h : ∀ x ∈ l, ∀ r, st (B x ++ r) 0 = (x, r, 0)) (hl : (l.length : Int) ≤ most) (hm : most ≤ 1000000) (r : List UInt8) :
    lisSt st most (numI (l.length : Nat) ++ (l.flatMap B ++ r)) 0 = (l, r, 0) := by
  unfold lisSt
  rw [within_put (by unfold okNum; omega) (by omega) hl]
  dsimp only
  rw [Int.toNat_natCast]
  have := ls_put (st := st) (B := B) l [] r h
  rw [this]
  simp
theorem pc_put {p : Pc} (h1 : rgR p.rg = true) (h2 : knsOk p.set) (h3 : fewS p.set) (r : List UInt8) : pcSt (pcB p ++ r) 0 = (p, r, 0) := by
  dsimp only [pcSt, pcB, setB]
  rw [List.append_assoc, rg_put h1]
  dsimp only
  rw [List.append_assoc, lis_put (fun k hk r => ?_) (by have := knsOk_len h2; omega) (by omega)]
  obtain ⟨i, hi, rfl⟩ := List.getElem_of_mem hk
  obtain ⟨a, b, _, d⟩ := knsOk_get h2 hi
  exact kn_put a b d (h3 _ hk) r
theorem rdKnow_put {k : List Pc} (h : pcsOk k) (hf : ∀ p ∈ k, fewS p.set) (hl : k.length ≤ 4096) : rdKnow (knowB k) = (k, 0) :=
  list_put (fun p hp r => by
    obtain ⟨i, hi, rfl⟩ := List.getElem_of_mem hp
    obtain ⟨a, _, c, _⟩ := h i hi hi
    exact pc_put a c (hf _ hp) r) (by omega) (by omega) h
theorem runs_back : ∀ (n : Nat) (acc : List Rn) (was : Int) (l : List UInt8) (e : Int), (rnsSt n acc was l e).2.2 = 0 →
    e = 0 ∧ ∃ m : List Rn, (rnsSt n acc was l e).1 = acc ++ m ∧ m.length = n ∧ l = runsB was m ++ (rnsSt n acc was l e).2.1 := by
  intro n
  induction n with
  | zero => intro acc was l e h0; exact ⟨h0, [], by simp [rnsSt], rfl, by simp [rnsSt, runsB]⟩
  | succ n ih =>
    intro acc was l e h0
    unfold rnsSt at h0 ⊢
    by_cases he : e = 0
    · subst he
      rw [if_neg (by simp)] at h0 ⊢
      dsimp only at h0 ⊢
      obtain ⟨g1, m, g2, g3, g4⟩ := ih _ _ _ _ h0
      obtain ⟨y1, _, y3⟩ := num_back g1
      obtain ⟨_, _, x3⟩ := num_back y1
      refine ⟨rfl, _ :: m, by rw [g2]; simp; rfl, by simp [g3], ?_⟩
      rw [runsB]
      simp only
      rw [show was + (numSt l 0).1 - was = (numSt l 0).1 by omega, show was + (numSt l 0).1 + (numSt (numSt l 0).2.1 (numSt l 0).2.2).1 - (was + (numSt l 0).1) = (numSt (numSt l 0).2.1 (numSt l 0).2.2).1 by omega]
      rw [List.append_assoc, List.append_assoc, ← g4, ← y3]
      exact x3
    · rw [if_pos he] at h0
      exact absurd h0 he
theorem kn_back {l : List UInt8} {e : Int} (h : (knSt l e).2.2 = 0) : e = 0 ∧ l = knB (knSt l e).1 ++ (knSt l e).2.1 := by
  dsimp only [knSt] at h ⊢
  obtain ⟨g1, m, g2, g3, g4⟩ := runs_back _ _ _ _ _ h
  obtain ⟨n1, _, n3, n4, n5⟩ := within_back g1
  obtain ⟨a1, _, _, _, a5⟩ := within_back n1
  refine ⟨a1, ?_⟩
  simp only [knB]
  rw [g2, List.nil_append, g3, Int.toNat_of_nonneg n3, List.append_assoc, List.append_assoc, ← g4, ← n5]
  exact a5
theorem lis_back {α : Type} {st : List UInt8 → Int → α × List UInt8 × Int} {B : α → List UInt8} {most : Int} (h : ∀ l e, (st l e).2.2 = 0 → e = 0 ∧ l = B (st l e).1 ++ (st l e).2.1) {l : List UInt8} {e : Int} (h0 : (lisSt st most l e).2.2 = 0) :
    e = 0 ∧ ((lisSt st most l e).1.length : Int) ≤ most ∧ l = numI ((lisSt st most l e).1.length : Nat) ++ ((lisSt st most l e).1.flatMap B ++ (lisSt st most l e).2.1) := by
  unfold lisSt at h0 ⊢
  obtain ⟨g1, m, g3, g4, g6⟩ := ls_back h _ _ _ _ h0
  obtain ⟨w1, w2, w3, w4, w5⟩ := within_back g1
  refine ⟨w1, by rw [g3]; simp; omega, ?_⟩
  rw [g3, List.nil_append, g4, Int.toNat_of_nonneg w3, ← g6]
  exact w5
theorem pc_back {l : List UInt8} {e : Int} (h : (pcSt l e).2.2 = 0) : e = 0 ∧ l = pcB (pcSt l e).1 ++ (pcSt l e).2.1 := by
  dsimp only [pcSt] at h ⊢
  obtain ⟨s1, _, s3⟩ := lis_back (fun _ _ => kn_back) h
  obtain ⟨r1, r2⟩ := rg_back s1
  refine ⟨r1, ?_⟩
  simp only [pcB, setB]
  rw [List.append_assoc, List.append_assoc, ← s3]
  exact r2
theorem rdKnow_back {b : List UInt8} (h : (rdKnow b).2 = 0) : pcsOk (rdKnow b).1 ∧ ((rdKnow b).1.length : Int) ≤ 4096 ∧ knowB (rdKnow b).1 = b := list_back (fun _ _ => pc_back) h
theorem rnsSt_len : ∀ (n : Nat) (acc : List Rn) (was : Int) (l : List UInt8) (e : Int), (rnsSt n acc was l e).1.length ≤ acc.length + n := by
  intro n
  induction n with
  | zero => intro acc was l e; simp [rnsSt]
  | succ n ih =>
    intro acc was l e
    unfold rnsSt
    split
    · simp
    · have := ih (acc ++ [⟨was + (numSt l e).1, was + (numSt l e).1 + (numSt (numSt l e).2.1 (numSt l e).2.2).1⟩]) (was + (numSt l e).1 + (numSt (numSt l e).2.1 (numSt l e).2.2).1) (numSt (numSt l e).2.1 (numSt l e).2.2).2.1 (numSt (numSt l e).2.1 (numSt l e).2.2).2.2
      simp at this ⊢; omega
end Go.Proofs.YtoiaegbmbhgdpaaGreat
