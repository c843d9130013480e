/- Texts joined: Nd RgL IcL Fc. -/
import Derived.Test.YtbpmafpmlapekaaGreatJ12
import Derived.Test.YtbpmafpmlapekaaGreatJ11
namespace Go.Proofs.YtbpmafpmlapekaaGreat
open Go.RowKit
structure Nd where
  op : Int
  kids : Int
  lo : ByteArray
  hi : ByteArray
deriving DecidableEq
def encNd (n : Nd) : List Value := [.int .i64 n.op, .int .i64 n.kids, .string n.lo, .string n.hi]
theorem encNd_ok : Enc 4 encNd := ⟨by decide, fun _ => rfl, fun x u hu => by
  simp only [encNd, List.mem_cons, List.not_mem_nil, or_false] at hu
  rcases hu with rfl | rfl | rfl | rfl <;> rfl⟩
abbrev ndP (n : Nd) : List PV := [rawP (.int .i64 n.op), rawP (.int .i64 n.kids), rawP (.string n.lo), rawP (.string n.hi)]
abbrev ndC (n : Nd) : Cnt := .per (aggP (ndP n))
abbrev ndsP (l : List Nd) : PV := lstP 4 (l.map ndP)
abbrev ndsB (l : List Nd) : Cnt := .bor 4 (l.map ndP)
def ndE (x y : Nd) : Bool := decide (x.op = y.op) && (decide (x.kids = y.kids) && ((x.lo == y.lo) && ((x.hi == y.hi) && true)))
theorem ndE_iff (x y : Nd) : ndE x y = true ↔ x = y := by
  obtain ⟨a, b, c, d⟩ := x
  obtain ⟨a', b', c', d'⟩ := y
  simp only [ndE, Bool.and_eq_true, sbeq, decide_eq_true_eq, and_true, Nd.mk.injEq]
/-- a node that may be, but for what it finds -/
def ndR (n : Nd) : Bool := decide ((n.op = 1 ∨ n.op = 2) ∧ n.kids = 0 ∧ n.lo = e0 ∧ n.hi = e0 ∨ n.op = 3 ∧ n.kids = 0 ∧ n.lo.size ≤ 16 ∧ n.hi = e0 ∨ n.op = 4 ∧ n.kids = 0 ∧ rgR ⟨n.lo, n.hi, false⟩ = true ∨ n.op = 5 ∧ n.kids = 0 ∧ n.lo.size ≤ 17 ∧ n.hi = e0 ∨ n.op = 6 ∧ n.kids = 1 ∧ n.lo = e0 ∧ n.hi = e0 ∨ (n.op = 7 ∨ n.op = 8) ∧ 1 ≤ n.kids ∧ n.kids ≤ 32 ∧ n.lo = e0 ∧ n.hi = e0)
theorem ndR_iff (n : Nd) : ndR n = true ↔ ((n.op = 1 ∨ n.op = 2) ∧ n.kids = 0 ∧ n.lo = e0 ∧ n.hi = e0 ∨ n.op = 3 ∧ n.kids = 0 ∧ n.lo.size ≤ 16 ∧ n.hi = e0 ∨ n.op = 4 ∧ n.kids = 0 ∧ rgR ⟨n.lo, n.hi, false⟩ = true ∨ n.op = 5 ∧ n.kids = 0 ∧ n.lo.size ≤ 17 ∧ n.hi = e0 ∨ n.op = 6 ∧ n.kids = 1 ∧ n.lo = e0 ∧ n.hi = e0 ∨ (n.op = 7 ∨ n.op = 8) ∧ 1 ≤ n.kids ∧ n.kids ≤ 32 ∧ n.lo = e0 ∧ n.hi = e0) := by
  unfold ndR; exact decide_eq_true_iff
theorem ndR_kids {n : Nd} (h : ndR n = true) : 0 ≤ n.kids ∧ n.kids ≤ 32 := by
  rw [ndR_iff] at h; omega
/-- how many are open behind a list -/
def goN : Nat → List Nd → Option Nat
  | o, [] => some o
  | o, n :: r => if ndR n = true ∧ n.kids.toNat ≤ o then goN (o + 1 - n.kids.toNat) r else none
/-- from the last node down: what is left when as many are whole -/
def scN : List Nd → Nat → Option (List Nd)
  | r, 0 => some r
  | [], _ + 1 => none
  | n :: r, k + 1 => if ndR n = true then scN r (k + n.kids.toNat) else none
theorem scN_0 (r : List Nd) : scN r 0 = some r := by cases r <;> rfl
theorem goN_app : ∀ (l r : List Nd) (o : Nat), goN o (l ++ r) = (goN o l).bind fun m => goN m r := by
  intro l
  induction l with
  | nil => intro r o; rfl
  | cons n l ih =>
    intro r o
    simp only [List.cons_append, goN]
    split
    · exact ih _ _
    · rfl
theorem snoc_ind {α : Type} {P : List α → Prop} (h0 : P []) (h1 : ∀ l x, P l → P (l ++ [x])) : ∀ l, P l := by
  intro l
  have : ∀ r : List α, P r.reverse := by
    intro r
    induction r with
    | nil => exact h0
    | cons x r ih => rw [List.reverse_cons]; exact h1 _ _ ih
  simpa using this l.reverse
theorem go_sc (l : List Nd) : ∀ m, goN 0 l = some m ↔ scN l.reverse m = some [] := by
  induction l using snoc_ind with
  | h0 =>
    intro m
    cases m with
    | zero => simp [goN, scN]
    | succ m => simp [goN, scN]
  | h1 l n ih =>
    intro m
    rw [goN_app, List.reverse_append]
    simp only [List.reverse_cons, List.reverse_nil, List.nil_append, List.singleton_append]
    cases m with
    | zero =>
      simp only [scN, Option.some.injEq, reduceCtorEq, iff_false]
      intro h
      cases hg : goN 0 l with
      | none => rw [hg] at h; cases h
      | some k =>
        rw [hg] at h
        simp only [Option.bind_some, goN] at h
        split at h
        · rename_i hc; injection h with h; omega
        · cases h
    | succ m =>
      simp only [scN]
      by_cases hr : ndR n = true
      · rw [if_pos hr, ← ih]
        constructor
        · intro h
          cases hg : goN 0 l with
          | none => rw [hg] at h; cases h
          | some k =>
            rw [hg] at h
            simp only [Option.bind_some, goN] at h
            split at h
            · rename_i hc; injection h with h; rw [show k = m + n.kids.toNat by omega]
            · cases h
        · intro h
          rw [h]
          simp only [Option.bind_some, goN]
          rw [if_pos ⟨hr, by omega⟩, show m + n.kids.toNat + 1 - n.kids.toNat = m + 1 by omega]
      · rw [if_neg hr]
        simp only [reduceCtorEq, iff_false]
        intro h
        cases hg : goN 0 l with
        | none => rw [hg] at h; cases h
        | some k =>
          rw [hg] at h
          simp only [Option.bind_some, goN] at h
          rw [if_neg (fun q => hr q.1)] at h
          cases h
theorem scN_add : ∀ (r : List Nd) (a b : Nat), scN r (a + b) = (scN r a).bind fun x => scN x b := by
  intro r
  induction r with
  | nil =>
    intro a b
    cases a with
    | zero => simp [scN_0]
    | succ a => rw [show a + 1 + b = (a + b) + 1 by omega]; rfl
  | cons n r ih =>
    intro a b
    cases a with
    | zero => simp [scN_0]
    | succ a =>
      rw [show a + 1 + b = (a + b) + 1 by omega]
      simp only [scN]
      split
      · rw [show a + b + n.kids.toNat = (a + n.kids.toNat) + b by omega, ih]
      · rfl
theorem scN_suf : ∀ (r : List Nd) (k : Nat) (x : List Nd), scN r k = some x → x <:+ r ∧ (0 < k → x.length < r.length) := by
  intro r
  induction r with
  | nil =>
    intro k x h
    cases k with
    | zero => simp [scN] at h; subst h; simp
    | succ k => simp [scN] at h
  | cons n r ih =>
    intro k x h
    cases k with
    | zero => rw [scN_0] at h; cases h; simp
    | succ k =>
      simp only [scN] at h
      split at h
      · obtain ⟨h1, _⟩ := ih _ _ h
        have := h1.length_le
        exact ⟨h1.trans (List.suffix_cons _ _), fun _ => by simp; omega⟩
      · cases h
/-- a right filter -/
def ndsOk (l : List Nd) : Prop := l.length ≤ 32 ∧ goN 0 l = some 1
def bgnI : Option (List Nd) → Int
  | none => -1
  | some r => (r.length : Nat)
/-- what stands ahead of a place, from the last one down -/
def upto (l : List Nd) (n : Nat) : List Nd := (l.take n).reverse
theorem upto_suf {l x : List Nd} {n : Nat} (h : x <:+ upto l n) : x = upto l x.length := by
  obtain ⟨t, ht⟩ := h
  have h1 : l.take n = x.reverse ++ t.reverse := by
    have := congrArg List.reverse ht
    unfold upto at this
    rw [List.reverse_reverse, List.reverse_append] at this
    exact this.symm
  have h2 : l = x.reverse ++ (t.reverse ++ l.drop n) := by rw [← List.append_assoc, ← h1, List.take_append_drop]
  unfold upto
  have h3 : l.take x.length = x.reverse := by rw [h2, List.take_append_of_le_length (by simp), List.take_of_length_le (by simp)]
  rw [h3, List.reverse_reverse]
theorem upto_succ {l : List Nd} {n : Nat} (h : n < l.length) : upto l (n + 1) = l[n] :: upto l n := by
  unfold upto
  rw [List.take_succ_eq_append_getElem h, List.reverse_append]; rfl
section
set_option maxRecDepth 10000
set_option maxHeartbeats 8000000
theorem tl_e0 (s : ByteArray) : (s.toList == (⟨#[]⟩ : ByteArray).toList) = decide (s = e0) := by
  rw [Bool.eq_iff_iff, beq_iff_eq, toL_inj', decide_eq_true_iff]; rfl
theorem tl_e0' : (⟨#[]⟩ : ByteArray) = e0 := rfl
end
end Go.Proofs.YtbpmafpmlapekaaGreat
namespace Go.Proofs.YtbpmafpmlapekaaGreat
open Go.RowKit
section
set_option maxRecDepth 10000
set_option maxHeartbeats 4000000
def rgLg (x : Rg) : Bool := decide (x.lo.size > 40) || decide (x.hi.size > 40)
def longRgs (l : List Rg) (most : Int) : Bool := decide ((l.length : Int) > most) || l.any rgLg
theorem longRgs_len {l : List Rg} {most : Int} (h : longRgs l most = false) : (l.length : Int) ≤ most := by
  unfold longRgs at h
  rw [Bool.or_eq_false_iff, decide_eq_false_iff_not] at h
  omega
def ndLg (x : Nd) : Bool := decide (x.lo.size > 40) || decide (x.hi.size > 40)
def longNds (l : List Nd) (most : Int) : Bool := decide ((l.length : Int) > most) || l.any ndLg
theorem longNds_len {l : List Nd} {most : Int} (h : longNds l most = false) : (l.length : Int) ≤ most := by
  unfold longNds at h
  rw [Bool.or_eq_false_iff, decide_eq_false_iff_not] at h
  omega
end
end Go.Proofs.YtbpmafpmlapekaaGreat
namespace Go.Proofs.YtbpmafpmlapekaaGreat
open Go.RowKit
def s0 : ByteArray := ⟨#[]⟩
/-- a text behind its first n bytes -/
def cutS (s : ByteArray) (n : Nat) : ByteArray := s.extract n s.size
/-- items, one behind the other -/
def itemsT (was : ByteArray) : List It → List UInt8
  | [] => []
  | x :: r => numI (alike was x.key : Nat) ++ (textB (cutS x.key (alike was x.key)) ++ (restB x ++ itemsT x.key r))
def itemsB (l : List It) : List UInt8 := numI (l.length : Nat) ++ itemsT s0 l
theorem cutS_size (s : ByteArray) (n : Nat) : (cutS s n).size = s.size - n := by unfold cutS; simp
theorem restB_len {x : It} (h : itR x = true) : (restB x).length ≤ 110 := by
  obtain ⟨h1, h2, h3, h4⟩ := itR_nums h
  have h5 := nums_len _ h1
  have h6 := textB_len x.body (by omega)
  have h8 : (restNums x).length = 5 := rfl
  simp only [restB, List.length_append]; omega
theorem drop_cons {α : Type} (l : List α) (k : Nat) (h : k < l.length) : l.drop k = l[k] :: l.drop (k + 1) := List.drop_eq_getElem_cons h
section
set_option maxRecDepth 10000
set_option maxHeartbeats 4000000
theorem ref_Bytes (n : Int) (h : okNum n) : Fn Tryz.prog 54 [iC .i64 n] (ownB (numI n)) := by
  refine ⟨⟨_, Tryz.func54, by kernel_rfl, by kernel_rfl⟩, fun N0 w vs _ ha => ?_⟩
  obtain ⟨v, rfl, h1⟩ := args1 ha
  obtain rfl : v = .int .i64 n := h1
  obtain ⟨h0, h2⟩ := h
  obtain ⟨m, rfl⟩ := Int.eq_ofNat_of_zero_le h0
  refine Calls.mono (refBytes_any m m w (Nat.le_refl _) (by omega)) ?_
  rintro e w' ⟨v', rfl, h⟩
  exact ⟨_, rfl, h.ext, sl_own encB_ok h⟩
theorem byte_one {n : Nat} (h : n < 128) : [[rawP (.int .u8 (IntKind.u8.wrap (n : Int)))]] = (numI (n : Int)).map byteP := by
  have e : IntKind.u8.wrap (n : Int) = n := by
    unfold IntKind.wrap
    simp [IntKind.bits, IntKind.signed]
    omega
  unfold numI
  rw [Int.toNat_natCast, numB_lt h, e]
  show [[rawP (.int .u8 (n : Int))]] = [[rawP (.int .u8 ((UInt8.ofNat n).toNat : Int))]]
  rw [UInt8.toNat_ofNat', Nat.mod_eq_of_lt (by omega)]
end
end Go.Proofs.YtbpmafpmlapekaaGreat
namespace Go.Proofs.YtbpmafpmlapekaaGreat
open Go.RowKit
def rgB (r : Rg) : List UInt8 := textB r.lo ++ (if r.op = true then numI 1 else numI 0 ++ textB r.hi)
def rgsBy (l : List Rg) : List UInt8 := numI (l.length : Nat) ++ l.flatMap rgB
def ndB (n : Nd) : List UInt8 := numI n.op ++ (if n.op = 3 ∨ n.op = 5 then textB n.lo else if n.op = 4 then textB n.lo ++ textB n.hi else if n.op = 7 ∨ n.op = 8 then numI n.kids else [])
def ndsBy (l : List Nd) : List UInt8 := numI (l.length : Nat) ++ l.flatMap ndB
theorem numI_one {n : Int} (h0 : 0 ≤ n) (h : n < 128) : (numI n).length = 1 := by
  unfold numI; rw [numB_lt (by omega)]; rfl
theorem rgB_len {r : Rg} (h : rgR r = true) : (rgB r).length ≤ 40 := by
  obtain ⟨h1, h2, _⟩ := (rgR_iff r).1 h
  have q1 := textB_len r.lo (by omega)
  have q2 := textB_len r.hi (by omega)
  have q3 := numI_one (n := 0) (by omega) (by omega)
  have q4 := numI_one (n := 1) (by omega) (by omega)
  unfold rgB
  split <;> simp <;> omega
theorem rgsOk_R {l : List Rg} (h : rgsOk l) {i : Nat} (hi : i < l.length) : rgR l[i] = true := (h i hi).1
theorem ndR_sizes {n : Nd} (h : ndR n = true) : 1 ≤ n.op ∧ n.op ≤ 8 ∧ n.lo.size ≤ 17 ∧ n.hi.size ≤ 17 := by
  rw [ndR_iff] at h
  have h0 : e0.size = 0 := by decide
  rcases h with ⟨a, _, b, c⟩ | ⟨a, _, b, c⟩ | ⟨a, _, b⟩ | ⟨a, _, b, c⟩ | ⟨a, _, b, c⟩ | ⟨a, _, _, b, c⟩
  · rw [b, c, h0]; omega
  · rw [c, h0]; omega
  · have := (rgR_iff _).1 b; simp only at this; omega
  · rw [c, h0]; omega
  · rw [b, c, h0]; omega
  · rw [b, c, h0]; omega
theorem ndB_len {n : Nd} (h : ndR n = true) : (ndB n).length ≤ 40 := by
  obtain ⟨h1, h2, h3, h4⟩ := ndR_sizes h
  have hk := ndR_kids h
  have q1 := textB_len n.lo (by omega)
  have q2 := textB_len n.hi (by omega)
  have q3 := numI_one (n := n.op) (by omega) (by omega)
  have q4 := numI_one (n := n.kids) (by omega) (by omega)
  unfold ndB
  rw [List.length_append]
  split
  · omega
  · split
    · simp; omega
    · split
      · omega
      · simp; omega
theorem goN_R : ∀ (l : List Nd) (o m : Nat), goN o l = some m → ∀ x ∈ l, ndR x = true := by
  intro l
  induction l with
  | nil => intro o m _ x hx; simp at hx
  | cons n l ih =>
    intro o m h x hx
    unfold goN at h
    split at h
    · rename_i hc
      rcases List.mem_cons.1 hx with e | e
      · subst e; exact hc.1
      · exact ih _ _ h x e
    · cases h
section
set_option maxRecDepth 10000
set_option maxHeartbeats 8000000
theorem numI_0 : (numI 0).map byteP = [[rawP (.int .u8 0)]] := by unfold numI; rw [numB_lt (by decide)]; rfl
theorem numI_1 : (numI 1).map byteP = [[rawP (.int .u8 1)]] := by unfold numI; rw [numB_lt (by decide)]; rfl
theorem ok_small {n : Int} (h0 : 0 ≤ n) (h : n ≤ 1000000) : ∀ m ∈ [n], okNum m := fun m hm => by simp at hm; subst hm; unfold okNum; omega
theorem byteI {n : Int} (h0 : 0 ≤ n) (h : n < 128) : [[rawP (.int .u8 (IntKind.u8.wrap n))]] = (numI n).map byteP := by
  obtain ⟨m, rfl⟩ := Int.eq_ofNat_of_zero_le h0
  exact byte_one (by omega)
end
end Go.Proofs.YtbpmafpmlapekaaGreat
