/- Filters: their nodes, which are right (the program's and the references'). -/
import Derived.Test.YtbpmafpmlapekaaRg
namespace Go.Proofs.Ytbpmafpmlapekaa
open Go.RowKit
structure Nd where
  op : Int
  kids : Int
  lo : ByteArray
  hi : ByteArray
deriving DecidableEq
def encNd (n : Nd) : List Value := [.int .i64 n.op, .int .i64 n.kids, .string n.lo, .string n.hi]
theorem encNd_ok : Enc 4 encNd := ⟨by decide, fun _ => rfl, fun x u hu => by
  simp only [encNd, List.mem_cons, List.not_mem_nil, or_false] at hu
  rcases hu with rfl | rfl | rfl | rfl <;> rfl⟩
abbrev ndP (n : Nd) : List PV := [rawP (.int .i64 n.op), rawP (.int .i64 n.kids), rawP (.string n.lo), rawP (.string n.hi)]
abbrev ndC (n : Nd) : Cnt := .per (aggP (ndP n))
abbrev ndsP (l : List Nd) : PV := lstP 4 (l.map ndP)
abbrev ndsB (l : List Nd) : Cnt := .bor 4 (l.map ndP)
def ndE (x y : Nd) : Bool := decide (x.op = y.op) && (decide (x.kids = y.kids) && ((x.lo == y.lo) && ((x.hi == y.hi) && true)))
theorem ndE_iff (x y : Nd) : ndE x y = true ↔ x = y := by
  obtain ⟨a, b, c, d⟩ := x
  obtain ⟨a', b', c', d'⟩ := y
  simp only [ndE, Bool.and_eq_true, sbeq, decide_eq_true_eq, and_true, Nd.mk.injEq]
/-- a node that may be, but for what it finds -/
def ndR (n : Nd) : Bool := decide ((n.op = 1 ∨ n.op = 2) ∧ n.kids = 0 ∧ n.lo = e0 ∧ n.hi = e0 ∨ n.op = 3 ∧ n.kids = 0 ∧ n.lo.size ≤ 16 ∧ n.hi = e0 ∨ n.op = 4 ∧ n.kids = 0 ∧ rgR ⟨n.lo, n.hi, false⟩ = true ∨ n.op = 5 ∧ n.kids = 0 ∧ n.lo.size ≤ 17 ∧ n.hi = e0 ∨ n.op = 6 ∧ n.kids = 1 ∧ n.lo = e0 ∧ n.hi = e0 ∨ (n.op = 7 ∨ n.op = 8) ∧ 1 ≤ n.kids ∧ n.kids ≤ 32 ∧ n.lo = e0 ∧ n.hi = e0)
theorem ndR_iff (n : Nd) : ndR n = true ↔ ((n.op = 1 ∨ n.op = 2) ∧ n.kids = 0 ∧ n.lo = e0 ∧ n.hi = e0 ∨ n.op = 3 ∧ n.kids = 0 ∧ n.lo.size ≤ 16 ∧ n.hi = e0 ∨ n.op = 4 ∧ n.kids = 0 ∧ rgR ⟨n.lo, n.hi, false⟩ = true ∨ n.op = 5 ∧ n.kids = 0 ∧ n.lo.size ≤ 17 ∧ n.hi = e0 ∨ n.op = 6 ∧ n.kids = 1 ∧ n.lo = e0 ∧ n.hi = e0 ∨ (n.op = 7 ∨ n.op = 8) ∧ 1 ≤ n.kids ∧ n.kids ≤ 32 ∧ n.lo = e0 ∧ n.hi = e0) := by
  unfold ndR; exact decide_eq_true_iff
theorem ndR_kids {n : Nd} (h : ndR n = true) : 0 ≤ n.kids ∧ n.kids ≤ 32 := by
  rw [ndR_iff] at h; omega
/-- how many are open behind a list -/
def goN : Nat → List Nd → Option Nat
  | o, [] => some o
  | o, n :: r => if ndR n = true ∧ n.kids.toNat ≤ o then goN (o + 1 - n.kids.toNat) r else none
/-- from the last node down: what is left when as many are whole -/
def scN : List Nd → Nat → Option (List Nd)
  | r, 0 => some r
  | [], _ + 1 => none
  | n :: r, k + 1 => if ndR n = true then scN r (k + n.kids.toNat) else none
theorem scN_0 (r : List Nd) : scN r 0 = some r := by cases r <;> rfl
theorem goN_app : ∀ (l r : List Nd) (o : Nat), goN o (l ++ r) = (goN o l).bind fun m => goN m r := by
  intro l
  induction l with
  | nil => intro r o; rfl
  | cons n l ih =>
    intro r o
    simp only [List.cons_append, goN]
    split
    · exact ih _ _
    · rfl
theorem snoc_ind {α : Type} {P : List α → Prop} (h0 : P []) (h1 : ∀ l x, P l → P (l ++ [x])) : ∀ l, P l := by
  intro l
  have : ∀ r : List α, P r.reverse := by
    intro r
    induction r with
    | nil => exact h0
    | cons x r ih => rw [List.reverse_cons]; exact h1 _ _ ih
  simpa using this l.reverse
theorem go_sc (l : List Nd) : ∀ m, goN 0 l = some m ↔ scN l.reverse m = some [] := by
  induction l using snoc_ind with
  | h0 =>
    intro m
    cases m with
    | zero => simp [goN, scN]
    | succ m => simp [goN, scN]
  | h1 l n ih =>
    intro m
    rw [goN_app, List.reverse_append]
    simp only [List.reverse_cons, List.reverse_nil, List.nil_append, List.singleton_append]
    cases m with
    | zero =>
      simp only [scN, Option.some.injEq, reduceCtorEq, iff_false]
      intro h
      cases hg : goN 0 l with
      | none => rw [hg] at h; cases h
      | some k =>
        rw [hg] at h
        simp only [Option.bind_some, goN] at h
        split at h
        · rename_i hc; injection h with h; omega
        · cases h
    | succ m =>
      simp only [scN]
      by_cases hr : ndR n = true
      · rw [if_pos hr, ← ih]
        constructor
        · intro h
          cases hg : goN 0 l with
          | none => rw [hg] at h; cases h
          | some k =>
            rw [hg] at h
            simp only [Option.bind_some, goN] at h
            split at h
            · rename_i hc; injection h with h; rw [show k = m + n.kids.toNat by omega]
            · cases h
        · intro h
          rw [h]
          simp only [Option.bind_some, goN]
          rw [if_pos ⟨hr, by omega⟩, show m + n.kids.toNat + 1 - n.kids.toNat = m + 1 by omega]
      · rw [if_neg hr]
        simp only [reduceCtorEq, iff_false]
        intro h
        cases hg : goN 0 l with
        | none => rw [hg] at h; cases h
        | some k =>
          rw [hg] at h
          simp only [Option.bind_some, goN] at h
          rw [if_neg (fun q => hr q.1)] at h
          cases h
theorem scN_add : ∀ (r : List Nd) (a b : Nat), scN r (a + b) = (scN r a).bind fun x => scN x b := by
  intro r
  induction r with
  | nil =>
    intro a b
    cases a with
    | zero => simp [scN_0]
    | succ a => rw [show a + 1 + b = (a + b) + 1 by omega]; rfl
  | cons n r ih =>
    intro a b
    cases a with
    | zero => simp [scN_0]
    | succ a =>
      rw [show a + 1 + b = (a + b) + 1 by omega]
      simp only [scN]
      split
      · rw [show a + b + n.kids.toNat = (a + n.kids.toNat) + b by omega, ih]
      · rfl
theorem scN_suf : ∀ (r : List Nd) (k : Nat) (x : List Nd), scN r k = some x → x <:+ r ∧ (0 < k → x.length < r.length) := by
  intro r
  induction r with
  | nil =>
    intro k x h
    cases k with
    | zero => simp [scN] at h; subst h; simp
    | succ k => simp [scN] at h
  | cons n r ih =>
    intro k x h
    cases k with
    | zero => rw [scN_0] at h; cases h; simp
    | succ k =>
      simp only [scN] at h
      split at h
      · obtain ⟨h1, _⟩ := ih _ _ h
        have := h1.length_le
        exact ⟨h1.trans (List.suffix_cons _ _), fun _ => by simp; omega⟩
      · cases h
/-- a right filter -/
def ndsOk (l : List Nd) : Prop := l.length ≤ 32 ∧ goN 0 l = some 1
def bgnI : Option (List Nd) → Int
  | none => -1
  | some r => (r.length : Nat)
/-- what stands ahead of a place, from the last one down -/
def upto (l : List Nd) (n : Nat) : List Nd := (l.take n).reverse
theorem upto_suf {l x : List Nd} {n : Nat} (h : x <:+ upto l n) : x = upto l x.length := by
  obtain ⟨t, ht⟩ := h
  have h1 : l.take n = x.reverse ++ t.reverse := by
    have := congrArg List.reverse ht
    unfold upto at this
    rw [List.reverse_reverse, List.reverse_append] at this
    exact this.symm
  have h2 : l = x.reverse ++ (t.reverse ++ l.drop n) := by rw [← List.append_assoc, ← h1, List.take_append_drop]
  unfold upto
  have h3 : l.take x.length = x.reverse := by rw [h2, List.take_append_of_le_length (by simp), List.take_of_length_le (by simp)]
  rw [h3, List.reverse_reverse]
theorem upto_succ {l : List Nd} {n : Nat} (h : n < l.length) : upto l (n + 1) = l[n] :: upto l n := by
  unfold upto
  rw [List.take_succ_eq_append_getElem h, List.reverse_append]; rfl
section
set_option maxRecDepth 10000
set_option maxHeartbeats 8000000
theorem tl_e0 (s : ByteArray) : (s.toList == (⟨#[]⟩ : ByteArray).toList) = decide (s = e0) := by
  rw [Bool.eq_iff_iff, beq_iff_eq, toL_inj', decide_eq_true_iff]; rfl
theorem tl_e0' : (⟨#[]⟩ : ByteArray) = e0 := rfl
end
end Go.Proofs.Ytbpmafpmlapekaa
