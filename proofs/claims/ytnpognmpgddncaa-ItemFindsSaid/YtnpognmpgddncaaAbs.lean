/- The abstract state of a walk: what each slot and each block of the call's own reads as. No program in sight. -/
import Derived.Test.YtnpognmpgddncaaSlice
import Derived.Orders
namespace Go.Proofs.Ytnpognmpgddncaa
open Go.RowKit

abbrev BP := Nat → Prop
/-- what is known of a value, whatever becomes of the blocks N -/
structure PV where
  p : BP → World → Value → Prop
  mono : ∀ {N N' : BP} {w w' : World} {v : Value}, w.heap.size ≤ w'.heap.size → (∀ b, b < w.heap.size → ¬ N b → w'.heap[b]? = w.heap[b]?) →
    (∀ b, b < w.heap.size → N' b → N b) → p N w v → p N' w' v

def rawP (v : Value) : PV := ⟨fun _ _ u => u = v, fun _ _ _ h => h⟩

/-- a slice that reads as es: elements of k cells each -/
def lstAt (top N : BP) (k : Nat) (es : List (List PV)) (w : World) (u : Value) : Prop :=
  ∃ a c b o, u = .slice a es.length c ∧ es.length ≤ c ∧ c ≤ maxLen ∧ (a = none → c = 0) ∧ (0 < es.length → a = some ⟨b, o, none⟩ ∧ b < w.heap.size ∧ ¬ top b) ∧
    ∀ (i : Nat) (cs : List PV), es[i]? = some cs → cs.length = k ∧ ∀ (j : Nat) (A : PV), cs[j]? = some A →
      ∃ y, w.cell? ⟨b, o + i * k + j, none⟩ = some y ∧ y.oneCell' = true ∧ A.p N w y

theorem cell_same {w w' : World} {b o : Nat} (h : w'.heap[b]? = w.heap[b]?) : w'.cell? ⟨b, o, none⟩ = w.cell? ⟨b, o, none⟩ := by
  simp [World.cell?, h]

theorem lstAt.mono {top top' N N' : BP} {k : Nat} {es : List (List PV)} {w w' : World} {u : Value} (hs : w.heap.size ≤ w'.heap.size)
    (ht : ∀ b, b < w.heap.size → ¬ top b → w'.heap[b]? = w.heap[b]?) (hn : ∀ b, b < w.heap.size → ¬ N b → w'.heap[b]? = w.heap[b]?)
    (htt : ∀ b, b < w.heap.size → top' b → top b) (hnn : ∀ b, b < w.heap.size → N' b → N b) (h : lstAt top N k es w u) : lstAt top' N' k es w' u := by
  obtain ⟨a, c, b, o, h1, h2, h3, h4, h5, h6⟩ := h
  refine ⟨a, c, b, o, h1, h2, h3, h4, fun h0 => ?_, fun i cs hi => ?_⟩
  · obtain ⟨g1, g2, g3⟩ := h5 h0
    exact ⟨g1, by omega, fun hb => g3 (htt b g2 hb)⟩
  · obtain ⟨g1, g2⟩ := h6 i cs hi
    refine ⟨g1, fun j A hj => ?_⟩
    obtain ⟨y, hy, h1y, hp⟩ := g2 j A hj
    have h0 : 0 < es.length := by
      rcases Nat.eq_zero_or_pos es.length with h | h
      · rw [List.eq_nil_of_length_eq_zero h] at hi; simp at hi
      · exact h
    obtain ⟨_, q2, q3⟩ := h5 h0
    exact ⟨y, by rw [cell_same (ht b q2 q3)]; exact hy, h1y, A.mono hs hn hnn hp⟩

def lstP (k : Nat) (es : List (List PV)) : PV := ⟨fun N w u => lstAt N N k es w u, fun h1 h2 h3 h => lstAt.mono h1 h2 h2 h3 h3 h⟩

/-- cells that are handed on together -/
def cellsP (N : BP) (w : World) (vs : Array Value) (cs : List PV) : Prop :=
  vs.size = cs.length ∧ ∀ (j : Nat) (A : PV), cs[j]? = some A → ∃ y, vs[j]? = some y ∧ y.oneCell' = true ∧ A.p N w y
theorem cellsP.mono {N N' : BP} {w w' : World} {vs : Array Value} {cs : List PV} (h1 : w.heap.size ≤ w'.heap.size) (h2 : ∀ b, b < w.heap.size → ¬ N b → w'.heap[b]? = w.heap[b]?)
    (h3 : ∀ b, b < w.heap.size → N' b → N b) (h : cellsP N w vs cs) : cellsP N' w' vs cs :=
  ⟨h.1, fun j A hj => let ⟨y, g1, g2, g3⟩ := h.2 j A hj; ⟨y, g1, g2, A.mono h1 h2 h3 g3⟩⟩
def aggP (cs : List PV) : PV := ⟨fun N w u => ∃ vs : Array Value, u = .agg vs ∧ cellsP N w vs cs,
  fun h1 h2 h3 ⟨vs, h, h'⟩ => ⟨vs, h, h'.mono h1 h2 h3⟩⟩
/-- an address of cells that nobody turns -/
def rptrP (cs : List PV) : PV := ⟨fun N w u => ∃ b o, u = .pointer (some ⟨b, o, none⟩) ∧ b < w.heap.size ∧ ¬ N b ∧
    ∀ (j : Nat) (A : PV), cs[j]? = some A → ∃ y, w.cell? ⟨b, o + j, none⟩ = some y ∧ y.oneCell' = true ∧ A.p N w y,
  fun h1 h2 h3 ⟨b, o, e, hb, hn, h⟩ => ⟨b, o, e, by omega, fun x => hn (h3 b hb x), fun j A hj => let ⟨y, g1, g2, g3⟩ := h j A hj; ⟨y, by rw [cell_same (h2 b hb hn)]; exact g1, g2, A.mono h1 h2 h3 g3⟩⟩⟩

inductive Cnt where
  | any
  | per (A : PV)
  /-- a slice that was lent: it reads as es while the call runs -/
  | bor (k : Nat) (es : List (List PV))
  /-- an address within a slice that was lent -/
  | bpt (cs : List PV)
  /-- the slice of the row id -/
  | row (id vr : Nat)
  /-- an address in the block id -/
  | ptr (id vr off : Nat)
  /-- the address of cell j of element i of the row id, k cells an element -/
  | ept (id vr k i j : Nat)
  | grd (g : Bool) (c : Cnt)
  | tup2 (c d : Cnt)
  | tup3 (c d e : Cnt)
  /-- a function value with what it caught -/
  | clo1 (f : FuncId) (c : Cnt)
  | clo2 (f : FuncId) (c d : Cnt)
  | clo3 (f : FuncId) (c d e : Cnt)
  /-- a struct with references in it -/
  | aggN
  | aggK (c r : Cnt)

abbrev iC (k : IntKind) (n : Int) : Cnt := .per (rawP (.int k n))
abbrev bC (b : Bool) : Cnt := .per (rawP (.bool b))
abbrev sC (s : ByteArray) : Cnt := .per (rawP (.string s))

/-- a value together with the blocks F that it owns -/
structure OV where
  p : BP → BP → World → Value → Prop
  mono : ∀ {F F' N N' : BP} {w w' : World} {v : Value}, (∀ b, F b → F' b) → (∀ b, F b → b < w.heap.size) → w.heap.size ≤ w'.heap.size → (∀ b, b < w.heap.size → F b → w'.heap[b]? = w.heap[b]?) →
    (∀ b, b < w.heap.size → ¬ N b → w'.heap[b]? = w.heap[b]?) → (∀ b, b < w.heap.size → N' b → N b) → p F N w v → p F' N' w' v
  one : ∀ {F N : BP} {w : World} {v : Value}, p F N w v → v.oneCell' = true ∧ v.cells = #[v]

inductive Blk where
  | none
  | box (e : TypeId) (cells : List Cnt)
  | row (e k : Nat) (es : List (List PV))
  /-- a row of cells, the last of which is of the call's own -/
  | mix (e : Nat) (es : List PV) (c : Cnt)
  /-- a thing with all that it owns; the value is the row's -/
  | obj (A : OV)

structure St where
  get : Nat → Cnt
  blk : Nat → Blk
  ver : Nat → Nat

/-- what is fixed through a call: the world at its start, the blocks that the caller may turn later, the blocks that were lent to be turned -/
structure Gh where
  ow : Nat → Option Nat
  ph : Nat → Nat
  rh : Nat → Value
structure Ctx where
  W0 : World
  N0 : BP
  L : BP
  G0 : Gh
/-- ids of what was lent and stays where it is -/
def isFix (i : Nat) : Bool := Nat.ble 1000 i && Nat.blt i 2000
theorem isFix_lt {i : Nat} (h : i < 1000) : isFix i = false := by
  unfold isFix
  rw [Bool.and_eq_false_iff]
  refine .inl ?_
  cases hb : Nat.ble 1000 i
  · rfl
  · have := Nat.le_of_ble_eq_true hb; omega

def Gh.M (g : Gh) : BP := fun b => g.ow b ≠ none
def Gh.N (g : Gh) (C : Ctx) : BP := fun b => C.N0 b ∨ g.ow b ≠ none

def crep (C : Ctx) (vr : Nat → Nat) (g : Gh) (w : World) (v : Value) : Cnt → Prop
  | .any => True
  | .per A => A.p (g.N C) w v
  | .bor k es => lstAt g.M (g.N C) k es w v
  | .bpt cs => ∃ b o, v = .pointer (some ⟨b, o, none⟩) ∧ b < w.heap.size ∧ ¬ g.M b ∧ ∀ (j : Nat) (A : PV), cs[j]? = some A → ∃ y, w.cell? ⟨b, o + j, none⟩ = some y ∧ y.oneCell' = true ∧ A.p (g.N C) w y
  | .row id r => r ≤ vr id ∧ (r = vr id → v = g.rh id)
  | .ptr id r off => r ≤ vr id ∧ (r = vr id → v = .pointer (some ⟨g.ph id, off, none⟩))
  | .ept id r k i j => r ≤ vr id ∧ (r = vr id → v = .pointer (some ⟨g.ph id, i * k + j, none⟩))
  | .grd b c => b = true → crep C vr g w v c
  | .tup2 c d => ∃ x y, v = .tuple #[x, y] ∧ crep C vr g w x c ∧ crep C vr g w y d
  | .tup3 c d e => ∃ x y z, v = .tuple #[x, y, z] ∧ crep C vr g w x c ∧ crep C vr g w y d ∧ crep C vr g w z e
  | .aggN => v = .agg #[]
  | .aggK c r => ∃ (x : Value) (vs : List Value), v = .agg (x :: vs).toArray ∧ x.oneCell' = true ∧ crep C vr g w x c ∧ crep C vr g w (.agg vs.toArray) r
  | .clo1 f c => ∃ x, v = .func (.func f) #[] #[x] ∧ crep C vr g w x c
  | .clo2 f c d => ∃ x y, v = .func (.func f) #[] #[x, y] ∧ crep C vr g w x c ∧ crep C vr g w y d
  | .clo3 f c d e => ∃ x y z, v = .func (.func f) #[] #[x, y, z] ∧ crep C vr g w x c ∧ crep C vr g w y d ∧ crep C vr g w z e

def brep (C : Ctx) (vr : Nat → Nat) (g : Gh) (w : World) (id : Nat) : Blk → Prop
  | .none => True
  | .box e cells => ∃ cs : Array Value, w.heap[g.ph id]? = some (.cells cs e (0, 0)) ∧ g.ow (g.ph id) = some id ∧ cs.size = cells.length ∧
      ∀ (j : Nat) (c : Cnt), cells[j]? = some c → ∃ y, cs[j]? = some y ∧ y.oneCell' = true ∧ crep C vr g w y c
  | .row e k es => (g.rh id = .slice none 0 0 ∧ es = []) ∨ ∃ (cap : Nat) (cs : Array Value), g.rh id = .slice (some ⟨g.ph id, 0, none⟩) es.length cap ∧
      w.heap[g.ph id]? = some (.cells cs e (0, 0)) ∧ g.ow (g.ph id) = some id ∧ es.length ≤ cap ∧ cap ≤ maxLen ∧ cs.size = cap * k ∧
      ∀ (i : Nat) (ps : List PV), es[i]? = some ps → ps.length = k ∧ ∀ (j : Nat) (A : PV), ps[j]? = some A → ∃ y, cs[i * k + j]? = some y ∧ y.oneCell' = true ∧ A.p (g.N C) w y
  | .mix e es c => ∃ (cap : Nat) (cs : Array Value), g.rh id = .slice (some ⟨g.ph id, 0, none⟩) (es.length + 1) cap ∧
      w.heap[g.ph id]? = some (.cells cs e (0, 0)) ∧ g.ow (g.ph id) = some id ∧ es.length + 1 ≤ cap ∧ cap ≤ maxLen ∧ cs.size = cap ∧
      (∀ (i : Nat) (A : PV), es[i]? = some A → ∃ y, cs[i]? = some y ∧ y.oneCell' = true ∧ A.p (g.N C) w y) ∧ ∃ y, cs[es.length]? = some y ∧ y.oneCell' = true ∧ crep C vr g w y c
  | .obj A => A.p (fun b => g.ow b = some id) (g.N C) w (g.rh id)

structure RG (C : Ctx) (n : Nat) (S : St) (g : Gh) (a : Act) (w : World) : Prop where
  defers : a.defers = []
  tsz : a.tmps.size = n
  nle : n ≤ 1000
  keep : ∀ id, isFix id = true → g.ph id = C.G0.ph id ∧ g.rh id = C.G0.rh id
  os : w.os = C.W0.os
  tape : w.tape = C.W0.tape
  output : w.output = C.W0.output
  size : C.W0.heap.size ≤ w.heap.size
  old : ∀ b, b < C.W0.heap.size → ¬ C.L b → w.heap[b]? = C.W0.heap[b]?
  n0 : ∀ b, C.N0 b → b < C.W0.heap.size
  n0l : ∀ b, C.N0 b → ¬ C.L b
  dom : ∀ b id, g.ow b = some id → b < w.heap.size ∧ (C.W0.heap.size ≤ b ∨ C.L b)
  slots : ∀ t, crep C S.ver g w (a.tmps.getD t undef) (S.get t)
  blks : ∀ id, brep C S.ver g w id (S.blk id)
def R (C : Ctx) (n : Nat) (S : St) (a : Act) (w : World) : Prop := ∃ g, RG C n S g a w

/-- a step: what may turn -/
structure Stp (C : Ctx) (I : Nat → Prop) (vr vr' : Nat → Nat) (g g' : Gh) (w w' : World) : Prop where
  sz : w.heap.size ≤ w'.heap.size
  heap : ∀ b, b < w.heap.size → (∀ i, I i → g.ow b ≠ some i) → w'.heap[b]? = w.heap[b]?
  ow : ∀ b, b < w.heap.size → (∀ i, I i → g.ow b ≠ some i) → g'.ow b = g.ow b
  ow' : ∀ b, b < w.heap.size → g'.ow b ≠ none → g.ow b ≠ none
  dom : ∀ b id, g'.ow b = some id → b < w'.heap.size ∧ (C.W0.heap.size ≤ b ∨ C.L b)
  ver : ∀ id, vr' id = vr id ∨ (I id ∧ vr id < vr' id)
  gh : ∀ id, vr' id = vr id → g'.ph id = g.ph id ∧ g'.rh id = g.rh id
  fix : ∀ id, isFix id = true → g'.ph id = g.ph id ∧ g'.rh id = g.rh id
  os : w'.os = w.os
  tape : w'.tape = w.tape
  output : w'.output = w.output

section
variable {C : Ctx} {I : Nat → Prop} {vr vr' : Nat → Nat} {g g' : Gh} {w w' : World}
theorem Stp.n (h : Stp C I vr vr' g g' w w') : ∀ b, b < w.heap.size → g'.N C b → g.N C b := fun b hb hn => by
  rcases hn with hn | hn
  · exact .inl hn
  · exact .inr (h.ow' b hb hn)
theorem Stp.keep (h : Stp C I vr vr' g g' w w') : ∀ b, b < w.heap.size → ¬ g.M b → w'.heap[b]? = w.heap[b]? := fun b hb hn =>
  h.heap b hb (fun i _ e => hn (by unfold Gh.M; rw [e]; simp))
theorem Stp.keepN (h : Stp C I vr vr' g g' w w') : ∀ b, b < w.heap.size → ¬ g.N C b → w'.heap[b]? = w.heap[b]? := fun b hb hn =>
  h.keep b hb (fun e => hn (.inr e))
theorem Stp.crep (h : Stp C I vr vr' g g' w w') : ∀ {c : Cnt} {v : Value}, crep C vr g w v c → crep C vr' g' w' v c := by
  intro c
  induction c with
  | any => intro v _; trivial
  | per A => intro v hc; exact A.mono h.sz h.keepN h.n hc
  | bor k es => intro v hc; exact lstAt.mono h.sz h.keep h.keepN h.ow' h.n hc
  | bpt cs =>
    rintro v ⟨b, o, e, hb, hn, hc⟩
    refine ⟨b, o, e, by have := h.sz; omega, fun x => hn (h.ow' b hb x), fun j A hj => ?_⟩
    obtain ⟨y, g1, g2, g3⟩ := hc j A hj
    exact ⟨y, by rw [cell_same (h.keep b hb hn)]; exact g1, g2, A.mono h.sz h.keepN h.n g3⟩
  | row id r =>
    rintro v ⟨h1, h2⟩
    rcases h.ver id with e | ⟨_, e⟩
    · exact ⟨by omega, fun e' => by rw [(h.gh id e).2]; exact h2 (by omega)⟩
    · exact ⟨by omega, fun e' => by omega⟩
  | ptr id r off =>
    rintro v ⟨h1, h2⟩
    rcases h.ver id with e | ⟨_, e⟩
    · exact ⟨by omega, fun e' => by rw [(h.gh id e).1]; exact h2 (by omega)⟩
    · exact ⟨by omega, fun e' => by omega⟩
  | ept id r k i j =>
    rintro v ⟨h1, h2⟩
    rcases h.ver id with e | ⟨_, e⟩
    · exact ⟨by omega, fun e' => by rw [(h.gh id e).1]; exact h2 (by omega)⟩
    · exact ⟨by omega, fun e' => by omega⟩
  | grd b c ih => intro v hc hb; exact ih (hc hb)
  | tup2 c d ih1 ih2 => rintro v ⟨x, y, e, h1, h2⟩; exact ⟨x, y, e, ih1 h1, ih2 h2⟩
  | tup3 c d e ih1 ih2 ih3 => rintro v ⟨x, y, z, e, h1, h2, h3⟩; exact ⟨x, y, z, e, ih1 h1, ih2 h2, ih3 h3⟩
  | clo1 f c ih => rintro v ⟨x, e, h1⟩; exact ⟨x, e, ih h1⟩
  | clo2 f c d ih1 ih2 => rintro v ⟨x, y, e, h1, h2⟩; exact ⟨x, y, e, ih1 h1, ih2 h2⟩
  | clo3 f c d e ih1 ih2 ih3 => rintro v ⟨x, y, z, e, h1, h2, h3⟩; exact ⟨x, y, z, e, ih1 h1, ih2 h2, ih3 h3⟩
  | aggN => exact fun h => h
  | aggK c r ih1 ih2 => rintro v ⟨x, vs, e, o, h1, h2⟩; exact ⟨x, vs, e, o, ih1 h1, ih2 h2⟩
theorem Stp.cong {I' : Nat → Prop} (h : Stp C I vr vr' g g' w w') (hi : ∀ i, I i → I' i) : Stp C I' vr vr' g g' w w' :=
  ⟨h.sz, fun b hb hn => h.heap b hb (fun i hI => hn i (hi i hI)), fun b hb hn => h.ow b hb (fun i hI => hn i (hi i hI)), h.ow', h.dom, fun id => (h.ver id).imp (fun q => q) (fun q => ⟨hi _ q.1, q.2⟩), h.gh, h.fix, h.os, h.tape, h.output⟩
theorem Stp.brep (h : Stp C I vr vr' g g' w w') (hdom : ∀ b id, g.ow b = some id → b < w.heap.size) {id : Nat} (hid : ¬ I id) : ∀ {B : Blk}, brep C vr g w id B → brep C vr' g' w' id B := by
  have hv : vr' id = vr id := by
    rcases h.ver id with e | ⟨e, _⟩
    · exact e
    · exact absurd e hid
  obtain ⟨hph, hrh⟩ := h.gh id hv
  have hne : ∀ {b : Nat}, g.ow b = some id → ∀ i, I i → g.ow b ≠ some i := fun e i hi e' => by
    rw [e] at e'; cases e'; exact hid hi
  intro B
  cases B with
  | none => intro _; trivial
  | box e cells =>
    rintro ⟨cs, h1, h2, h3, h4⟩
    have hb := hdom _ _ h2
    refine ⟨cs, by rw [hph, h.heap _ hb (hne h2)]; exact h1, by rw [hph, h.ow _ hb (hne h2)]; exact h2, h3, fun j c hj => ?_⟩
    obtain ⟨y, g1, g2, g3⟩ := h4 j c hj
    exact ⟨y, g1, g2, h.crep g3⟩
  | row e k es =>
    rintro (⟨h1, h2⟩ | ⟨cap, cs, h1, h2, h3, h4, h5, h6, h7⟩)
    · exact .inl ⟨by rw [hrh]; exact h1, h2⟩
    · have hb := hdom _ _ h3
      refine .inr ⟨cap, cs, by rw [hrh, hph]; exact h1, by rw [hph, h.heap _ hb (hne h3)]; exact h2, by rw [hph, h.ow _ hb (hne h3)]; exact h3, h4, h5, h6, fun i ps hi => ?_⟩
      obtain ⟨g1, g2⟩ := h7 i ps hi
      refine ⟨g1, fun j A hj => ?_⟩
      obtain ⟨y, q1, q2, q3⟩ := g2 j A hj
      exact ⟨y, q1, q2, A.mono h.sz h.keepN h.n q3⟩
  | mix e es c =>
    rintro ⟨cap, cs, h1, h2, h3, h4, h5, h6, h7, y, q1, q2, q3⟩
    have hb := hdom _ _ h3
    refine ⟨cap, cs, by rw [hrh, hph]; exact h1, by rw [hph, h.heap _ hb (hne h3)]; exact h2, by rw [hph, h.ow _ hb (hne h3)]; exact h3, h4, h5, h6, fun i A hi => ?_, y, q1, q2, h.crep q3⟩
    obtain ⟨y, r1, r2, r3⟩ := h7 i A hi
    exact ⟨y, r1, r2, A.mono h.sz h.keepN h.n r3⟩
  | obj A =>
    intro hA
    show A.p (fun b => g'.ow b = some id) (g'.N C) w' (g'.rh id)
    rw [hrh]
    exact A.mono (F := fun b => g.ow b = some id) (fun b e => by rw [h.ow b (hdom b id e) (hne e)]; exact e) (fun b e => hdom b id e) h.sz (fun b hb e => h.heap b hb (hne e)) h.keepN h.n hA
end

def St.put (S : St) (d : Option Nat) (c : Cnt) : St := match d with
  | none => S
  | some d => { S with get := fun t => bif Nat.beq t d then c else S.get t }
abbrev Upd := List (Nat × Nat × Blk)
def St.putB (S : St) : Upd → St
  | [] => S
  | (id, v, B) :: r => { S.putB r with blk := fun i => bif Nat.beq i id then B else (S.putB r).blk i, ver := fun i => bif Nat.beq i id then v else (S.putB r).ver i }
/-- what is said of a block -/
def ub : Upd → Nat → Option (Nat × Blk)
  | [], _ => none
  | (id, v, B) :: r, i => bif Nat.beq i id then some (v, B) else ub r i
abbrev St.app (S : St) (d : Option Nat) (c : Cnt) (b : Upd) : St := (S.put d c).putB b

theorem nbeq_true {a b : Nat} : Nat.beq a b = true ↔ a = b := ⟨Nat.eq_of_beq_eq_true, fun h => by subst h; exact Nat.beq_refl a⟩
theorem nbeq_false {a b : Nat} (h : a ≠ b) : Nat.beq a b = false := by
  cases hb : Nat.beq a b
  · rfl
  · exact absurd (nbeq_true.1 hb) h
theorem St.put_get (S : St) (d : Nat) (c : Cnt) (t : Nat) : (S.put (some d) c).get t = if t = d then c else S.get t := by
  by_cases h : t = d
  · simp [St.put, h]
  · simp [St.put, h, nbeq_false h]
theorem St.putB_get (S : St) (bs : Upd) (t : Nat) : (S.putB bs).get t = S.get t := by
  induction bs with
  | nil => rfl
  | cons x r ih => exact ih
theorem St.putB_bv (S : St) (bs : Upd) (i : Nat) : (S.putB bs).blk i = ((ub bs i).map (·.2)).getD (S.blk i) ∧ (S.putB bs).ver i = ((ub bs i).map (·.1)).getD (S.ver i) := by
  induction bs with
  | nil => exact ⟨rfl, rfl⟩
  | cons x r ih =>
    obtain ⟨id, v, B⟩ := x
    simp only [St.putB, ub]
    cases hb : Nat.beq i id with
    | true => exact ⟨rfl, rfl⟩
    | false => exact ih
theorem St.app_get (S : St) (d : Option Nat) (c : Cnt) (b : Upd) (t : Nat) : (S.app d c b).get t = (S.put d c).get t := St.putB_get _ _ _
theorem St.put_blk (S : St) (d : Option Nat) (c : Cnt) : (S.put d c).blk = S.blk := by cases d <;> rfl
theorem St.put_ver (S : St) (d : Option Nat) (c : Cnt) : (S.put d c).ver = S.ver := by cases d <;> rfl
theorem St.app_blk (S : St) (d : Option Nat) (c : Cnt) (b : Upd) (i : Nat) : (S.app d c b).blk i = ((ub b i).map (·.2)).getD (S.blk i) := by
  unfold St.app; rw [(St.putB_bv _ _ _).1, St.put_blk]
theorem St.app_ver (S : St) (d : Option Nat) (c : Cnt) (b : Upd) (i : Nat) : (S.app d c b).ver i = ((ub b i).map (·.1)).getD (S.ver i) := by
  unfold St.app; rw [(St.putB_bv _ _ _).2, St.put_ver]
theorem ub_one (id v : Nat) (B : Blk) (i : Nat) : ub [(id, v, B)] i = if i = id then some (v, B) else none := by
  by_cases h : i = id
  · simp [ub, h]
  · simp [ub, h, nbeq_false h]
theorem St.putB_blk (S : St) (id v : Nat) (B : Blk) (i : Nat) : (S.putB [(id, v, B)]).blk i = if i = id then B else S.blk i := by
  rw [(St.putB_bv _ _ _).1, ub_one]; split <;> rfl
theorem St.putB_ver (S : St) (id v : Nat) (B : Blk) (i : Nat) : (S.putB [(id, v, B)]).ver i = if i = id then v else S.ver i := by
  rw [(St.putB_bv _ _ _).2, ub_one]; split <;> rfl
theorem St.app_none_blk (S : St) (d : Option Nat) (c : Cnt) : (S.app d c []).blk = S.blk := St.put_blk S d c
theorem St.app_none_ver (S : St) (d : Option Nat) (c : Cnt) : (S.app d c []).ver = S.ver := St.put_ver S d c
theorem St.app_some_blk (S : St) (d : Option Nat) (c : Cnt) (id v : Nat) (B : Blk) (i : Nat) : (S.app d c [(id, v, B)]).blk i = if i = id then B else S.blk i := by
  unfold St.app; rw [St.putB_blk, St.put_blk]
theorem St.app_some_ver (S : St) (d : Option Nat) (c : Cnt) (id v : Nat) (B : Blk) (i : Nat) : (S.app d c [(id, v, B)]).ver i = if i = id then v else S.ver i := by
  unfold St.app; rw [St.putB_ver, St.put_ver]

theorem getD_put (a : Act) (d : Nat) (v : Value) (t : Nat) (hd : d < a.tmps.size) : (a.put (some d) v).tmps.getD t undef = if t = d then v else a.tmps.getD t undef := by
  by_cases h : t = d
  · subst h; simp [Act.put, Array.getD, hd]
  · simp [Act.put, Array.getD_eq_getD_getElem?, Array.getElem?_setIfInBounds_ne (Ne.symm h), h]
def dOk (n : Nat) (d : Option Nat) : Prop := ∀ t, d = some t → t < n

theorem slots_put {C : Ctx} {vr : Nat → Nat} {g : Gh} {w : World} {S : St} {a : Act} {n : Nat} {d : Option Nat} {c : Cnt} {v : Value} (hsz : a.tmps.size = n) (hd : dOk n d)
    (hs : ∀ t, crep C vr g w (a.tmps.getD t undef) (S.get t)) (hc : crep C vr g w v c) : ∀ t, crep C vr g w ((a.put d v).tmps.getD t undef) ((S.put d c).get t) := by
  intro t
  cases d with
  | none => exact hs t
  | some d =>
    rw [getD_put a d v t (by rw [hsz]; exact hd d rfl), St.put_get]
    split
    · exact hc
    · exact hs t
theorem put_size (a : Act) (d : Option Nat) (v : Value) : (a.put d v).tmps.size = a.tmps.size := by cases d <;> simp [Act.put]
theorem put_defers (a : Act) (d : Option Nat) (v : Value) : (a.put d v).defers = a.defers := by cases d <;> rfl

/-- a step that turns no block -/
theorem RG.app0 {C : Ctx} {n : Nat} {S : St} {g : Gh} {a : Act} {w w' : World} (h : RG C n S g a w) (hx : Ext w w') {d : Option Nat} (hd : dOk n d) {c : Cnt} {v : Value}
    (hc : crep C S.ver g w' v c) : RG C n (S.app d c []) g (a.put d v) w' := by
  have hst : Stp C (fun _ => False) S.ver S.ver g g w w' := ⟨hx.size, fun b hb _ => hx.block b hb, fun _ _ _ => rfl, fun _ _ h => h, fun b id e => ⟨Nat.lt_of_lt_of_le (h.dom b id e).1 hx.size, (h.dom b id e).2⟩,
    fun _ => .inl rfl, fun _ _ => ⟨rfl, rfl⟩, fun _ _ => ⟨rfl, rfl⟩, hx.os, hx.tape, hx.output⟩
  refine ⟨by rw [put_defers]; exact h.defers, by rw [put_size]; exact h.tsz, h.nle, h.keep, hx.os.trans h.os, hx.tape.trans h.tape, hx.output.trans h.output, Nat.le_trans h.size hx.size,
    fun b hb hl => (hx.block b (Nat.lt_of_lt_of_le hb h.size)).trans (h.old b hb hl), h.n0, h.n0l, hst.dom, fun t => ?_, fun id => ?_⟩
  · rw [St.app_none_ver, St.app_get]
    exact slots_put h.tsz hd (fun t => hst.crep (h.slots t)) hc t
  · rw [St.app_none_ver, St.app_none_blk]
    exact hst.brep (fun b id e => (h.dom b id e).1) (fun h => h) (h.blks id)
/-- a step that turns some blocks, or makes them -/
theorem RG.appL {C : Ctx} {n : Nat} {S : St} {g g' : Gh} {a : Act} {w w' : World} (h : RG C n S g a w) {bs : Upd} {d : Option Nat} (hd : dOk n d) {c : Cnt} {v : Value}
    (hst : Stp C (fun i => ub bs i ≠ none) S.ver (S.app d c bs).ver g g' w w')
    (hc : crep C (S.app d c bs).ver g' w' v c) (hb : ∀ i v B, ub bs i = some (v, B) → brep C (S.app d c bs).ver g' w' i B) : RG C n (S.app d c bs) g' (a.put d v) w' := by
  refine ⟨by rw [put_defers]; exact h.defers, by rw [put_size]; exact h.tsz, h.nle, fun id hf => ?_, hst.os.trans h.os, hst.tape.trans h.tape, hst.output.trans h.output, Nat.le_trans h.size hst.sz,
    fun b hb' hl => ?_, h.n0, h.n0l, hst.dom, fun t => ?_, fun id => ?_⟩
  · exact ⟨(hst.fix id hf).1.trans (h.keep id hf).1, (hst.fix id hf).2.trans (h.keep id hf).2⟩
  · have hlt := Nat.lt_of_lt_of_le hb' h.size
    rw [hst.heap b hlt (fun i _ e => by
      rcases (h.dom b i e).2 with q | q
      · omega
      · exact hl q)]
    exact h.old b hb' hl
  · rw [St.app_get]
    exact slots_put h.tsz hd (fun t => hst.crep (h.slots t)) hc t
  · rw [St.app_blk]
    cases hu : ub bs id with
    | some x => exact hb id x.1 x.2 hu
    | none => exact hst.brep (fun b id e => (h.dom b id e).1) (fun hn => hn hu) (h.blks id)
/-- a step that turns the block i0, or makes it -/
theorem RG.app1 {C : Ctx} {n : Nat} {S : St} {g g' : Gh} {a : Act} {w w' : World} (h : RG C n S g a w) {i0 vr : Nat} {B : Blk} {d : Option Nat} (hd : dOk n d) {c : Cnt} {v : Value}
    (hst : Stp C (fun i => i = i0) S.ver (S.app d c [(i0, vr, B)]).ver g g' w w')
    (hc : crep C (S.app d c [(i0, vr, B)]).ver g' w' v c) (hb : brep C (S.app d c [(i0, vr, B)]).ver g' w' i0 B) : RG C n (S.app d c [(i0, vr, B)]) g' (a.put d v) w' := by
  refine h.appL hd (hst.cong (fun i hi => by rw [ub_one, if_pos hi]; simp)) hc (fun i v B' hu => ?_)
  rw [ub_one] at hu
  split at hu
  · rename_i e; cases hu; subst e; exact hb
  · cases hu
end Go.Proofs.Ytnpognmpgddncaa
