/- Texts joined: Slice. -/
import Derived.Test.YtoiaegbmbhgdpaaGreatJ01
namespace Go.Proofs.YtoiaegbmbhgdpaaGreat
open Go.RowKit

section
variable {P : Program} {T e k : Nat} {α : Type} {enc : α → List Value} {w : World} {v : Value} {l : List α}

/-- s[lo:hi], by whatever equation its run has -/
theorem Sl.cut0 (h : Sl k enc w v l) (lo hi : Nat) (h1 : lo ≤ hi) (h2 : hi ≤ l.length) :
    ∃ a c, v = .slice a l.length c ∧ hi ≤ c ∧ Sl k enc w (.slice (if c = lo then a else a.map (·.add (lo * k))) (hi - lo) (c - lo)) ((l.drop lo).take (hi - lo)) := by
  obtain ⟨a, c, b, o, rfl, g1, g2, g3, g0, g4⟩ := h
  refine ⟨a, c, rfl, by omega, ?_⟩
  have hlen : ((l.drop lo).take (hi - lo)).length = hi - lo := by simp; omega
  by_cases hz : hi = lo
  · subst hz
    refine ⟨_, c - hi, 0, 0, by rw [hlen], by omega, by omega, by rw [hlen]; omega, ?_, ?_⟩
    · intro hn
      by_cases hc : c = hi
      · omega
      · rw [if_neg hc] at hn
        cases a with
        | none => have := g0 rfl; omega
        | some a => simp at hn
    · intro i x hx
      rw [List.getElem?_eq_none (by rw [hlen]; omega)] at hx; cases hx
  · have ha := g3 (by omega)
    have hc : ¬ c = lo := by omega
    refine ⟨_, c - lo, b, o + lo * k, by rw [hlen], by omega, by omega, fun _ => ?_, ?_, ?_⟩
    · rw [if_neg hc, ha]; simp [Addr.add_lit]
    · intro hn; rw [if_neg hc, ha] at hn; simp at hn
    · intro i x hx j y hy
      rw [List.getElem?_take] at hx
      split at hx
      · rw [List.getElem?_drop] at hx
        have := g4 (lo + i) x hx j y hy
        rw [show o + lo * k + i * k + j = o + (lo + i) * k + j by rw [Nat.add_mul]; omega]
        exact this
      · cases hx
theorem Sl.cut (h : Sl k enc w v l) (lo hi : Nat) (h1 : lo ≤ hi) (h2 : hi ≤ l.length) :
    ∃ a c, v = .slice a l.length c ∧ hi ≤ c ∧ ∃ a', a' = (if c = lo then a else a.map (·.add (lo * k))) ∧ ∀ w0, Sl k enc w0 v l → Sl k enc w0 (.slice a' (hi - lo) (c - lo)) ((l.drop lo).take (hi - lo)) := by
  obtain ⟨a, c, rfl, h3, h4⟩ := h.cut0 lo hi h1 h2
  refine ⟨a, c, rfl, h3, _, rfl, fun w0 h0 => ?_⟩
  obtain ⟨a', c', he, _, h5⟩ := h0.cut0 lo hi h1 h2
  simp only [Value.slice.injEq, true_and] at he
  obtain ⟨rfl, rfl⟩ := he
  exact h5

/-- s[lo:] -/
theorem Sl.from {bytes : Nat} (hT : TI P T e k bytes) (h : Sl k enc w v l) (lo : Nat) (h1 : lo ≤ l.length) (kk : IntKind) :
    ∃ a' c', (∀ w', (Instr.slice T v (some (.int kk (lo : Int))) none none).run P w' = .ok (.slice a' (l.length - lo) c') w') ∧ Sl k enc w (.slice a' (l.length - lo) c') (l.drop lo) ∧ ∀ w0, Sl k enc w0 v l → Sl k enc w0 (.slice a' (l.length - lo) c') (l.drop lo) := by
  have h00 := h
  obtain ⟨a, c, rfl, h3, a', ha', hs⟩ := h.cut lo l.length h1 (Nat.le_refl _)
  rw [List.take_of_length_le (by simp)] at hs
  refine ⟨a', c - lo, fun w' => ?_, hs _ h00, hs⟩
  · obtain ⟨ti, z, hti, hz, hk0, _, _⟩ := hT.info
    have hk : P.cellsOf e = k := by unfold Program.cellsOf; rw [hti]; simpa using hk0
    have ht := hT.und
    have hel : P.elem T = e := by unfold Program.elem; rw [ht]
    rw [run_slice_l (ht := by rw [hel]; exact ht) (h0 := by omega) (h1 := by omega), hel, run_sizeOf _ hti, hk]
    simp [sliced, Result.andThen, ha']
/-- s[:hi] -/
theorem Sl.to {bytes : Nat} (hT : TI P T e k bytes) (h : Sl k enc w v l) (hi : Nat) (h1 : hi ≤ l.length) (kk : IntKind) :
    ∃ a' c', (∀ w', (Instr.slice T v none (some (.int kk (hi : Int))) none).run P w' = .ok (.slice a' hi c') w') ∧ Sl k enc w (.slice a' hi c') (l.take hi) ∧ ∀ w0, Sl k enc w0 v l → Sl k enc w0 (.slice a' hi c') (l.take hi) := by
  have h00 := h
  obtain ⟨a, c, rfl, h3, a', ha', hs⟩ := h.cut 0 hi (Nat.zero_le _) h1
  simp only [List.drop_zero, Nat.sub_zero] at hs
  refine ⟨a', c, fun w' => ?_, hs _ h00, hs⟩
  · obtain ⟨ti, z, hti, hz, hk0, _, _⟩ := hT.info
    have hk : P.cellsOf e = k := by unfold Program.cellsOf; rw [hti]; simpa using hk0
    have ht := hT.und
    have hel : P.elem T = e := by unfold Program.elem; rw [ht]
    rw [run_slice_h (ht := by rw [hel]; exact ht) (h0 := by omega) (h2 := by omega), hel, run_sizeOf _ hti, hk]
    simp [sliced, Result.andThen, ha']
/-! ### objects: a block that is known whole -/
def ObjAt (w : World) (B : Nat) (T : TypeId) (vs : Array Value) : Prop := w.heap[B]? = some (.cells vs T (0, 0))
theorem ObjAt.cell {B : Nat} {vs : Array Value} (h : ObjAt w B T vs) (j : Nat) : w.cell? ⟨B, j, none⟩ = vs[j]? := cell_of_row w B j _ _ _ h
theorem ObjAt.lt {B : Nat} {vs : Array Value} (h : ObjAt w B T vs) : B < w.heap.size := (Array.getElem?_eq_some_iff.1 h).1
theorem ObjAt.ext {w' : World} {B : Nat} {vs : Array Value} (h : ObjAt w B T vs) (he : Ext w w') : ObjAt w' B T vs := by
  unfold ObjAt; rw [Below.block he B h.lt]; exact h
theorem ObjAt.grown {w' : World} {B : Nat} {vs : Array Value} {row : Option Nat} (h : ObjAt w B T vs) (hg : w.grownBy w' row) (hr : some B ≠ row) : ObjAt w' B T vs := by
  unfold ObjAt; rw [hg.block B h.lt hr]; exact h
theorem ObjAt.set {B : Nat} {vs : Array Value} (h : ObjAt w B T vs) (j : Nat) (x : Value) : ObjAt (w.setCell ⟨B, j, none⟩ x) B T (vs.setIfInBounds j x) := by
  unfold ObjAt World.setCell
  simp only [Array.getElem?_modify, if_true]
  rw [h]; simp
theorem grownBy_ext {a b : World} {row : Option Nat} (h : Ext a b) : a.grownBy b row := ⟨h.os, h.tape, h.output, h.size, fun k hk _ => h.block k hk⟩
/-- bytes are not the cells of an object without bytes -/
theorem Sl.grown {w' : World} {B : Nat} (h : Sl k enc w v l) (hg : w.grownBy w' (some B)) (hB : ∀ b o y, w.cell? ⟨b, o, none⟩ = some y → (∃ x, y ∈ enc x) → b ≠ B) : Sl k enc w' v l := by
  obtain ⟨a, c, b, o, hv, g1, g2, g3, g0, g4⟩ := h
  refine ⟨a, c, b, o, hv, g1, g2, g3, g0, fun i x hx j y hy => ?_⟩
  have hc := g4 i x hx j y hy
  exact hg.cell hc (by simp; exact hB _ _ _ hc ⟨x, List.mem_of_getElem? hy⟩)
theorem ObjAt.noB {B : Nat} {vs : Array Value} (h : ObjAt w B T vs) (hv : ∀ y ∈ vs, ∀ n, y ≠ .int .u8 n) : ∀ b o y, w.cell? ⟨b, o, none⟩ = some y → (∃ x, y ∈ encB x) → b ≠ B := by
  rintro b o y hc ⟨x, hx⟩ rfl
  rw [h.cell] at hc
  simp [encB] at hx
  exact hv y (Array.mem_of_getElem? hc) _ hx
end

theorem foldl_push (l : List UInt8) : ∀ s : ByteArray, (l.map (fun c => (c.toNat : Int))).foldl (fun r n => r.push (UInt8.ofNat n.toNat)) s = ⟨s.data ++ l.toArray⟩ := by
  induction l with
  | nil => intro s; simp
  | cons c l ih =>
    intro s
    simp only [List.map_cons, List.foldl_cons]
    rw [ih]
    have : UInt8.ofNat ((c.toNat : Int)).toNat = c := by simp
    rw [this]
    show (⟨(s.push c).data ++ l.toArray⟩ : ByteArray) = _
    have : (s.push c).data = s.data.push c := rfl
    rw [this]
    congr 1
    apply Array.ext'
    simp
/-- string(b) -/
theorem Bs.toStr {P : Program} {src dst e : TypeId} (hs : P.underlying src = some (.slice e)) (he : P.underlying e = some (.int .u8)) (hd : P.underlying dst = some .string)
    {w : World} {v : Value} {l : List UInt8} (h : Bs w v l) : (convert src dst v).run P w = .ok (.string ⟨l.toArray⟩) w := by
  obtain ⟨a, c, b, o, rfl, h1, h2, h3, h0, h4⟩ := h
  rw [run_convert_bytes_string w src dst e a l.length c hs he hd]
  cases a with
  | none =>
    have : l = [] := by
      cases l with
      | nil => rfl
      | cons x l => have := h3 (by simp); cases this
    subst this
    simp [Conv.bytesToString, Sem.run_pure]; rfl
  | some ad =>
    have hf := run_firstCells_some (P := P) w 1 l.length ad l.length c (l.flatMap encB) (by rw [flatMap_len 1 encB encB_ok.len]) (by
      intro j u hu
      obtain ⟨x, hx, hy⟩ := flatMap_split 1 encB encB_ok.len (by decide) l j u hu
      rw [Nat.div_one] at hx
      rw [Nat.mod_one] at hy
      have hj : j < l.length := by
        rcases Nat.lt_or_ge j l.length with h | h
        · exact h
        · rw [List.getElem?_eq_none h] at hx; cases hx
      have hsp := h3 (by omega)
      simp at hsp; subst hsp
      rw [Addr.add_lit]
      have := h4 j x hx 0 u hy
      simpa using this)
    have hl : l.flatMap encB = (l.map (fun c => (c.toNat : Int))).map (Value.int .u8) := by
      clear hf h4 h3 h2 h1
      induction l with
      | nil => rfl
      | cons x l ih => simp [encB] at ih ⊢; exact ih
    rw [hl] at hf
    simp only [Builtin.firstCells, Nat.mul_one] at hf
    rw [run_bytesToString w ad l.length c _ hf, foldl_push]
    congr 2
    simp

/-- all but two blocks is as it was -/
structure Ch2 (B C : Nat) (w w' : World) : Prop where
  os : w'.os = w.os
  tape : w'.tape = w.tape
  output : w'.output = w.output
  size : w.heap.size ≤ w'.heap.size
  block : ∀ k, k < w.heap.size → k ≠ B → k ≠ C → w'.heap[k]? = w.heap[k]?
theorem Ch2.refl (B C : Nat) (w : World) : Ch2 B C w w := ⟨rfl, rfl, rfl, Nat.le_refl _, fun _ _ _ _ => rfl⟩
theorem Ch2.grown {B C : Nat} {a b c : World} {row : Option Nat} (h : Ch2 B C a b) (h' : b.grownBy c row) (hr : ∀ k, row = some k → k = B ∨ k = C ∨ a.heap.size ≤ k) : Ch2 B C a c :=
  ⟨h'.os.trans h.os, h'.tape.trans h.tape, h'.output.trans h.output, Nat.le_trans h.size h'.size, fun k hk h1 h2 =>
    (h'.block k (Nat.lt_of_lt_of_le hk h.size) (fun e => by rcases hr k e.symm with h | h | h; exact h1 h; exact h2 h; omega)).trans (h.block k hk h1 h2)⟩
theorem Ch2.ext {B C : Nat} {a b c : World} (h : Ch2 B C a b) (h' : Ext b c) : Ch2 B C a c := h.grown (row := none) (grownBy_ext h') (by simp)
theorem Ch2.bs {B C : Nat} {a b : World} {v : Value} {l : List UInt8} {TB TC : TypeId} {xs ys : Array Value} (h : Ch2 B C a b) (hs : Bs a v l) (hB : ObjAt a B TB xs) (hC : ObjAt a C TC ys)
    (nB : ∀ y ∈ xs, ∀ n, y ≠ .int .u8 n) (nC : ∀ y ∈ ys, ∀ n, y ≠ .int .u8 n) : Bs b v l := by
  obtain ⟨aa, c, bb, o, hv, g1, g2, g3, g0, g4⟩ := hs
  refine ⟨aa, c, bb, o, hv, g1, g2, g3, g0, fun i x hx j y hy => ?_⟩
  have hc := g4 i x hx j y hy
  have hlt := World.block_lt_of_cell? a _ hc
  rw [World.cell?_of_block (w := a) (h.block bb hlt (hB.noB nB _ _ _ hc ⟨x, List.mem_of_getElem? hy⟩) (hC.noB nC _ _ _ hc ⟨x, List.mem_of_getElem? hy⟩))]
  exact hc
end Go.Proofs.YtoiaegbmbhgdpaaGreat
