/- Texts joined: OpenIt. -/
import Derived.Test.YtoiaegbmbhgdpaaGreatJ01
import Derived.ProofKit
import Derived.OpenShut
import Derived.ShutString
import Derived.ChangeOld
import Derived.Deep.Slices
import Derived.Test.YtoiaegbmbhgdpaaGreatJ11
import Derived.Test.YtoiaegbmbhgdpaaGreatRows
namespace Go.Proofs.YtoiaegbmbhgdpaaGreat
open Go.RowKit Go.Deep Go.ChangeShapes Go.WideShapes

/-- whatever reads at type t has cells of the form Q -/
def Rd (P : Program) (w : World) (t : TypeId) (Q : List Value → Prop) : Prop :=
  ∀ (H : Type) (enc : TypeId × Value → H) (spare : Nat → Bool) (held : Bool) (fuel : Nat) (cs : List Value) (x : DataW H × List MemPlace), DataW.trod enc P w 0 spare held fuel t cs = some x → Q cs

section
variable {P : Program} {w : World} {t : TypeId}
theorem Rd.mono {Q Q' : List Value → Prop} (h : Rd P w t Q) (hq : ∀ cs, Q cs → Q' cs) : Rd P w t Q' := fun H enc sp hd f cs x hx => hq _ (h H enc sp hd f cs x hx)
theorem Rd.int {k : IntKind} (ht : P.underlying t = some (.int k)) : Rd P w t (fun cs => ∃ n, cs = [.int k n] ∧ (Lit.int k n).wf = true) := by
  intro H enc sp hd f cs x hx
  obtain ⟨n, h1, _, h2⟩ := DataW.trod_int ht hx
  exact ⟨n, h1, h2⟩
theorem Rd.bool (ht : P.underlying t = some .bool) : Rd P w t (fun cs => ∃ b, cs = [.bool b]) := by
  intro H enc sp hd f cs x hx
  obtain ⟨n, h1, _⟩ := DataW.trod_bool ht hx
  exact ⟨n, h1⟩
theorem Rd.string (ht : P.underlying t = some .string) : Rd P w t (fun cs => ∃ s, cs = [.string s] ∧ s.size ≤ maxLen) := by
  intro H enc sp hd f cs x hx
  obtain ⟨n, h1, _, h2⟩ := DataW.trod_string ht hx
  exact ⟨n, h1, h2⟩
theorem Rd.struct {fs : Array Field} (ht : P.underlying t = some (.struct fs)) :
    Rd P w t (fun cs => cs.length = P.cellsOf t ∧ ∀ (i : Nat) (f : Field), fs[i]? = some f → ∀ Q, Rd P w f.type Q → Q ((cs.drop f.offset).take (P.cellsOf f.type))) := by
  intro H enc sp hd f cs x hx
  obtain ⟨xs, n, _, _, hl, hs, hall⟩ := DataW.trod_struct ht hx
  refine ⟨hl, fun i f hf Q hQ => ?_⟩
  have hi : i < fs.size := by
    rcases Nat.lt_or_ge i fs.size with h | h
    · exact h
    · rw [Array.getElem?_eq_none h] at hf; cases hf
  have := hall i f hf
  rw [List.getElem?_eq_getElem (by omega)] at this
  exact hQ _ _ _ _ _ _ _ this
theorem Rd.struct' {fs : Array Field} (ht : P.underlying t = some (.struct fs)) :
    Rd P w t (fun cs => cs.length = P.cellsOf t ∧ ∀ (i off : Nat) (ty : TypeId) (sz : Nat) (Q : List Value → Prop), (fs[i]?).map (fun f => (f.offset, f.type)) = some (off, ty) → P.cellsOf ty = sz → Rd P w ty Q → Q ((cs.drop off).take sz)) := by
  refine (Rd.struct ht).mono ?_
  rintro cs ⟨h1, h2⟩
  refine ⟨h1, fun i off ty sz Q hi hsz hQ => ?_⟩
  cases hf : fs[i]? with
  | none => rw [hf] at hi; cases hi
  | some f =>
    rw [hf] at hi
    simp at hi
    obtain ⟨rfl, rfl⟩ := hi
    subst hsz
    exact h2 i f hf Q hQ
theorem Rd.array {n : Nat} {e : TypeId} (ht : P.underlying t = some (.array n e)) {Q : List Value → Prop} (hQ : Rd P w e Q) :
    Rd P w t (fun cs => cs.length = P.cellsOf t ∧ ∀ i, i < n → Q ((cs.drop (i * P.cellsOf e)).take (P.cellsOf e))) := by
  intro H enc sp hd f cs x hx
  obtain ⟨xs, m, _, _, hl, hs, hall⟩ := DataW.trod_array ht hx
  refine ⟨hl, fun i hi => ?_⟩
  have := hall i hi
  rw [List.getElem?_eq_getElem (by omega)] at this
  exact hQ _ _ _ _ _ _ _ this

theorem list_of_each {α : Type} {G : Nat → α → Prop} : ∀ (n : Nat), (∀ i, i < n → ∃ x, G i x) → ∃ l : List α, l.length = n ∧ ∀ (i : Nat) (x : α), l[i]? = some x → G i x := by
  intro n
  induction n with
  | zero => intro _; exact ⟨[], rfl, fun i x h => by simp at h⟩
  | succ n ih =>
    intro h
    obtain ⟨l, hl, hg⟩ := ih (fun i hi => h i (by omega))
    obtain ⟨x, hx⟩ := h n (by omega)
    refine ⟨l ++ [x], by simp [hl], fun i y hy => ?_⟩
    rcases Nat.lt_or_ge i n with hi | hi
    · rw [List.getElem?_append_left (by omega)] at hy; exact hg i y hy
    · rw [List.getElem?_append_right (by omega)] at hy
      have : i = n := by
        by_cases h0 : i = n
        · exact h0
        · rw [List.getElem?_eq_none (by simp; omega)] at hy; cases hy
      subst this
      rw [hl] at hy; simp at hy; subst hy; exact hx

/-- a slice whose elements have the form Qe, each of which is written by enc -/
theorem Rd.slice {α : Type} {e : TypeId} {k : Nat} {enc : α → List Value} {Qe : List Value → Prop} {G : α → Prop} (ht : P.underlying t = some (.slice e)) (hk : P.cellsOf e = k) (hk0 : 0 < k)
    (hQ : Rd P w e Qe) (hdec : ∀ cs, Qe cs → ∃ x : α, cs = enc x ∧ G x) :
    Rd P w t (fun cs => ∃ v l, cs = [v] ∧ Sl k enc w v l ∧ ∀ x ∈ l, G x) := by
  intro H en sp hd f cs x hx
  subst hk
  rcases DataW.trod_slice ht hx with ⟨rfl, _⟩ | ⟨a, len, cap, elems, rest, n, _, rfl, _, hb, hl, hm, hlen, hel, _, _⟩
  · exact ⟨_, [], rfl, ⟨none, 0, 0, 0, rfl, by simp, by unfold maxLen; omega, by simp, fun _ => rfl, fun i x hx => by simp at hx⟩, by simp⟩
  · have key : ∀ i, i < len → ∃ x : α, w.cells? 0 (a.add (i * P.cellsOf e)) (P.cellsOf e) = some (enc x) ∧ G x := by
      intro i hi
      have := hel i hi
      rw [List.getElem?_eq_getElem (by omega)] at this
      cases hc : w.cells? 0 (a.add (i * P.cellsOf e)) (P.cellsOf e) with
      | none => rw [hc] at this; simp at this
      | some cs' =>
        rw [hc] at this
        obtain ⟨x, rfl, hg⟩ := hdec cs' (hQ _ _ _ _ _ _ _ this)
        exact ⟨x, rfl, hg⟩
    obtain ⟨l, hll, hcells⟩ := list_of_each len key
    subst hll
    refine ⟨_, l, rfl, ?_, fun x hx => ?_⟩
    · have hsp : 0 < l.length → a = ⟨a.block, a.off, none⟩ := by
        intro h0
        obtain ⟨c0, hc0⟩ := World.cells?_some (hcells 0 l[0] (by simp [h0])).1
        have h00 := hc0.2 0 (by omega)
        rw [Nat.zero_mul] at h00
        have hz : a.add 0 = a := by simp [Addr.add]
        rw [hz, hz] at h00
        have : 0 < (enc l[0]).length := by omega
        rw [List.getElem?_eq_getElem this] at h00
        have := World.cell?_spot h00
        cases a; simp_all
      refine ⟨some a, cap, a.block, a.off, rfl, hl, hm, fun h0 => by rw [← hsp h0], (fun h => by cases h), ?_⟩
      intro i x hx j y hy
      have hi : i < l.length := by
        rcases Nat.lt_or_ge i l.length with h | h
        · exact h
        · rw [List.getElem?_eq_none h] at hx; cases hx
      obtain ⟨c0, hc0⟩ := World.cells?_some (hcells i x hx).1
      have hj : j < P.cellsOf e := by
        rcases Nat.lt_or_ge j (enc x).length with h | h
        · omega
        · rw [List.getElem?_eq_none h] at hy; cases hy
      have := hc0.2 j hj
      rw [add_add, hy] at this
      rw [hsp (by omega), Addr.add_lit] at this
      rw [show a.off + i * P.cellsOf e + j = a.off + (i * P.cellsOf e + j) by omega]; exact this
    · obtain ⟨i, hi, rfl⟩ := List.getElem_of_mem hx
      exact (hcells i _ (by simp [hi])).2
end

section
variable {P : Program} {w : World} {t e s : TypeId}
theorem Rd.u8dec : ∀ cs, (∃ n, cs = [Value.int .u8 n] ∧ (Lit.int .u8 n).wf = true) → ∃ x : UInt8, cs = encB x ∧ True := by
  rintro cs ⟨n, rfl, h⟩
  have := bounds_u8 h
  refine ⟨UInt8.ofNat n.toNat, ?_, trivial⟩
  unfold encB
  congr 2
  rw [UInt8.toNat_ofNat']
  omega
/-- bytes that came in -/
theorem Rd.bytes (ht : P.underlying t = some (.slice e)) (he : P.underlying e = some (.int .u8)) (hc : P.cellsOf e = 1) :
    Rd P w t (fun cs => ∃ v l, cs = [v] ∧ Bs w v l) :=
  (Rd.slice ht hc (by decide) (Rd.int he) Rd.u8dec).mono fun cs ⟨v, l, h1, h2, _⟩ => ⟨v, l, h1, h2⟩
end

/-! ### a law's row out of its walk -/
section
variable {P : Program}

/-- an argument that came in -/
structure Arg (P : Program) (w : World) (t : TypeId) (v : Value) : Prop where
  ok : ∃ b, Value.okWide P w .any b t v
  rd : ∀ Q, Rd P w t Q → Q v.cells.toList

def Args (P : Program) (w : World) : List TypeId → List Value → Prop
  | [], [] => True
  | t :: ts, v :: vs => Arg P w t v ∧ Args P w ts vs
  | _, _ => False

section
variable {w : World} {t e s : TypeId} {v : Value}
theorem Arg.cells (h : Arg P w t v) (ht : (match P.underlying t with | some (.struct _) => true | some (.array _ _) => true | _ => false) = true) : ∃ cs : Array Value, v = .agg cs := by
  obtain ⟨b, hb⟩ := h.ok
  unfold Value.okWide at hb
  split at hb
  · obtain ⟨cs, h1, _⟩ := hb; exact ⟨cs, h1⟩
  · obtain ⟨cs, h1, _⟩ := hb; exact ⟨cs, h1⟩
  · rename_i h1 h2
    split at ht
    · rename_i hu; exact absurd hu (h1 _)
    · rename_i hu; exact absurd hu (h2 _ _)
    · cases ht
theorem Arg.int (h : Arg P w t v) {k : IntKind} (ht : P.underlying t = some (.int k)) : ∃ n, v = .int k n ∧ (Lit.int k n).wf = true := by
  obtain ⟨b, hb⟩ := h.ok
  obtain ⟨n, rfl⟩ := okWide_int ht hb
  obtain ⟨m, h1, h2⟩ := h.rd _ (Rd.int ht)
  simp [Value.cells] at h1; subst h1
  exact ⟨n, rfl, h2⟩
theorem Arg.bool (h : Arg P w t v) (ht : P.underlying t = some .bool) : ∃ n, v = .bool n := by
  obtain ⟨b, hb⟩ := h.ok
  exact okWide_bool ht hb
theorem Arg.string (h : Arg P w t v) (ht : P.underlying t = some .string) : ∃ n, v = .string n ∧ n.size ≤ maxLen := by
  obtain ⟨b, hb⟩ := h.ok
  obtain ⟨n, rfl⟩ := okWide_string ht hb
  obtain ⟨m, h1, h2⟩ := h.rd _ (Rd.string ht)
  simp [Value.cells] at h1; subst h1
  exact ⟨n, rfl, h2⟩
/-- a slice that came in, by what its cells are read as -/
theorem Arg.slice (h : Arg P w t v) (ht : P.underlying t = some (.slice e)) {Q : Value → Prop} (hq : Rd P w t (fun cs => ∃ v, cs = [v] ∧ Q v)) : Q v := by
  obtain ⟨b, hb⟩ := h.ok
  obtain ⟨a, l, c, rfl⟩ := okWide_slice ht hb
  obtain ⟨x, h1, h2⟩ := h.rd _ hq
  simp [Value.cells] at h1; subst h1
  exact h2
theorem Arg.bytes (h : Arg P w t v) (ht : P.underlying t = some (.slice e)) (he : P.underlying e = some (.int .u8)) (hc : P.cellsOf e = 1) : ∃ l, Bs w v l :=
  h.slice (Q := fun v => ∃ l, Bs w v l) ht ((Rd.bytes ht he hc).mono fun _ ⟨v, l, h1, h2⟩ => ⟨v, h1, l, h2⟩)
end

theorem Args.cons {w : World} {t : TypeId} {ts : List TypeId} {vs : List Value} (h : Args P w (t :: ts) vs) : ∃ v vs', vs = v :: vs' ∧ Arg P w t v ∧ Args P w ts vs' := by
  cases vs with
  | nil => exact h.elim
  | cons v vs => exact ⟨v, vs, rfl, h.1, h.2⟩
theorem Args.nil {w : World} {vs : List Value} (h : Args P w [] vs) : vs = [] := by
  cases vs with
  | nil => rfl
  | cons v vs => exact h.elim
theorem Args.one {w : World} {t0 : TypeId} {args : Array Value} (h : Args P w [t0] args.toList) : ∃ v0, args = #[v0] ∧ Arg P w t0 v0 := by
  obtain ⟨v0, _, e, h0, h⟩ := h.cons
  obtain rfl := h.nil
  exact ⟨v0, by cases args; simp_all, h0⟩
theorem Args.two {w : World} {t0 t1 : TypeId} {args : Array Value} (h : Args P w [t0, t1] args.toList) : ∃ v0 v1, args = #[v0, v1] ∧ Arg P w t0 v0 ∧ Arg P w t1 v1 := by
  obtain ⟨v0, _, e, h0, h⟩ := h.cons
  obtain ⟨v1, _, rfl, h1, h⟩ := h.cons
  obtain rfl := h.nil
  exact ⟨v0, v1, by cases args; simp_all, h0, h1⟩
theorem Args.three {w : World} {t0 t1 t2 : TypeId} {args : Array Value} (h : Args P w [t0, t1, t2] args.toList) : ∃ v0 v1 v2, args = #[v0, v1, v2] ∧ Arg P w t0 v0 ∧ Arg P w t1 v1 ∧ Arg P w t2 v2 := by
  obtain ⟨v0, _, e, h0, h⟩ := h.cons
  obtain ⟨v1, _, rfl, h1, h⟩ := h.cons
  obtain ⟨v2, _, rfl, h2, h⟩ := h.cons
  obtain rfl := h.nil
  exact ⟨v0, v1, v2, by cases args; simp_all, h0, h1, h2⟩
theorem args_of {H : Type} {enc : TypeId × Value → H} {w : World} : ∀ (ts : List TypeId) (vs : List Value) (ds : List (DataW H)) (p : List MemPlace),
    DataW.TrodAll enc P w 0 (fun _ => true) true ts vs ds p → (∀ (j : Nat) t v, ts[j]? = some t → vs[j]? = some v → ∃ b, Value.okWide P w .any b t v) → Args P w ts vs := by
  intro ts
  induction ts with
  | nil => intro vs ds p h _; obtain ⟨rfl, _, _⟩ := trodAll_nil h; trivial
  | cons t ts ih =>
    intro vs ds p h hok
    obtain ⟨v, vs', d, ds', p', q, rfl, rfl, rfl, h1, h2⟩ := trodAll_cons h
    refine ⟨⟨hok 0 t v rfl rfl, fun Q hQ => ?_⟩, ih _ _ _ h2 fun j t v h h' => hok (j + 1) t v (by simpa using h) (by simpa using h')⟩
    obtain ⟨fuel, hf⟩ := h1
    exact hQ _ _ _ _ _ _ _ hf

theorem trodAll_ext {H : Type} {enc : TypeId × Value → H} {w w' : World} (hl : laidOutB P = true) (he : Ext w w') : ∀ (ts : List TypeId) (vs : List Value) (ds : List (DataW H)) (p : List MemPlace),
    (∀ t ∈ ts, P.readableRec t = true ∧ t < P.types.size) →
    DataW.TrodAll enc P w 0 (fun _ => true) true ts vs ds p → DataW.TrodAll enc P w' 0 (fun b => decide (b < w.heap.size)) true ts vs ds p := by
  intro ts
  induction ts with
  | nil => intro vs ds p _ h; obtain ⟨rfl, rfl, rfl⟩ := trodAll_nil h; exact trodAll_mk0
  | cons t ts ih =>
    intro vs ds p hr h
    obtain ⟨v, vs', d, ds', p', q, rfl, rfl, rfl, h1, h2⟩ := trodAll_cons h
    have hlt : ∀ x ∈ p', x.block < w.heap.size := by obtain ⟨m, hm⟩ := h1; exact DataW.trod_lt m _ _ _ hm
    exact trodAll_cons_mk (Below.trod hl (hr t (by simp)).1 (hr t (by simp)).2 h1 he hlt) (ih _ _ _ (fun t ht => hr t (by simp [ht])) h2)

theorem law_lifted {C : Checked} {f : FuncId} {fn : Func} {s : ChangeSpec} {T : TypeId} (own : ownKnob C.prog.godebug = none) (laidOut : laidOutB C.prog = true)
    (noInit : C.prog.inits.idxOf? f = none) (hfn : C.prog.funcs[f]? = some fn) (hres : fn.resultTypes = #[T]) (hT : C.prog.underlying T = some .bool)
    (hread : fn.params.toList.all (fun t => C.prog.readableRec t && decide (t < C.prog.types.size)) = true)
    (hvars : s.vars = []) (hspec : ∀ (H : Type) (ds : List (DataW H)), ds.length = fn.params.size → (s.fn H (ds ++ [])).results = [.lit (.bool true)] ∧ (s.fn H (ds ++ [])).args = ds ∧ (s.fn H (ds ++ [])).vars = [])
    (walk : ∀ (w : World) (args : Array Value), Args C.prog w fn.params.toList args.toList → Calls C.prog f args w fun e w' => e = .returned (.bool true) ∧ Ext w w')
    {conds : List PathCond} (os : Os) (started : os.Started) (H : Type) (enc : TypeId × Value → H)
    (witness : ∃ (w : World) (tape : Tape) (i : Input), w.os = os ∧ (w.forCall tape i).Shaped C.prog ∧ i.vars = [] ∧ Input.okWide C.prog (w.forCall tape i) .any w.heap.size f i ∧
      s.pre6 enc C.prog fn conds false (w.forCall tape i).memory i.args ∧ ({} : Assume).holds C.prog (lone (Frame.enter C.prog f i.args .normal) [] (w.forCall tape i))) :
    ReturnsInHanded {} C os f .any (s.pre6 enc C.prog fn conds false) (s.post enc C.prog fn false true false false) := by
  refine returnsInHanded_of_change (C := C) own started noInit hfn witness ?_
  intro W base args ds gs before hval hW hcnd _
  have hW' := hW
  obtain ⟨p, q, hA, hV, rfl, hfz, hnd⟩ := hW
  rw [hvars] at hV
  obtain ⟨rfl, rfl⟩ := trodVars_none hV
  have hargs : Args C.prog W fn.params.toList args.toList := args_of _ _ _ _ hA fun j t v h h' => ⟨base, hval j t v (by simpa using h) (by simpa using h')⟩
  have hlen : ds.length = fn.params.size := by
    have : ∀ (ts : List TypeId) (vs : List Value) (ds : List (DataW H)) (p : List MemPlace), DataW.TrodAll enc C.prog W 0 (fun _ => true) true ts vs ds p → ds.length = ts.length := by
      intro ts
      induction ts with
      | nil => intro vs ds p h; obtain ⟨_, rfl, _⟩ := trodAll_nil h; rfl
      | cons t ts ih => intro vs ds p h; obtain ⟨_, _, _, _, _, _, rfl, rfl, rfl, _, h2⟩ := trodAll_cons h; simp [ih _ _ _ h2]
    rw [this _ _ _ _ hA]; simp
  obtain ⟨e1, e2, e3⟩ := hspec H ds hlen
  refine (walk W args hargs).mono fun e W' ⟨he, bel⟩ => ?_
  subst he
  refine ⟨_, rfl, ds, [], _, [], p, [], hW', ?_, ?_, ?_, bel.below.frame _, fun h => by cases h⟩
  · rw [e1, hres]; exact trodAll_mk1 (shut_bool hT true)
  · rw [e2]
    refine trodAll_ext laidOut bel _ _ _ _ (fun t ht => ?_) hA
    have := List.all_eq_true.1 hread t ht
    simpa using this
  · rw [e3, hvars]; rfl
end
end Go.Proofs.YtoiaegbmbhgdpaaGreat
namespace Go.Proofs.YtoiaegbmbhgdpaaGreat
open Go.RowKit

theorem list7 {α : Type} (l : List α) (h : l.length = 7) : ∃ a b c d e f g, l = [a, b, c, d, e, f, g] := by
  match l, h with | [a, b, c, d, e, f, g], _ => exact ⟨a, b, c, d, e, f, g, rfl⟩
theorem list2 {α : Type} (l : List α) (h : l.length = 2) : ∃ a b, l = [a, b] := by
  match l, h with | [a, b], _ => exact ⟨a, b, rfl⟩

theorem rdVer (w : World) : Rd Tryz.prog w 134 (fun cs => ∃ r c, cs = [Value.int .i64 r, .int .i64 c] ∧ (Lit.int .i64 r).wf = true ∧ (Lit.int .i64 c).wf = true) := by
  refine (Rd.struct' Tryz.underlying134).mono ?_
  rintro cs ⟨hl, hf⟩
  obtain ⟨c0, c1, rfl⟩ := list2 cs (hl.trans (by kernel_rfl))
  obtain ⟨r, h1, w1⟩ := hf 0 0 3 1 _ rfl (by kernel_rfl) (Rd.int Tryz.underlying3)
  obtain ⟨c, h2, w2⟩ := hf 1 1 3 1 _ rfl (by kernel_rfl) (Rd.int Tryz.underlying3)
  simp at h1 h2
  subst h1 h2
  exact ⟨r, c, rfl, w1, w2⟩

/-- the numbers and texts of an item that came in -/
def ItWf (x : It) : Prop := x.key.size ≤ maxLen ∧ x.body.size ≤ maxLen ∧ (Lit.int .i64 x.rep).wf = true ∧ (Lit.int .i64 x.cnt).wf = true ∧ (Lit.int .i64 x.rank).wf = true ∧ (Lit.int .i64 x.prio).wf = true

theorem rdIt (w : World) : Rd Tryz.prog w 136 (fun cs => ∃ x, cs = encIt x ∧ ItWf x) := by
  refine (Rd.struct' Tryz.underlying136).mono ?_
  rintro cs ⟨hl, hf⟩
  obtain ⟨c0, c1, c2, c3, c4, c5, c6, rfl⟩ := list7 cs (hl.trans (by kernel_rfl))
  obtain ⟨s0, h0, w0⟩ := hf 0 0 9 1 _ rfl (by kernel_rfl) (Rd.string Tryz.underlying9)
  obtain ⟨r, c, h1, w1, w1'⟩ := hf 1 1 134 2 _ rfl (by kernel_rfl) (rdVer w)
  obtain ⟨n2, h2, w2⟩ := hf 2 3 3 1 _ rfl (by kernel_rfl) (Rd.int Tryz.underlying3)
  obtain ⟨n3, h3, w3⟩ := hf 3 4 3 1 _ rfl (by kernel_rfl) (Rd.int Tryz.underlying3)
  obtain ⟨b4, h4⟩ := hf 4 5 4 1 _ rfl (by kernel_rfl) (Rd.bool Tryz.underlying4)
  obtain ⟨s5, h5, w5⟩ := hf 5 6 9 1 _ rfl (by kernel_rfl) (Rd.string Tryz.underlying9)
  simp at h0 h1 h2 h3 h4 h5
  obtain ⟨rfl, rfl⟩ := h1
  subst h0 h2 h3 h4 h5
  exact ⟨⟨s0, r, c, n2, n3, b4, s5⟩, rfl, w0, w5, w1, w1', w2, w3⟩

end Go.Proofs.YtoiaegbmbhgdpaaGreat
