/- Single operations over abstract states: values, boxes, addresses, loads and stores. No program in sight. -/
import Derived.Test.YtnpognmpgddncaaAbsCode
import Derived.IntWalk
namespace Go.Proofs.Ytnpognmpgddncaa
open Go.RowKit

def St.opd (S : St) : Operand → Cnt
  | .tmp t => S.get t
  | .const v => .per (rawP v)
  | .func f => .per (rawP (.func (.func f) #[] #[]))
  | .global g => .per (rawP (.pointer (some ⟨g, 0, none⟩)))
def opdN : Operand → List Nat
  | .tmp t => [2 * t]
  | _ => []
def opdsN (l : List Operand) : List Nat := l.flatMap opdN

section
variable {P : Program} {n : Nat} {ops : Array Oper} {o : Oper} {F : List Nat} {S T : St} {C : Ctx} {g : Gh} {a : Act} {w : World} {t : Nat}

theorem opd_rep {x : Operand} (hA : Agree F T S) (hF : ∀ k ∈ opdN x, k ∈ F) (hR : RG C n T g a w) : crep C T.ver g w (a.eval x) (S.opd x) := by
  cases x with
  | tmp t =>
    have h := hR.slots t
    rw [hA.1 t (hF _ (by simp [opdN]))] at h
    exact h
  | const v => exact rfl
  | func f => exact rfl
  | global q => exact rfl

/-- where an operation's result goes -/
def Pl (n : Nat) (o : Oper) (t : Nat) : Prop := o.guard = none ∧ o.dst = some t ∧ Nat.blt t n = true
theorem Pl.dOk (h : Pl n o t) : dOk n o.dst := fun t' e => by
  rw [h.2.1] at e; cases e; exact Nat.le_of_ble_eq_true h.2.2
theorem Pl.wanted (h : Pl n o t) (a : Act) : Region.wanted o (yielded ops a.tmps) = true := by simp [Region.wanted, h.1]

/-- an operation that only gives a value -/
theorem op_val (hp : Pl n o t) {c : Cnt} (h : ∀ C T g a w, Agree F T S → RG C n T g a w → ∃ v, (execOp a.eval o).run P w = .ok (.value v) w ∧ crep C T.ver g w v c) :
    OpOk n P ops o F c [] S := by
  refine ⟨?_⟩
  intro C T hA a w ⟨g, hR⟩
  obtain ⟨v, h1, h2⟩ := h C T g a w hA hR
  unfold Exec
  rw [if_pos (hp.wanted a)]
  unfold Oper.wp
  rw [h1, Oper.upon_value]
  exact ⟨g, hR.app0 (Ext.refl w) hp.dOk h2⟩

theorem op_move {x : Operand} {c : Cnt} (hp : Pl n o t) (ho : o.op = .move x) (hc : S.opd x = c) : OpOk n P ops o (opdN x) c [] S :=
  op_val hp fun C T g a w hA hR => ⟨a.eval x, by simp [execOp, ho], by rw [← hc]; exact opd_rep hA (fun _ h => h) hR⟩
theorem op_assign {x : Operand} {c : Cnt} (hp : Pl n o t) (ho : o.op = .assign x) (hc : S.opd x = c) : OpOk n P ops o (opdN x) c [] S :=
  op_val hp fun C T g a w hA hR => ⟨a.eval x, by simp [execOp, ho], by rw [← hc]; exact opd_rep hA (fun _ h => h) hR⟩

/-- raw values -/
theorem raw_opd {x : Operand} {v : Value} (hA : Agree F T S) (hF : ∀ k ∈ opdN x, k ∈ F) (hR : RG C n T g a w) (h : S.opd x = .per (rawP v)) : a.eval x = v := by
  have := opd_rep hA hF hR
  rw [h] at this; exact this

def BoolWhen (b : Bool) (c : Cnt) (p : Bool) : Prop := b = true → c = bC p
theorem op_pick {c x y : Operand} {b p q : Bool} (hp : Pl n o t) (ho : o.op = .pick c x y) (hc : S.opd c = bC b) (hx : BoolWhen b (S.opd x) p) (hy : BoolWhen (!b) (S.opd y) q) :
    OpOk n P ops o (opdN c ++ opdN x ++ opdN y) (bC (bif b then p else q)) [] S :=
  op_val hp fun C T g a w hA hR => by
    have h1 := raw_opd hA (fun k h => by simp [h]) hR hc
    cases b with
    | true =>
      have h2 := raw_opd (x := x) hA (fun k h => by simp [h]) hR (hx rfl)
      exact ⟨.bool p, by simp [execOp, ho, h1, h2, asBool], rfl⟩
    | false =>
      have h2 := raw_opd (x := y) hA (fun k h => by simp [h]) hR (hy rfl)
      exact ⟨.bool q, by simp [execOp, ho, h1, h2, asBool], rfl⟩

/-- what stands behind a guard -/
theorem get_gr {x : Cnt} {b : Bool} {v : Value} (h : x = .per (rawP (bif b then v else undef))) (hb : b = true) : x = .per (rawP v) := by rw [h, hb]; rfl
theorem get_gc {x : Cnt} {b : Bool} {c : Cnt} (h : x = bif b then c else .any) (hb : b = true) : x = c := by rw [h, hb]; rfl

def boolOf : Value → Option Bool
  | .bool b => some b
  | _ => none
theorem yielded_of {j tg : Nat} {a : Act} {v : Value} (hj : (ops[j]?).bind (·.dst) = some tg) (hv : a.tmps.getD tg undef = v) (hlt : tg < a.tmps.size) :
    yielded ops a.tmps j = boolOf v := by
  have : a.tmps[tg] = v := by rw [← hv]; simp [Array.getD, hlt]
  subst this
  unfold yielded
  rw [hj]
  simp only [Option.bind_some, Array.getElem?_eq_getElem hlt]
  cases a.tmps[tg] <;> rfl

/-- a guarded operation: its value, where it is done -/
theorem op_guard_raw {j tg : Nat} {want b g' : Bool} {v : Value} (hg : o.guard = some (j, want)) (hd : o.dst = some t) (ht : Nat.blt t n = true) (hj : (ops[j]?).bind (·.dst) = some tg) (htg : Nat.blt tg n = true)
    (hb : S.get tg = .per (rawP (bif g' then .bool b else undef))) (h : g' = true → b = want → OpOk n P ops { o with guard := none } F (.per (rawP v)) [] S) :
    OpOk n P ops o (2 * tg :: F) (.per (rawP (bif (g' && b == want) then v else undef))) [] S := by
  refine ⟨?_⟩
  intro C T hA a w ⟨g, hR⟩
  have hv : a.tmps.getD tg undef = (bif g' then .bool b else undef) := by
    have := hR.slots tg
    rw [hA.1 tg (by simp), hb] at this; exact this
  have hy := yielded_of (ops := ops) hj hv (by rw [hR.tsz]; exact Nat.le_of_ble_eq_true htg)
  have hdk : dOk n o.dst := fun t' e => by rw [hd] at e; cases e; exact Nat.le_of_ble_eq_true ht
  unfold Exec
  cases g' with
  | false =>
    rw [if_neg (by simp [Region.wanted, hg, hy, undef, boolOf])]
    exact ⟨g, hR.app0 (Ext.refl w) hdk rfl⟩
  | true =>
    simp only [cond_true] at hy
    by_cases hbw : b = want
    · rw [if_pos (by simp [Region.wanted, hg, hy, hbw, boolOf])]
      have hA' : Agree F T S := ⟨fun t h => hA.1 t (by simp [h]), fun id h => hA.2 id (by simp [h])⟩
      have := (h rfl hbw).run C T hA' a w ⟨g, hR⟩
      unfold Exec at this
      rw [if_pos (by simp [Region.wanted])] at this
      subst hbw
      have e : (true && b == b) = true := by simp
      rw [e]
      exact this
    · rw [if_neg (by simp [Region.wanted, hg, hy, hbw, boolOf])]
      have : (b == want) = false := by simpa using hbw
      simp only [this, Bool.and_false, cond_false]
      exact ⟨g, hR.app0 (Ext.refl w) hdk rfl⟩
theorem op_guard {j tg : Nat} {want b g' : Bool} {c : Cnt} (hg : o.guard = some (j, want)) (hd : o.dst = some t) (ht : Nat.blt t n = true) (hj : (ops[j]?).bind (·.dst) = some tg) (htg : Nat.blt tg n = true)
    (hb : S.get tg = .per (rawP (bif g' then .bool b else undef))) (h : g' = true → b = want → OpOk n P ops { o with guard := none } F c [] S) :
    OpOk n P ops o (2 * tg :: F) (bif (g' && b == want) then c else .any) [] S := by
  refine ⟨?_⟩
  intro C T hA a w ⟨g, hR⟩
  have hv : a.tmps.getD tg undef = (bif g' then .bool b else undef) := by
    have := hR.slots tg
    rw [hA.1 tg (by simp), hb] at this; exact this
  have hy := yielded_of (ops := ops) hj hv (by rw [hR.tsz]; exact Nat.le_of_ble_eq_true htg)
  have hdk : dOk n o.dst := fun t' e => by rw [hd] at e; cases e; exact Nat.le_of_ble_eq_true ht
  unfold Exec
  cases g' with
  | false =>
    rw [if_neg (by simp [Region.wanted, hg, hy, undef, boolOf])]
    exact ⟨g, hR.app0 (Ext.refl w) hdk trivial⟩
  | true =>
    simp only [cond_true] at hy
    by_cases hbw : b = want
    · rw [if_pos (by simp [Region.wanted, hg, hy, hbw, boolOf])]
      have hA' : Agree F T S := ⟨fun t h => hA.1 t (by simp [h]), fun id h => hA.2 id (by simp [h])⟩
      have := (h rfl hbw).run C T hA' a w ⟨g, hR⟩
      unfold Exec at this
      rw [if_pos (by simp [Region.wanted])] at this
      subst hbw
      have e : (true && b == b) = true := by simp
      rw [e]
      exact this
    · rw [if_neg (by simp [Region.wanted, hg, hy, hbw, boolOf])]
      have : (b == want) = false := by simpa using hbw
      simp only [this, Bool.and_false, cond_false]
      exact ⟨g, hR.app0 (Ext.refl w) hdk trivial⟩
/-- a bool that stands without a guard -/
theorem as_guard {x : Cnt} {b : Bool} (h : x = bC b) : x = .per (rawP (bif true then .bool b else undef)) := h

/-! ### numbers, texts, bools -/
def evalBin (op : BinOp) : Value → Value → Option Value
  | .int k a, .int k' b => match op with
    | .add => if k = k' then some (.int k (k.wrap (a + b))) else none
    | .sub => if k = k' then some (.int k (k.wrap (a - b))) else none
    | .mul => if k = k' then some (.int k (k.wrap (a * b))) else none
    | .eql => if k = k' then some (.bool (a == b)) else none
    | .neq => if k = k' then some (.bool (a != b)) else none
    | .lss => if k = k' then some (.bool (decide (a < b))) else none
    | .leq => if k = k' then some (.bool (decide (a ≤ b))) else none
    | .gtr => if k = k' then some (.bool (decide (a > b))) else none
    | .geq => if k = k' then some (.bool (decide (a ≥ b))) else none
    | _ => none
  | .string a, .string b => match op with
    | .eql => some (.bool (a.toList == b.toList))
    | .neq => some (.bool !(a.toList == b.toList))
    | .lss => some (.bool (Op.bytesLess a.toList b.toList))
    | .gtr => some (.bool !(Op.bytesLess a.toList b.toList || (a.toList == b.toList)))
    | _ => none
  | _, _ => none
theorem evalBin_run {op : BinOp} {T : TypeId} {x y : Operand} {u v r : Value} (h : evalBin op u v = some r) (w : World) :
    (do eqGuard op T x y u v; binOp op T u v).run P w = .ok r w := by
  unfold evalBin at h
  split at h
  · split at h <;> first
      | (split at h
         · rename_i hk; subst hk; cases h; simp [eqGuard_at_int, binOp, Op.intArith, Op.intCmp]
         · cases h)
      | cases h
  · split at h <;> first | (cases h; simp [eqGuard_at_string, binOp, Op.stringOp]) | cases h
  · cases h
theorem op_bin {op : BinOp} {ty ty' : TypeId} {x y : Operand} {u v r : Value} (hp : Pl n o t) (ho : o.op = .binOp op ty x y ty') (hx : S.opd x = .per (rawP u)) (hy : S.opd y = .per (rawP v))
    (h : evalBin op u v = some r) : OpOk n P ops o (opdN x ++ opdN y) (.per (rawP r)) [] S :=
  op_val hp fun C T g a w hA hR => by
    have h1 := raw_opd (x := x) hA (fun k h => by simp [h]) hR hx
    have h2 := raw_opd (x := y) hA (fun k h => by simp [h]) hR hy
    refine ⟨r, ?_, rfl⟩
    have := evalBin_run (P := P) (T := ty) (x := x) (y := y) h w
    simp only [execOp, ho, h1, h2, Sem.run_bind] at this ⊢
    rw [this]; rfl
/-- a sum that stays within the kind's bounds -/
theorem op_num {op : BinOp} {ty ty' : TypeId} {x y : Operand} {u v : Value} {k : IntKind} {z z' : Int} (hp : Pl n o t) (ho : o.op = .binOp op ty x y ty') (hx : S.opd x = .per (rawP u)) (hy : S.opd y = .per (rawP v))
    (h : evalBin op u v = some (.int k z)) (hz : z = z') : OpOk n P ops o (opdN x ++ opdN y) (iC k z') [] S := hz ▸ op_bin hp ho hx hy h
theorem op_quo {ty ty' : TypeId} {x y : Operand} {k : IntKind} {p q z : Int} (hp : Pl n o t) (ho : o.op = .binOp .quo ty x y ty') (hx : S.opd x = iC k p) (hy : S.opd y = iC k q)
    (hq : q ≠ 0) (hz : k.wrap (p.tdiv q) = z) : OpOk n P ops o (opdN x ++ opdN y) (iC k z) [] S :=
  op_val hp fun C T g a w hA hR => by
    have h1 := raw_opd (x := x) hA (fun k h => by simp [h]) hR hx
    have h2 := raw_opd (x := y) hA (fun k h => by simp [h]) hR hy
    exact ⟨.int k z, by simp [execOp, ho, h1, h2, binOp, Op.intDiv, hq, hz, eqGuard_at_int], rfl⟩
theorem op_rem {ty ty' : TypeId} {x y : Operand} {k : IntKind} {p q z : Int} (hp : Pl n o t) (ho : o.op = .binOp .rem ty x y ty') (hx : S.opd x = iC k p) (hy : S.opd y = iC k q)
    (hq : q ≠ 0) (hz : p.tmod q = z) : OpOk n P ops o (opdN x ++ opdN y) (iC k z) [] S :=
  op_val hp fun C T g a w hA hR => by
    have h1 := raw_opd (x := x) hA (fun k h => by simp [h]) hR hx
    have h2 := raw_opd (x := y) hA (fun k h => by simp [h]) hR hy
    exact ⟨.int k z, by simp [execOp, ho, h1, h2, binOp, Op.intDiv, hq, hz, eqGuard_at_int], rfl⟩
/-- whatever operation on raw values, by its run -/
theorem op_raw2 {op : BinOp} {ty ty' : TypeId} {x y : Operand} {u v r : Value} (hp : Pl n o t) (ho : o.op = .binOp op ty x y ty') (hx : S.opd x = .per (rawP u)) (hy : S.opd y = .per (rawP v))
    (h : ∀ w, (do eqGuard op ty x y u v; binOp op ty u v).run P w = .ok r w) : OpOk n P ops o (opdN x ++ opdN y) (.per (rawP r)) [] S :=
  op_val hp fun C T g a w hA hR => by
    have h1 := raw_opd (x := x) hA (fun k h => by simp [h]) hR hx
    have h2 := raw_opd (x := y) hA (fun k h => by simp [h]) hR hy
    refine ⟨r, ?_, rfl⟩
    have := h w
    simp only [execOp, ho, h1, h2, Sem.run_bind] at this ⊢
    rw [this]; rfl
theorem op_not {ty : TypeId} {x : Operand} {b : Bool} (hp : Pl n o t) (ho : o.op = .unOp .not ty x) (hx : S.opd x = bC b) : OpOk n P ops o (opdN x) (bC (!b)) [] S :=
  op_val hp fun C T g a w hA hR => by
    have h1 := raw_opd (x := x) hA (fun k h => by simp [h]) hR hx
    exact ⟨_, by simp [execOp, ho, h1, Op.unary], rfl⟩
theorem op_conv {src dst : TypeId} {x : Operand} {k k' : IntKind} {p z : Int} (hp : Pl n o t) (ho : o.op = .convert src dst x) (hs : (P.underlying src).isSome = true) (hd : P.underlying dst = some (.int k)) (hx : S.opd x = iC k' p)
    (hz : k.wrap p = z) : OpOk n P ops o (opdN x) (iC k z) [] S :=
  op_val hp fun C T g a w hA hR => by
    have h1 := raw_opd (x := x) hA (fun k h => by simp [h]) hR hx
    refine ⟨.int k z, ?_, rfl⟩
    have hik : P.intKind dst = k := by simp [Program.intKind, hd]
    have := run_convert_int (P := P) w src dst k' p hs (by rw [hd, hik])
    simp only [execOp, ho, h1, Sem.run_bind, this, hik, hz]
    rfl
theorem wrap_id64 {z : Int} (h1 : -9223372036854775808 ≤ z) (h2 : z ≤ 9223372036854775807) : IntKind.i64.wrap z = z := IntWalk.i64_in z ⟨h1, h2⟩

/-! ### boxes -/
def rawC (v : Value) : Cnt := .per (rawP v)
theorem sizeOf_run {T k : Nat} (h : P.cellsOf T = k) (hk : 0 < k) (w : World) : (sizeOf T).run P w = .ok k w := by
  unfold Program.cellsOf at h
  cases hi : P.info? T with
  | none => rw [hi] at h; simp at h; omega
  | some i =>
    rw [run_sizeOf (w := w) hi]
    unfold Program.cellsOf; rw [hi] at h ⊢; simp at h ⊢; exact h
def isAggD : TypeDesc → Bool
  | .struct _ | .array _ _ => true
  | _ => false
theorem isAgg_run {T : TypeId} {d : TypeDesc} (h : P.underlying T = some d) (w : World) : (isAgg T).run P w = .ok (isAggD d) w := by
  unfold isAgg
  rw [Sem.run_bind, run_underlying h]
  cases d <;> rfl

theorem loadCells_run {w : World} {b o : Nat} {cs : List Value} (h : ∀ (j : Nat) (v : Value), cs[j]? = some v → w.cell? ⟨b, o + j, none⟩ = some v) :
    (loadCells ⟨b, o, none⟩ cs.length).run P w = .ok cs.toArray w :=
  run_loadCells_list w ⟨b, o, none⟩ cs (fun j v hj => by rw [Addr.add_lit]; exact h j v hj)

/-- reading what lies from an address on: a value of one cell -/
theorem loadAt_one {w : World} {b o : Nat} {T : TypeId} {d : TypeDesc} {y : Value} (hT : P.underlying T = some d) (hd : isAggD d = false) (h : w.cell? ⟨b, o, none⟩ = some y) :
    (Instr.loadAt T (.pointer (some ⟨b, o, none⟩))).run P w = .ok y w := by
  simp only [Instr.loadAt, Instr.sureAddr, Sem.run_bind, Sem.run_pure, Result.andThen_ok, loadVar, isAgg_run hT, hd, Bool.false_eq_true, if_false]
  simp [load, Sem.run, h]
/-- a struct, an array -/
theorem loadAt_agg {w : World} {b o : Nat} {T : TypeId} {d : TypeDesc} {cs : List Value} (hT : P.underlying T = some d) (hd : isAggD d = true) (hk : P.cellsOf T = cs.length) (h0 : 0 < cs.length)
    (h : ∀ (j : Nat) (v : Value), cs[j]? = some v → w.cell? ⟨b, o + j, none⟩ = some v) :
    (Instr.loadAt T (.pointer (some ⟨b, o, none⟩))).run P w = .ok (.agg cs.toArray) w := by
  simp only [Instr.loadAt, Instr.sureAddr, Sem.run_bind, Sem.run_pure, Result.andThen_ok, loadVar, isAgg_run hT, hd, if_true, sizeOf_run hk h0, loadCells_run h]

theorem list_of_cells {N : BP} {w : World} {f : Nat → Option Value} : ∀ (cs : List PV), (∀ (j : Nat) (A : PV), cs[j]? = some A → ∃ y, f j = some y ∧ y.oneCell' = true ∧ A.p N w y) →
    ∃ vs : List Value, vs.length = cs.length ∧ (∀ (j : Nat) (v : Value), vs[j]? = some v → f j = some v) ∧ cellsP N w vs.toArray cs := by
  intro cs
  induction cs generalizing f with
  | nil => intro _; exact ⟨[], rfl, fun j v h => by simp at h, rfl, fun j A h => by simp at h⟩
  | cons A cs ih =>
    intro h
    obtain ⟨y, h1, h2, h3⟩ := h 0 A rfl
    obtain ⟨vs, g1, g2, g3, g4⟩ := ih (f := fun j => f (j + 1)) (fun j A' hj => h (j + 1) A' (by simpa using hj))
    refine ⟨y :: vs, by simp [g1], fun j v hj => ?_, by simp [g1], fun j A' hj => ?_⟩
    · cases j with
      | zero => simp at hj; subst hj; exact h1
      | succ j => exact g2 j v (by simpa using hj)
    · cases j with
      | zero => simp at hj; subst hj; exact ⟨y, by simp, h2, h3⟩
      | succ j =>
        obtain ⟨z, q1, q2⟩ := g4 j A' (by simpa using hj)
        exact ⟨z, by simpa using q1, q2⟩

/-- cells of a persistent address -/
theorem op_load_rp1 {ty : TypeId} {d : TypeDesc} {x : Operand} {cs : List PV} {A : PV} (hp : Pl n o t) (ho : o.op = .load ty x) (hT : P.underlying ty = some d) (hd : isAggD d = false)
    (hx : S.opd x = .per (rptrP cs)) (hA : cs[0]? = some A) : OpOk n P ops o (opdN x) (.per A) [] S :=
  op_val hp fun C T g a w hAg hR => by
    have h := opd_rep (x := x) hAg (fun k h => h) hR
    rw [hx] at h
    obtain ⟨b, of, hv, hb, hn, hc⟩ := h
    obtain ⟨y, h1, h2, h3⟩ := hc 0 A hA
    rw [Nat.add_zero] at h1
    refine ⟨y, ?_, h3⟩
    simp only [execOp, ho, hv, Sem.run_bind, loadAt_one hT hd h1]; rfl
theorem op_load_rpA {ty : TypeId} {d : TypeDesc} {x : Operand} {cs : List PV} (hp : Pl n o t) (ho : o.op = .load ty x) (hT : P.underlying ty = some d) (hd : isAggD d = true) (hk : P.cellsOf ty = cs.length) (h0 : 0 < cs.length)
    (hx : S.opd x = .per (rptrP cs)) : OpOk n P ops o (opdN x) (.per (aggP cs)) [] S :=
  op_val hp fun C T g a w hAg hR => by
    have h := opd_rep (x := x) hAg (fun k h => h) hR
    rw [hx] at h
    obtain ⟨b, of, hv, hb, hn, hc⟩ := h
    obtain ⟨vs, g1, g2, g3⟩ := list_of_cells cs hc
    refine ⟨.agg vs.toArray, ?_, ⟨vs.toArray, rfl, g3⟩⟩
    simp only [execOp, ho, hv, Sem.run_bind, loadAt_agg hT hd (by rw [hk, g1]) (by omega) g2]; rfl
/-- a part of a struct in persistent memory (k cells from off on, out of the cells from an address on) -/
theorem rptr_drop {N : BP} {w : World} {cs : List PV} {off b q : Nat} (h : ∀ (j : Nat) (A : PV), cs[j]? = some A → ∃ y, w.cell? ⟨b, q + j, none⟩ = some y ∧ y.oneCell' = true ∧ A.p N w y) :
    ∀ (j : Nat) (A : PV), (cs.drop off)[j]? = some A → ∃ y, w.cell? ⟨b, q + off + j, none⟩ = some y ∧ y.oneCell' = true ∧ A.p N w y := by
  intro j A hj
  rw [List.getElem?_drop] at hj
  obtain ⟨y, h1, h2⟩ := h (off + j) A hj
  exact ⟨y, by rw [show q + off + j = q + (off + j) by omega]; exact h1, h2⟩

theorem fieldAt_run {w : World} {b o off f : Nat} {T : TypeId} {fs : Array Field} {fld : Field} {k : Nat} (hT : P.underlying T = some (.struct fs)) (hf : fs[f]? = some fld) (hoff : fld.offset = off) (hk : P.cellsOf fld.type = k) (h0 : 0 < k) :
    (Instr.fieldAt T (.pointer (some ⟨b, o, none⟩)) f).run P w = .ok (.pointer (some ⟨b, o + off, none⟩)) w := by
  unfold Instr.fieldAt
  rw [Sem.run_bind, run_underlying hT]
  simp only [Result.andThen_ok, hf, Instr.sureAddr, Sem.run_bind, Sem.run_pure, fieldPlace, sizeOf_run hk h0]
  rw [if_neg (by omega)]
  simp [hoff, Addr.add_lit]

/-- field offsets and sizes, in one -/
structure Fld (P : Program) (T f off : Nat) : Prop where
  ex : ∃ fs fld k, P.underlying T = some (.struct fs) ∧ fs[f]? = some fld ∧ fld.offset = off ∧ P.cellsOf fld.type = k ∧ 0 < k
theorem Fld.mk' {T f off : Nat} {fs : Array Field} (hT : P.underlying T = some (.struct fs)) (h : (fs[f]?).map (fun x => (x.offset, Nat.blt 0 (P.cellsOf x.type))) = some (off, true)) : Fld P T f off := by
  cases hf : fs[f]? with
  | none => rw [hf] at h; cases h
  | some fld =>
    rw [hf] at h
    simp at h
    exact ⟨fs, fld, _, hT, hf, h.1, rfl, h.2⟩
theorem op_field_rp {T f off : Nat} {x : Operand} {cs : List PV} (hp : Pl n o t) (ho : o.op = .fieldAddr T x f) (hf : Fld P T f off) (hx : S.opd x = .per (rptrP cs)) : OpOk n P ops o (opdN x) (.per (rptrP (cs.drop off))) [] S :=
  op_val hp fun C T g a w hAg hR => by
    obtain ⟨fs, fld, k, h1, h2, h3, h4, h5⟩ := hf.ex
    have h := opd_rep (x := x) hAg (fun k h => h) hR
    rw [hx] at h
    obtain ⟨b, q, hv, hb, hn, hc⟩ := h
    refine ⟨_, by simp only [execOp, ho, hv, Sem.run_bind, fieldAt_run h1 h2 h3 h4 h5]; rfl, b, q + off, rfl, hb, hn, rptr_drop hc⟩
theorem op_field_bp {T f off : Nat} {x : Operand} {cs : List PV} (hp : Pl n o t) (ho : o.op = .fieldAddr T x f) (hf : Fld P T f off) (hx : S.opd x = .bpt cs) : OpOk n P ops o (opdN x) (.bpt (cs.drop off)) [] S :=
  op_val hp fun C T g a w hAg hR => by
    obtain ⟨fs, fld, k, h1, h2, h3, h4, h5⟩ := hf.ex
    have h := opd_rep (x := x) hAg (fun k h => h) hR
    rw [hx] at h
    obtain ⟨b, q, hv, hb, hn, hc⟩ := h
    refine ⟨_, by simp only [execOp, ho, hv, Sem.run_bind, fieldAt_run h1 h2 h3 h4 h5]; rfl, b, q + off, rfl, hb, hn, rptr_drop hc⟩
theorem op_load_bp1 {ty : TypeId} {d : TypeDesc} {x : Operand} {cs : List PV} {A : PV} (hp : Pl n o t) (ho : o.op = .load ty x) (hT : P.underlying ty = some d) (hd : isAggD d = false)
    (hx : S.opd x = .bpt cs) (hA : cs[0]? = some A) : OpOk n P ops o (opdN x) (.per A) [] S :=
  op_val hp fun C T g a w hAg hR => by
    have h := opd_rep (x := x) hAg (fun k h => h) hR
    rw [hx] at h
    obtain ⟨b, of, hv, hb, hn, hc⟩ := h
    obtain ⟨y, h1, h2, h3⟩ := hc 0 A hA
    rw [Nat.add_zero] at h1
    refine ⟨y, ?_, h3⟩
    simp only [execOp, ho, hv, Sem.run_bind, loadAt_one hT hd h1]; rfl
theorem op_load_bpA {ty : TypeId} {d : TypeDesc} {x : Operand} {cs : List PV} (hp : Pl n o t) (ho : o.op = .load ty x) (hT : P.underlying ty = some d) (hd : isAggD d = true) (hk : P.cellsOf ty = cs.length) (h0 : 0 < cs.length)
    (hx : S.opd x = .bpt cs) : OpOk n P ops o (opdN x) (.per (aggP cs)) [] S :=
  op_val hp fun C T g a w hAg hR => by
    have h := opd_rep (x := x) hAg (fun k h => h) hR
    rw [hx] at h
    obtain ⟨b, of, hv, hb, hn, hc⟩ := h
    obtain ⟨vs, g1, g2, g3⟩ := list_of_cells cs hc
    refine ⟨.agg vs.toArray, ?_, ⟨vs.toArray, rfl, g3⟩⟩
    simp only [execOp, ho, hv, Sem.run_bind, loadAt_agg hT hd (by rw [hk, g1]) (by omega) g2]; rfl
end
end Go.Proofs.Ytnpognmpgddncaa
