/- Guards that are known: the operation is done, or it is not. -/
import Derived.Test.YtpndnlnjgnckdaaAbsOps
namespace Go.Proofs.Ytpndnlnjgnckdaa
open Go.RowKit
variable {P : Program} {n : Nat} {ops : Array Oper} {o : Oper} {F : List Nat} {S T : St} {t : Nat}
theorem op_gyes {j tg : Nat} {want b : Bool} {c : Cnt} {bk : Upd} (hg : o.guard = some (j, want)) (hj : (ops[j]?).bind (·.dst) = some tg) (htg : Nat.blt tg n = true)
    (hb : S.get tg = bC b) (hw : b = want) (h : OpOk n P ops { o with guard := none } F c bk S) : OpOk n P ops o (2 * tg :: F) c bk S := by
  refine ⟨?_⟩
  intro C T hA a w ⟨g, hR⟩
  have hv : a.tmps.getD tg undef = .bool b := by
    have := hR.slots tg
    rw [hA.1 tg (by simp), hb] at this; exact this
  have hy := yielded_of (ops := ops) hj hv (by rw [hR.tsz]; exact Nat.le_of_ble_eq_true htg)
  unfold Exec
  rw [if_pos (by simp [Region.wanted, hg, hy, hw, boolOf])]
  have hA' : Agree F T S := ⟨fun t h => hA.1 t (by simp [h]), fun id h => hA.2 id (by simp [h])⟩
  have := h.run C T hA' a w ⟨g, hR⟩
  unfold Exec at this
  rw [if_pos (by simp [Region.wanted])] at this
  exact this
/-- a guard that was not looked at yields nothing -/
theorem op_gno {j tg : Nat} {want b : Bool} (hg : o.guard = some (j, want)) (hd : o.dst = some t) (ht : Nat.blt t n = true) (hj : (ops[j]?).bind (·.dst) = some tg) (htg : Nat.blt tg n = true)
    (hb : S.get tg = bC b) (hw : b = !want) : OpOk n P ops o [2 * tg] (.per (rawP undef)) [] S := by
  refine ⟨?_⟩
  intro C T hA a w ⟨g, hR⟩
  have hv : a.tmps.getD tg undef = .bool b := by
    have := hR.slots tg
    rw [hA.1 tg (by simp), hb] at this; exact this
  have hy := yielded_of (ops := ops) hj hv (by rw [hR.tsz]; exact Nat.le_of_ble_eq_true htg)
  have hdk : dOk n o.dst := fun t' e => by rw [hd] at e; cases e; exact Nat.le_of_ble_eq_true ht
  unfold Exec
  rw [if_neg (by simp [Region.wanted, hg, hy, hw, boolOf])]
  exact ⟨g, hR.app0 (Ext.refl w) hdk rfl⟩
/-- .. nor does what waits for nothing -/
theorem op_gnone {j tg : Nat} {want : Bool} (hg : o.guard = some (j, want)) (hd : o.dst = some t) (ht : Nat.blt t n = true) (hj : (ops[j]?).bind (·.dst) = some tg) (htg : Nat.blt tg n = true)
    (hb : S.get tg = .per (rawP undef)) : OpOk n P ops o [2 * tg] (.per (rawP undef)) [] S := by
  refine ⟨?_⟩
  intro C T hA a w ⟨g, hR⟩
  have hv : a.tmps.getD tg undef = undef := by
    have := hR.slots tg
    rw [hA.1 tg (by simp), hb] at this; exact this
  have hy := yielded_of (ops := ops) hj hv (by rw [hR.tsz]; exact Nat.le_of_ble_eq_true htg)
  have hdk : dOk n o.dst := fun t' e => by rw [hd] at e; cases e; exact Nat.le_of_ble_eq_true ht
  unfold Exec
  rw [if_neg (by simp [Region.wanted, hg, hy, undef, boolOf])]
  exact ⟨g, hR.app0 (Ext.refl w) hdk rfl⟩
theorem op_pick_t {c x y : Operand} {b p : Bool} (hp : Pl n o t) (ho : o.op = .pick c x y) (hc : S.opd c = bC b) (hb : b = true) (hx : S.opd x = bC p) : OpOk n P ops o (opdN c ++ opdN x ++ opdN y) (bC p) [] S := by
  subst hb
  exact op_pick (p := p) (q := p) hp ho hc (fun _ => hx) (fun h => by cases h)
theorem op_pick_f {c x y : Operand} {b p : Bool} (hp : Pl n o t) (ho : o.op = .pick c x y) (hc : S.opd c = bC b) (hb : b = false) (hy : S.opd y = bC p) : OpOk n P ops o (opdN c ++ opdN x ++ opdN y) (bC p) [] S := by
  subst hb
  exact op_pick (p := p) (q := p) hp ho hc (fun h => by cases h) (fun _ => hy)
/-! ### the greater and the less of two numbers -/
theorem op_max {ty ty' : TypeId} {x y : Operand} {k : IntKind} {u v : Int} (hp : Pl n o t) (ho : o.op = .call { callee := .builtin .max, args := #[x, y], argTypes := #[ty, ty'] }) (hx : S.opd x = iC k u) (hy : S.opd y = iC k v) :
    OpOk n P ops o (opdN x ++ opdN y) (iC k (if v > u then v else u)) [] S :=
  op_val hp fun C T g a w hA hR => by
    have h1 := raw_opd (x := x) hA (fun k h => by simp [h]) hR hx
    have h2 := raw_opd (x := y) hA (fun k h => by simp [h]) hR hy
    refine ⟨.int k (if v > u then v else u), ?_, rfl⟩
    simp only [execOp, ho, resolve, invoke, builtin, Sem.run_bind, Sem.run_pure, Result.andThen_ok, List.map_toArray, List.map_cons, List.map_nil, h1, h2, run_max_int2]
theorem op_min {ty ty' : TypeId} {x y : Operand} {k : IntKind} {u v : Int} (hp : Pl n o t) (ho : o.op = .call { callee := .builtin .min, args := #[x, y], argTypes := #[ty, ty'] }) (hx : S.opd x = iC k u) (hy : S.opd y = iC k v) :
    OpOk n P ops o (opdN x ++ opdN y) (iC k (if v < u then v else u)) [] S :=
  op_val hp fun C T g a w hA hR => by
    have h1 := raw_opd (x := x) hA (fun k h => by simp [h]) hR hx
    have h2 := raw_opd (x := y) hA (fun k h => by simp [h]) hR hy
    refine ⟨.int k (if v < u then v else u), ?_, rfl⟩
    simp only [execOp, ho, resolve, invoke, builtin, Sem.run_bind, Sem.run_pure, Result.andThen_ok, List.map_toArray, List.map_cons, List.map_nil, h1, h2, run_min_int2]
end Go.Proofs.Ytpndnlnjgnckdaa
