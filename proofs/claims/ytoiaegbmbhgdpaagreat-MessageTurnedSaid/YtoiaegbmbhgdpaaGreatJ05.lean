/- Texts joined: AbsG Tab. -/
import Derived.Test.YtoiaegbmbhgdpaaGreatJ04
import Derived.Test.YtoiaegbmbhgdpaaGreatProg
namespace Go.Proofs.YtoiaegbmbhgdpaaGreat
open Go.RowKit
variable {P : Program} {n : Nat} {ops : Array Oper} {o : Oper} {F : List Nat} {S T : St} {t : Nat}
theorem op_gyes {j tg : Nat} {want b : Bool} {c : Cnt} {bk : Upd} (hg : o.guard = some (j, want)) (hj : (ops[j]?).bind (·.dst) = some tg) (htg : Nat.blt tg n = true)
    (hb : S.get tg = bC b) (hw : b = want) (h : OpOk n P ops { o with guard := none } F c bk S) : OpOk n P ops o (2 * tg :: F) c bk S := by
  refine ⟨?_⟩
  intro C T hA a w ⟨g, hR⟩
  have hv : a.tmps.getD tg undef = .bool b := by
    have := hR.slots tg
    rw [hA.1 tg (by simp), hb] at this; exact this
  have hy := yielded_of (ops := ops) hj hv (by rw [hR.tsz]; exact Nat.le_of_ble_eq_true htg)
  unfold Exec
  rw [if_pos (by simp [Region.wanted, hg, hy, hw, boolOf])]
  have hA' : Agree F T S := ⟨fun t h => hA.1 t (by simp [h]), fun id h => hA.2 id (by simp [h])⟩
  have := h.run C T hA' a w ⟨g, hR⟩
  unfold Exec at this
  rw [if_pos (by simp [Region.wanted])] at this
  exact this
/-- a guard that was not looked at yields nothing -/
theorem op_gno {j tg : Nat} {want b : Bool} (hg : o.guard = some (j, want)) (hd : o.dst = some t) (ht : Nat.blt t n = true) (hj : (ops[j]?).bind (·.dst) = some tg) (htg : Nat.blt tg n = true)
    (hb : S.get tg = bC b) (hw : b = !want) : OpOk n P ops o [2 * tg] (.per (rawP undef)) [] S := by
  refine ⟨?_⟩
  intro C T hA a w ⟨g, hR⟩
  have hv : a.tmps.getD tg undef = .bool b := by
    have := hR.slots tg
    rw [hA.1 tg (by simp), hb] at this; exact this
  have hy := yielded_of (ops := ops) hj hv (by rw [hR.tsz]; exact Nat.le_of_ble_eq_true htg)
  have hdk : dOk n o.dst := fun t' e => by rw [hd] at e; cases e; exact Nat.le_of_ble_eq_true ht
  unfold Exec
  rw [if_neg (by simp [Region.wanted, hg, hy, hw, boolOf])]
  exact ⟨g, hR.app0 (Ext.refl w) hdk rfl⟩
/-- .. nor does what waits for nothing -/
theorem op_gnone {j tg : Nat} {want : Bool} (hg : o.guard = some (j, want)) (hd : o.dst = some t) (ht : Nat.blt t n = true) (hj : (ops[j]?).bind (·.dst) = some tg) (htg : Nat.blt tg n = true)
    (hb : S.get tg = .per (rawP undef)) : OpOk n P ops o [2 * tg] (.per (rawP undef)) [] S := by
  refine ⟨?_⟩
  intro C T hA a w ⟨g, hR⟩
  have hv : a.tmps.getD tg undef = undef := by
    have := hR.slots tg
    rw [hA.1 tg (by simp), hb] at this; exact this
  have hy := yielded_of (ops := ops) hj hv (by rw [hR.tsz]; exact Nat.le_of_ble_eq_true htg)
  have hdk : dOk n o.dst := fun t' e => by rw [hd] at e; cases e; exact Nat.le_of_ble_eq_true ht
  unfold Exec
  rw [if_neg (by simp [Region.wanted, hg, hy, undef, boolOf])]
  exact ⟨g, hR.app0 (Ext.refl w) hdk rfl⟩
theorem op_pick_t {c x y : Operand} {b p : Bool} (hp : Pl n o t) (ho : o.op = .pick c x y) (hc : S.opd c = bC b) (hb : b = true) (hx : S.opd x = bC p) : OpOk n P ops o (opdN c ++ opdN x ++ opdN y) (bC p) [] S := by
  subst hb
  exact op_pick (p := p) (q := p) hp ho hc (fun _ => hx) (fun h => by cases h)
theorem op_pick_f {c x y : Operand} {b p : Bool} (hp : Pl n o t) (ho : o.op = .pick c x y) (hc : S.opd c = bC b) (hb : b = false) (hy : S.opd y = bC p) : OpOk n P ops o (opdN c ++ opdN x ++ opdN y) (bC p) [] S := by
  subst hb
  exact op_pick (p := p) (q := p) hp ho hc (fun h => by cases h) (fun _ => hy)
/-! ### the greater and the less of two numbers -/
theorem op_max {ty ty' : TypeId} {x y : Operand} {k : IntKind} {u v : Int} (hp : Pl n o t) (ho : o.op = .call { callee := .builtin .max, args := #[x, y], argTypes := #[ty, ty'] }) (hx : S.opd x = iC k u) (hy : S.opd y = iC k v) :
    OpOk n P ops o (opdN x ++ opdN y) (iC k (if v > u then v else u)) [] S :=
  op_val hp fun C T g a w hA hR => by
    have h1 := raw_opd (x := x) hA (fun k h => by simp [h]) hR hx
    have h2 := raw_opd (x := y) hA (fun k h => by simp [h]) hR hy
    refine ⟨.int k (if v > u then v else u), ?_, rfl⟩
    simp only [execOp, ho, resolve, invoke, builtin, Sem.run_bind, Sem.run_pure, Result.andThen_ok, List.map_toArray, List.map_cons, List.map_nil, h1, h2, run_max_int2]
theorem op_min {ty ty' : TypeId} {x y : Operand} {k : IntKind} {u v : Int} (hp : Pl n o t) (ho : o.op = .call { callee := .builtin .min, args := #[x, y], argTypes := #[ty, ty'] }) (hx : S.opd x = iC k u) (hy : S.opd y = iC k v) :
    OpOk n P ops o (opdN x ++ opdN y) (iC k (if v < u then v else u)) [] S :=
  op_val hp fun C T g a w hA hR => by
    have h1 := raw_opd (x := x) hA (fun k h => by simp [h]) hR hx
    have h2 := raw_opd (x := y) hA (fun k h => by simp [h]) hR hy
    refine ⟨.int k (if v < u then v else u), ?_, rfl⟩
    simp only [execOp, ho, resolve, invoke, builtin, Sem.run_bind, Sem.run_pure, Result.andThen_ok, List.map_toArray, List.map_cons, List.map_nil, h1, h2, run_min_int2]
end Go.Proofs.YtoiaegbmbhgdpaaGreat
namespace Go.Proofs.YtoiaegbmbhgdpaaGreat
open Go.RowKit
instance : Und Tryz.prog 2 (.int .i64) := ⟨Tryz.underlying2⟩
instance : AggC Tryz.prog 2 false := ⟨_, Tryz.underlying2, rfl⟩
instance : Siz Tryz.prog 2 1 := ⟨by kernel_rfl⟩
instance : Zro Tryz.prog 2 (.int .i64 0) := ⟨by kernel_rfl⟩
instance : Und Tryz.prog 3 (.int .i64) := ⟨Tryz.underlying3⟩
instance : AggC Tryz.prog 3 false := ⟨_, Tryz.underlying3, rfl⟩
instance : Siz Tryz.prog 3 1 := ⟨by kernel_rfl⟩
instance : Zro Tryz.prog 3 (.int .i64 0) := ⟨by kernel_rfl⟩
instance : Und Tryz.prog 4 .bool := ⟨Tryz.underlying4⟩
instance : AggC Tryz.prog 4 false := ⟨_, Tryz.underlying4, rfl⟩
instance : Siz Tryz.prog 4 1 := ⟨by kernel_rfl⟩
instance : Zro Tryz.prog 4 (.bool false) := ⟨by kernel_rfl⟩
instance : Und Tryz.prog 5 (.int .u8) := ⟨Tryz.underlying5⟩
instance : AggC Tryz.prog 5 false := ⟨_, Tryz.underlying5, rfl⟩
instance : Siz Tryz.prog 5 1 := ⟨by kernel_rfl⟩
instance : Zro Tryz.prog 5 (.int .u8 0) := ⟨by kernel_rfl⟩
instance : AggC Tryz.prog 7 true := ⟨_, Tryz.underlying7, rfl⟩
instance : Siz Tryz.prog 7 4 := ⟨by kernel_rfl⟩
instance : Zro Tryz.prog 7 (.agg #[(.int .i64 0), (.int .i64 0), (.bool false), (.int .u8 0)]) := ⟨by kernel_rfl⟩
instance : Und Tryz.prog 9 .string := ⟨Tryz.underlying9⟩
instance : AggC Tryz.prog 9 false := ⟨_, Tryz.underlying9, rfl⟩
instance : Siz Tryz.prog 9 1 := ⟨by kernel_rfl⟩
instance : Zro Tryz.prog 9 (.string ⟨#[]⟩) := ⟨by kernel_rfl⟩
instance : Und Tryz.prog 12 (.int .u64) := ⟨Tryz.underlying12⟩
instance : AggC Tryz.prog 12 false := ⟨_, Tryz.underlying12, rfl⟩
instance : Siz Tryz.prog 12 1 := ⟨by kernel_rfl⟩
instance : Zro Tryz.prog 12 (.int .u64 0) := ⟨by kernel_rfl⟩
instance : AggC Tryz.prog 13 true := ⟨_, Tryz.underlying13, rfl⟩
instance : Siz Tryz.prog 13 2 := ⟨by kernel_rfl⟩
instance : Zro Tryz.prog 13 (.agg #[(.string ⟨#[]⟩), (.int .u64 0)]) := ⟨by kernel_rfl⟩
instance : Und Tryz.prog 15 (.pointer 331) := ⟨Tryz.underlying15⟩
instance : AggC Tryz.prog 15 false := ⟨_, Tryz.underlying15, rfl⟩
instance : Siz Tryz.prog 15 1 := ⟨by kernel_rfl⟩
instance : Zro Tryz.prog 15 (.pointer none) := ⟨by kernel_rfl⟩
instance : Und Tryz.prog 16 (.pointer 334) := ⟨Tryz.underlying16⟩
instance : AggC Tryz.prog 16 false := ⟨_, Tryz.underlying16, rfl⟩
instance : Siz Tryz.prog 16 1 := ⟨by kernel_rfl⟩
instance : Zro Tryz.prog 16 (.pointer none) := ⟨by kernel_rfl⟩
instance : Und Tryz.prog 17 (.pointer 342) := ⟨Tryz.underlying17⟩
instance : AggC Tryz.prog 17 false := ⟨_, Tryz.underlying17, rfl⟩
instance : Siz Tryz.prog 17 1 := ⟨by kernel_rfl⟩
instance : Zro Tryz.prog 17 (.pointer none) := ⟨by kernel_rfl⟩
instance : AggC Tryz.prog 18 true := ⟨_, Tryz.underlying18, rfl⟩
instance : Siz Tryz.prog 18 1 := ⟨by kernel_rfl⟩
instance : Zro Tryz.prog 18 (.agg #[(.pointer none)]) := ⟨by kernel_rfl⟩
instance : Und Tryz.prog 21 (.int .i32) := ⟨Tryz.underlying21⟩
instance : AggC Tryz.prog 21 false := ⟨_, Tryz.underlying21, rfl⟩
instance : Siz Tryz.prog 21 1 := ⟨by kernel_rfl⟩
instance : Zro Tryz.prog 21 (.int .i32 0) := ⟨by kernel_rfl⟩
instance : Und Tryz.prog 22 (.slice 26) := ⟨Tryz.underlying22⟩
instance : AggC Tryz.prog 22 false := ⟨_, Tryz.underlying22, rfl⟩
instance : Siz Tryz.prog 22 1 := ⟨by kernel_rfl⟩
instance : Zro Tryz.prog 22 (.slice none 0 0) := ⟨by kernel_rfl⟩
instance : TIc Tryz.prog 22 26 3 40 := ⟨TI.mk' Tryz.underlying22 (by kernel_rfl)⟩
instance : Und Tryz.prog 23 (.slice 158) := ⟨Tryz.underlying23⟩
instance : AggC Tryz.prog 23 false := ⟨_, Tryz.underlying23, rfl⟩
instance : Siz Tryz.prog 23 1 := ⟨by kernel_rfl⟩
instance : Zro Tryz.prog 23 (.slice none 0 0) := ⟨by kernel_rfl⟩
instance : TIc Tryz.prog 23 158 4 64 := ⟨TI.mk' Tryz.underlying23 (by kernel_rfl)⟩
instance : Und Tryz.prog 24 (.slice 5) := ⟨Tryz.underlying24⟩
instance : AggC Tryz.prog 24 false := ⟨_, Tryz.underlying24, rfl⟩
instance : Siz Tryz.prog 24 1 := ⟨by kernel_rfl⟩
instance : Zro Tryz.prog 24 (.slice none 0 0) := ⟨by kernel_rfl⟩
instance : TIc Tryz.prog 24 5 1 1 := ⟨TI.mk' Tryz.underlying24 (by kernel_rfl)⟩
instance : AggC Tryz.prog 25 true := ⟨_, Tryz.underlying25, rfl⟩
instance : Siz Tryz.prog 25 3 := ⟨by kernel_rfl⟩
instance : Zro Tryz.prog 25 (.agg #[(.string ⟨#[]⟩), (.string ⟨#[]⟩), (.bool false)]) := ⟨by kernel_rfl⟩
instance : FldC Tryz.prog 25 0 0 := ⟨Fld.mk' Tryz.underlying25 (by kernel_rfl)⟩
instance : FldC Tryz.prog 25 1 1 := ⟨Fld.mk' Tryz.underlying25 (by kernel_rfl)⟩
instance : FldC Tryz.prog 25 2 2 := ⟨Fld.mk' Tryz.underlying25 (by kernel_rfl)⟩
instance : PlsC Tryz.prog 25 [(0, 1), (1, 1), (2, 1)] := ⟨by kernel_rfl⟩
instance : AggC Tryz.prog 26 true := ⟨_, Tryz.underlying26, rfl⟩
instance : Siz Tryz.prog 26 3 := ⟨by kernel_rfl⟩
instance : Zro Tryz.prog 26 (.agg #[(.string ⟨#[]⟩), (.string ⟨#[]⟩), (.bool false)]) := ⟨by kernel_rfl⟩
instance : FldC Tryz.prog 26 0 0 := ⟨Fld.mk' Tryz.underlying26 (by kernel_rfl)⟩
instance : FldC Tryz.prog 26 1 1 := ⟨Fld.mk' Tryz.underlying26 (by kernel_rfl)⟩
instance : FldC Tryz.prog 26 2 2 := ⟨Fld.mk' Tryz.underlying26 (by kernel_rfl)⟩
instance : PlsC Tryz.prog 26 [(0, 1), (1, 1), (2, 1)] := ⟨by kernel_rfl⟩
instance : Und Tryz.prog 27 (.int .u64) := ⟨Tryz.underlying27⟩
instance : AggC Tryz.prog 27 false := ⟨_, Tryz.underlying27, rfl⟩
instance : Siz Tryz.prog 27 1 := ⟨by kernel_rfl⟩
instance : Zro Tryz.prog 27 (.int .u64 0) := ⟨by kernel_rfl⟩
instance : Und Tryz.prog 28 (.slice 136) := ⟨Tryz.underlying28⟩
instance : AggC Tryz.prog 28 false := ⟨_, Tryz.underlying28, rfl⟩
instance : Siz Tryz.prog 28 1 := ⟨by kernel_rfl⟩
instance : Zro Tryz.prog 28 (.slice none 0 0) := ⟨by kernel_rfl⟩
instance : TIc Tryz.prog 28 136 7 72 := ⟨TI.mk' Tryz.underlying28 (by kernel_rfl)⟩
instance : AggC Tryz.prog 29 true := ⟨_, Tryz.underlying29, rfl⟩
instance : Siz Tryz.prog 29 19 := ⟨by kernel_rfl⟩
instance : Zro Tryz.prog 29 (.agg #[(.int .i64 0), (.int .i64 0), (.int .i64 0), (.int .i64 0), (.int .i64 0), (.int .i64 0), (.int .i64 0), (.int .i64 0), (.bool false), (.bool false), (.bool false), (.slice none 0 0), (.slice none 0 0), (.slice none 0 0), (.string ⟨#[]⟩), (.string ⟨#[]⟩), (.bool false), (.int .u64 0), (.slice none 0 0)]) := ⟨by kernel_rfl⟩
instance : FldC Tryz.prog 29 0 0 := ⟨Fld.mk' Tryz.underlying29 (by kernel_rfl)⟩
instance : FldC Tryz.prog 29 1 1 := ⟨Fld.mk' Tryz.underlying29 (by kernel_rfl)⟩
instance : FldC Tryz.prog 29 2 2 := ⟨Fld.mk' Tryz.underlying29 (by kernel_rfl)⟩
instance : FldC Tryz.prog 29 3 3 := ⟨Fld.mk' Tryz.underlying29 (by kernel_rfl)⟩
instance : FldC Tryz.prog 29 4 4 := ⟨Fld.mk' Tryz.underlying29 (by kernel_rfl)⟩
instance : FldC Tryz.prog 29 5 5 := ⟨Fld.mk' Tryz.underlying29 (by kernel_rfl)⟩
instance : FldC Tryz.prog 29 6 6 := ⟨Fld.mk' Tryz.underlying29 (by kernel_rfl)⟩
instance : FldC Tryz.prog 29 7 7 := ⟨Fld.mk' Tryz.underlying29 (by kernel_rfl)⟩
instance : FldC Tryz.prog 29 8 8 := ⟨Fld.mk' Tryz.underlying29 (by kernel_rfl)⟩
instance : FldC Tryz.prog 29 9 9 := ⟨Fld.mk' Tryz.underlying29 (by kernel_rfl)⟩
instance : FldC Tryz.prog 29 10 10 := ⟨Fld.mk' Tryz.underlying29 (by kernel_rfl)⟩
instance : FldC Tryz.prog 29 11 11 := ⟨Fld.mk' Tryz.underlying29 (by kernel_rfl)⟩
instance : FldC Tryz.prog 29 12 12 := ⟨Fld.mk' Tryz.underlying29 (by kernel_rfl)⟩
instance : FldC Tryz.prog 29 13 13 := ⟨Fld.mk' Tryz.underlying29 (by kernel_rfl)⟩
instance : FldC Tryz.prog 29 14 14 := ⟨Fld.mk' Tryz.underlying29 (by kernel_rfl)⟩
instance : FldC Tryz.prog 29 15 17 := ⟨Fld.mk' Tryz.underlying29 (by kernel_rfl)⟩
instance : FldC Tryz.prog 29 16 18 := ⟨Fld.mk' Tryz.underlying29 (by kernel_rfl)⟩
instance : PlsC Tryz.prog 29 [(0, 1), (1, 1), (2, 1), (3, 1), (4, 1), (5, 1), (6, 1), (7, 1), (8, 1), (9, 1), (10, 1), (11, 1), (12, 1), (13, 1), (14, 3), (17, 1), (18, 1)] := ⟨by kernel_rfl⟩
instance : AggC Tryz.prog 30 true := ⟨_, Tryz.underlying30, rfl⟩
instance : Siz Tryz.prog 30 19 := ⟨by kernel_rfl⟩
instance : Zro Tryz.prog 30 (.agg #[(.int .i64 0), (.int .i64 0), (.int .i64 0), (.int .i64 0), (.int .i64 0), (.int .i64 0), (.int .i64 0), (.int .i64 0), (.bool false), (.bool false), (.bool false), (.slice none 0 0), (.slice none 0 0), (.slice none 0 0), (.string ⟨#[]⟩), (.string ⟨#[]⟩), (.bool false), (.int .u64 0), (.slice none 0 0)]) := ⟨by kernel_rfl⟩
instance : FldC Tryz.prog 30 0 0 := ⟨Fld.mk' Tryz.underlying30 (by kernel_rfl)⟩
instance : FldC Tryz.prog 30 1 1 := ⟨Fld.mk' Tryz.underlying30 (by kernel_rfl)⟩
instance : FldC Tryz.prog 30 2 2 := ⟨Fld.mk' Tryz.underlying30 (by kernel_rfl)⟩
instance : FldC Tryz.prog 30 3 3 := ⟨Fld.mk' Tryz.underlying30 (by kernel_rfl)⟩
instance : FldC Tryz.prog 30 4 4 := ⟨Fld.mk' Tryz.underlying30 (by kernel_rfl)⟩
instance : FldC Tryz.prog 30 5 5 := ⟨Fld.mk' Tryz.underlying30 (by kernel_rfl)⟩
instance : FldC Tryz.prog 30 6 6 := ⟨Fld.mk' Tryz.underlying30 (by kernel_rfl)⟩
instance : FldC Tryz.prog 30 7 7 := ⟨Fld.mk' Tryz.underlying30 (by kernel_rfl)⟩
instance : FldC Tryz.prog 30 8 8 := ⟨Fld.mk' Tryz.underlying30 (by kernel_rfl)⟩
instance : FldC Tryz.prog 30 9 9 := ⟨Fld.mk' Tryz.underlying30 (by kernel_rfl)⟩
instance : FldC Tryz.prog 30 10 10 := ⟨Fld.mk' Tryz.underlying30 (by kernel_rfl)⟩
instance : FldC Tryz.prog 30 11 11 := ⟨Fld.mk' Tryz.underlying30 (by kernel_rfl)⟩
instance : FldC Tryz.prog 30 12 12 := ⟨Fld.mk' Tryz.underlying30 (by kernel_rfl)⟩
instance : FldC Tryz.prog 30 13 13 := ⟨Fld.mk' Tryz.underlying30 (by kernel_rfl)⟩
instance : FldC Tryz.prog 30 14 14 := ⟨Fld.mk' Tryz.underlying30 (by kernel_rfl)⟩
instance : FldC Tryz.prog 30 15 17 := ⟨Fld.mk' Tryz.underlying30 (by kernel_rfl)⟩
instance : FldC Tryz.prog 30 16 18 := ⟨Fld.mk' Tryz.underlying30 (by kernel_rfl)⟩
instance : PlsC Tryz.prog 30 [(0, 1), (1, 1), (2, 1), (3, 1), (4, 1), (5, 1), (6, 1), (7, 1), (8, 1), (9, 1), (10, 1), (11, 1), (12, 1), (13, 1), (14, 3), (17, 1), (18, 1)] := ⟨by kernel_rfl⟩
instance : Und Tryz.prog 31 (.int .u16) := ⟨Tryz.underlying31⟩
instance : AggC Tryz.prog 31 false := ⟨_, Tryz.underlying31, rfl⟩
instance : Siz Tryz.prog 31 1 := ⟨by kernel_rfl⟩
instance : Zro Tryz.prog 31 (.int .u16 0) := ⟨by kernel_rfl⟩
instance : Und Tryz.prog 34 (.int .i64) := ⟨Tryz.underlying34⟩
instance : AggC Tryz.prog 34 false := ⟨_, Tryz.underlying34, rfl⟩
instance : Siz Tryz.prog 34 1 := ⟨by kernel_rfl⟩
instance : Zro Tryz.prog 34 (.int .i64 0) := ⟨by kernel_rfl⟩
instance : AggC Tryz.prog 37 true := ⟨_, Tryz.underlying37, rfl⟩
instance : Siz Tryz.prog 37 19 := ⟨by kernel_rfl⟩
instance : Zro Tryz.prog 37 (.agg #[(.int .i64 0), (.int .i64 0), (.int .i64 0), (.int .i64 0), (.int .i64 0), (.int .i64 0), (.int .i64 0), (.int .i64 0), (.bool false), (.bool false), (.bool false), (.slice none 0 0), (.slice none 0 0), (.slice none 0 0), (.string ⟨#[]⟩), (.string ⟨#[]⟩), (.bool false), (.int .u64 0), (.slice none 0 0)]) := ⟨by kernel_rfl⟩
instance : FldC Tryz.prog 37 0 0 := ⟨Fld.mk' Tryz.underlying37 (by kernel_rfl)⟩
instance : FldC Tryz.prog 37 1 1 := ⟨Fld.mk' Tryz.underlying37 (by kernel_rfl)⟩
instance : FldC Tryz.prog 37 2 2 := ⟨Fld.mk' Tryz.underlying37 (by kernel_rfl)⟩
instance : FldC Tryz.prog 37 3 3 := ⟨Fld.mk' Tryz.underlying37 (by kernel_rfl)⟩
instance : FldC Tryz.prog 37 4 4 := ⟨Fld.mk' Tryz.underlying37 (by kernel_rfl)⟩
instance : FldC Tryz.prog 37 5 5 := ⟨Fld.mk' Tryz.underlying37 (by kernel_rfl)⟩
instance : FldC Tryz.prog 37 6 6 := ⟨Fld.mk' Tryz.underlying37 (by kernel_rfl)⟩
instance : FldC Tryz.prog 37 7 7 := ⟨Fld.mk' Tryz.underlying37 (by kernel_rfl)⟩
instance : FldC Tryz.prog 37 8 8 := ⟨Fld.mk' Tryz.underlying37 (by kernel_rfl)⟩
instance : FldC Tryz.prog 37 9 9 := ⟨Fld.mk' Tryz.underlying37 (by kernel_rfl)⟩
instance : FldC Tryz.prog 37 10 10 := ⟨Fld.mk' Tryz.underlying37 (by kernel_rfl)⟩
instance : FldC Tryz.prog 37 11 11 := ⟨Fld.mk' Tryz.underlying37 (by kernel_rfl)⟩
instance : FldC Tryz.prog 37 12 12 := ⟨Fld.mk' Tryz.underlying37 (by kernel_rfl)⟩
instance : FldC Tryz.prog 37 13 13 := ⟨Fld.mk' Tryz.underlying37 (by kernel_rfl)⟩
instance : FldC Tryz.prog 37 14 14 := ⟨Fld.mk' Tryz.underlying37 (by kernel_rfl)⟩
instance : FldC Tryz.prog 37 15 17 := ⟨Fld.mk' Tryz.underlying37 (by kernel_rfl)⟩
instance : FldC Tryz.prog 37 16 18 := ⟨Fld.mk' Tryz.underlying37 (by kernel_rfl)⟩
instance : PlsC Tryz.prog 37 [(0, 1), (1, 1), (2, 1), (3, 1), (4, 1), (5, 1), (6, 1), (7, 1), (8, 1), (9, 1), (10, 1), (11, 1), (12, 1), (13, 1), (14, 3), (17, 1), (18, 1)] := ⟨by kernel_rfl⟩
instance : Und Tryz.prog 47 (.slice 24) := ⟨Tryz.underlying47⟩
instance : AggC Tryz.prog 47 false := ⟨_, Tryz.underlying47, rfl⟩
instance : Siz Tryz.prog 47 1 := ⟨by kernel_rfl⟩
instance : Zro Tryz.prog 47 (.slice none 0 0) := ⟨by kernel_rfl⟩
instance : TIc Tryz.prog 47 24 1 24 := ⟨TI.mk' Tryz.underlying47 (by kernel_rfl)⟩
instance : Und Tryz.prog 51 (.int .u32) := ⟨Tryz.underlying51⟩
instance : AggC Tryz.prog 51 false := ⟨_, Tryz.underlying51, rfl⟩
instance : Siz Tryz.prog 51 1 := ⟨by kernel_rfl⟩
instance : Zro Tryz.prog 51 (.int .u32 0) := ⟨by kernel_rfl⟩
instance : AggC Tryz.prog 53 true := ⟨_, Tryz.underlying53, rfl⟩
instance : Siz Tryz.prog 53 5 := ⟨by kernel_rfl⟩
instance : Zro Tryz.prog 53 (.agg #[(.int .i64 0), (.slice none 0 0), (.slice none 0 0), (.slice none 0 0), (.int .i64 0)]) := ⟨by kernel_rfl⟩
instance : FldC Tryz.prog 53 0 0 := ⟨Fld.mk' Tryz.underlying53 (by kernel_rfl)⟩
instance : FldC Tryz.prog 53 1 1 := ⟨Fld.mk' Tryz.underlying53 (by kernel_rfl)⟩
instance : FldC Tryz.prog 53 2 2 := ⟨Fld.mk' Tryz.underlying53 (by kernel_rfl)⟩
instance : FldC Tryz.prog 53 3 3 := ⟨Fld.mk' Tryz.underlying53 (by kernel_rfl)⟩
instance : FldC Tryz.prog 53 4 4 := ⟨Fld.mk' Tryz.underlying53 (by kernel_rfl)⟩
instance : PlsC Tryz.prog 53 [(0, 1), (1, 1), (2, 1), (3, 1), (4, 1)] := ⟨by kernel_rfl⟩
instance : AggC Tryz.prog 54 true := ⟨_, Tryz.underlying54, rfl⟩
instance : Siz Tryz.prog 54 5 := ⟨by kernel_rfl⟩
instance : Zro Tryz.prog 54 (.agg #[(.int .i64 0), (.slice none 0 0), (.slice none 0 0), (.slice none 0 0), (.int .i64 0)]) := ⟨by kernel_rfl⟩
instance : FldC Tryz.prog 54 0 0 := ⟨Fld.mk' Tryz.underlying54 (by kernel_rfl)⟩
instance : FldC Tryz.prog 54 1 1 := ⟨Fld.mk' Tryz.underlying54 (by kernel_rfl)⟩
instance : FldC Tryz.prog 54 2 2 := ⟨Fld.mk' Tryz.underlying54 (by kernel_rfl)⟩
instance : FldC Tryz.prog 54 3 3 := ⟨Fld.mk' Tryz.underlying54 (by kernel_rfl)⟩
instance : FldC Tryz.prog 54 4 4 := ⟨Fld.mk' Tryz.underlying54 (by kernel_rfl)⟩
instance : PlsC Tryz.prog 54 [(0, 1), (1, 1), (2, 1), (3, 1), (4, 1)] := ⟨by kernel_rfl⟩
instance : AggC Tryz.prog 61 true := ⟨_, Tryz.underlying61, rfl⟩
instance : Siz Tryz.prog 61 14 := ⟨by kernel_rfl⟩
instance : Zro Tryz.prog 61 (.agg #[(.int .i64 0), (.int .i64 0), (.slice none 0 0), (.slice none 0 0), (.slice none 0 0), (.int .i64 0), (.string ⟨#[]⟩), (.int .i64 0), (.string ⟨#[]⟩), (.int .i64 0), (.int .i64 0), (.int .i64 0), (.slice none 0 0), (.slice none 0 0)]) := ⟨by kernel_rfl⟩
instance : FldC Tryz.prog 61 0 0 := ⟨Fld.mk' Tryz.underlying61 (by kernel_rfl)⟩
instance : FldC Tryz.prog 61 1 1 := ⟨Fld.mk' Tryz.underlying61 (by kernel_rfl)⟩
instance : FldC Tryz.prog 61 2 6 := ⟨Fld.mk' Tryz.underlying61 (by kernel_rfl)⟩
instance : FldC Tryz.prog 61 3 7 := ⟨Fld.mk' Tryz.underlying61 (by kernel_rfl)⟩
instance : FldC Tryz.prog 61 4 8 := ⟨Fld.mk' Tryz.underlying61 (by kernel_rfl)⟩
instance : FldC Tryz.prog 61 5 9 := ⟨Fld.mk' Tryz.underlying61 (by kernel_rfl)⟩
instance : FldC Tryz.prog 61 6 10 := ⟨Fld.mk' Tryz.underlying61 (by kernel_rfl)⟩
instance : FldC Tryz.prog 61 7 11 := ⟨Fld.mk' Tryz.underlying61 (by kernel_rfl)⟩
instance : FldC Tryz.prog 61 8 12 := ⟨Fld.mk' Tryz.underlying61 (by kernel_rfl)⟩
instance : FldC Tryz.prog 61 9 13 := ⟨Fld.mk' Tryz.underlying61 (by kernel_rfl)⟩
instance : PlsC Tryz.prog 61 [(0, 1), (1, 5), (6, 1), (7, 1), (8, 1), (9, 1), (10, 1), (11, 1), (12, 1), (13, 1)] := ⟨by kernel_rfl⟩
instance : AggC Tryz.prog 62 true := ⟨_, Tryz.underlying62, rfl⟩
instance : Siz Tryz.prog 62 14 := ⟨by kernel_rfl⟩
instance : Zro Tryz.prog 62 (.agg #[(.int .i64 0), (.int .i64 0), (.slice none 0 0), (.slice none 0 0), (.slice none 0 0), (.int .i64 0), (.string ⟨#[]⟩), (.int .i64 0), (.string ⟨#[]⟩), (.int .i64 0), (.int .i64 0), (.int .i64 0), (.slice none 0 0), (.slice none 0 0)]) := ⟨by kernel_rfl⟩
instance : FldC Tryz.prog 62 0 0 := ⟨Fld.mk' Tryz.underlying62 (by kernel_rfl)⟩
instance : FldC Tryz.prog 62 1 1 := ⟨Fld.mk' Tryz.underlying62 (by kernel_rfl)⟩
instance : FldC Tryz.prog 62 2 6 := ⟨Fld.mk' Tryz.underlying62 (by kernel_rfl)⟩
instance : FldC Tryz.prog 62 3 7 := ⟨Fld.mk' Tryz.underlying62 (by kernel_rfl)⟩
instance : FldC Tryz.prog 62 4 8 := ⟨Fld.mk' Tryz.underlying62 (by kernel_rfl)⟩
instance : FldC Tryz.prog 62 5 9 := ⟨Fld.mk' Tryz.underlying62 (by kernel_rfl)⟩
instance : FldC Tryz.prog 62 6 10 := ⟨Fld.mk' Tryz.underlying62 (by kernel_rfl)⟩
instance : FldC Tryz.prog 62 7 11 := ⟨Fld.mk' Tryz.underlying62 (by kernel_rfl)⟩
instance : FldC Tryz.prog 62 8 12 := ⟨Fld.mk' Tryz.underlying62 (by kernel_rfl)⟩
instance : FldC Tryz.prog 62 9 13 := ⟨Fld.mk' Tryz.underlying62 (by kernel_rfl)⟩
instance : PlsC Tryz.prog 62 [(0, 1), (1, 5), (6, 1), (7, 1), (8, 1), (9, 1), (10, 1), (11, 1), (12, 1), (13, 1)] := ⟨by kernel_rfl⟩
instance : AggC Tryz.prog 65 true := ⟨_, Tryz.underlying65, rfl⟩
instance : Siz Tryz.prog 65 14 := ⟨by kernel_rfl⟩
instance : Zro Tryz.prog 65 (.agg #[(.int .i64 0), (.int .i64 0), (.slice none 0 0), (.slice none 0 0), (.slice none 0 0), (.int .i64 0), (.string ⟨#[]⟩), (.int .i64 0), (.string ⟨#[]⟩), (.int .i64 0), (.int .i64 0), (.int .i64 0), (.slice none 0 0), (.slice none 0 0)]) := ⟨by kernel_rfl⟩
instance : FldC Tryz.prog 65 0 0 := ⟨Fld.mk' Tryz.underlying65 (by kernel_rfl)⟩
instance : FldC Tryz.prog 65 1 1 := ⟨Fld.mk' Tryz.underlying65 (by kernel_rfl)⟩
instance : FldC Tryz.prog 65 2 6 := ⟨Fld.mk' Tryz.underlying65 (by kernel_rfl)⟩
instance : FldC Tryz.prog 65 3 7 := ⟨Fld.mk' Tryz.underlying65 (by kernel_rfl)⟩
instance : FldC Tryz.prog 65 4 8 := ⟨Fld.mk' Tryz.underlying65 (by kernel_rfl)⟩
instance : FldC Tryz.prog 65 5 9 := ⟨Fld.mk' Tryz.underlying65 (by kernel_rfl)⟩
instance : FldC Tryz.prog 65 6 10 := ⟨Fld.mk' Tryz.underlying65 (by kernel_rfl)⟩
instance : FldC Tryz.prog 65 7 11 := ⟨Fld.mk' Tryz.underlying65 (by kernel_rfl)⟩
instance : FldC Tryz.prog 65 8 12 := ⟨Fld.mk' Tryz.underlying65 (by kernel_rfl)⟩
instance : FldC Tryz.prog 65 9 13 := ⟨Fld.mk' Tryz.underlying65 (by kernel_rfl)⟩
instance : PlsC Tryz.prog 65 [(0, 1), (1, 5), (6, 1), (7, 1), (8, 1), (9, 1), (10, 1), (11, 1), (12, 1), (13, 1)] := ⟨by kernel_rfl⟩
instance : Und Tryz.prog 79 (.slice 3) := ⟨Tryz.underlying79⟩
instance : AggC Tryz.prog 79 false := ⟨_, Tryz.underlying79, rfl⟩
instance : Siz Tryz.prog 79 1 := ⟨by kernel_rfl⟩
instance : Zro Tryz.prog 79 (.slice none 0 0) := ⟨by kernel_rfl⟩
instance : TIc Tryz.prog 79 3 1 8 := ⟨TI.mk' Tryz.underlying79 (by kernel_rfl)⟩
instance : Und Tryz.prog 88 (.pointer 177) := ⟨Tryz.underlying88⟩
instance : AggC Tryz.prog 88 false := ⟨_, Tryz.underlying88, rfl⟩
instance : Siz Tryz.prog 88 1 := ⟨by kernel_rfl⟩
instance : Zro Tryz.prog 88 (.pointer none) := ⟨by kernel_rfl⟩
instance : AggC Tryz.prog 90 true := ⟨_, Tryz.underlying90, rfl⟩
instance : Siz Tryz.prog 90 1 := ⟨by kernel_rfl⟩
instance : Zro Tryz.prog 90 (.agg #[(.pointer none)]) := ⟨by kernel_rfl⟩
instance : FldC Tryz.prog 90 0 0 := ⟨Fld.mk' Tryz.underlying90 (by kernel_rfl)⟩
instance : PlsC Tryz.prog 90 [(0, 1)] := ⟨by kernel_rfl⟩
instance : AggC Tryz.prog 91 true := ⟨_, Tryz.underlying91, rfl⟩
instance : Siz Tryz.prog 91 1 := ⟨by kernel_rfl⟩
instance : Zro Tryz.prog 91 (.agg #[(.pointer none)]) := ⟨by kernel_rfl⟩
instance : FldC Tryz.prog 91 0 0 := ⟨Fld.mk' Tryz.underlying91 (by kernel_rfl)⟩
instance : PlsC Tryz.prog 91 [(0, 1)] := ⟨by kernel_rfl⟩
instance : Und Tryz.prog 96 (.pointer 37) := ⟨Tryz.underlying96⟩
instance : AggC Tryz.prog 96 false := ⟨_, Tryz.underlying96, rfl⟩
instance : Siz Tryz.prog 96 1 := ⟨by kernel_rfl⟩
instance : Zro Tryz.prog 96 (.pointer none) := ⟨by kernel_rfl⟩
instance : Und Tryz.prog 104 (.pointer 106) := ⟨Tryz.underlying104⟩
instance : AggC Tryz.prog 104 false := ⟨_, Tryz.underlying104, rfl⟩
instance : Siz Tryz.prog 104 1 := ⟨by kernel_rfl⟩
instance : Zro Tryz.prog 104 (.pointer none) := ⟨by kernel_rfl⟩
instance : AggC Tryz.prog 105 true := ⟨_, Tryz.underlying105, rfl⟩
instance : Siz Tryz.prog 105 3 := ⟨by kernel_rfl⟩
instance : Zro Tryz.prog 105 (.agg #[(.slice none 0 0), (.int .i64 0), (.int .i64 0)]) := ⟨by kernel_rfl⟩
instance : FldC Tryz.prog 105 0 0 := ⟨Fld.mk' Tryz.underlying105 (by kernel_rfl)⟩
instance : FldC Tryz.prog 105 1 1 := ⟨Fld.mk' Tryz.underlying105 (by kernel_rfl)⟩
instance : FldC Tryz.prog 105 2 2 := ⟨Fld.mk' Tryz.underlying105 (by kernel_rfl)⟩
instance : PlsC Tryz.prog 105 [(0, 1), (1, 1), (2, 1)] := ⟨by kernel_rfl⟩
instance : AggC Tryz.prog 106 true := ⟨_, Tryz.underlying106, rfl⟩
instance : Siz Tryz.prog 106 3 := ⟨by kernel_rfl⟩
instance : Zro Tryz.prog 106 (.agg #[(.slice none 0 0), (.int .i64 0), (.int .i64 0)]) := ⟨by kernel_rfl⟩
instance : FldC Tryz.prog 106 0 0 := ⟨Fld.mk' Tryz.underlying106 (by kernel_rfl)⟩
instance : FldC Tryz.prog 106 1 1 := ⟨Fld.mk' Tryz.underlying106 (by kernel_rfl)⟩
instance : FldC Tryz.prog 106 2 2 := ⟨Fld.mk' Tryz.underlying106 (by kernel_rfl)⟩
instance : PlsC Tryz.prog 106 [(0, 1), (1, 1), (2, 1)] := ⟨by kernel_rfl⟩
instance : Und Tryz.prog 117 (.slice 4) := ⟨Tryz.underlying117⟩
instance : AggC Tryz.prog 117 false := ⟨_, Tryz.underlying117, rfl⟩
instance : Siz Tryz.prog 117 1 := ⟨by kernel_rfl⟩
instance : Zro Tryz.prog 117 (.slice none 0 0) := ⟨by kernel_rfl⟩
instance : TIc Tryz.prog 117 4 1 1 := ⟨TI.mk' Tryz.underlying117 (by kernel_rfl)⟩
instance : AggC Tryz.prog 118 true := ⟨_, Tryz.underlying118, rfl⟩
instance : Siz Tryz.prog 118 3 := ⟨by kernel_rfl⟩
instance : Zro Tryz.prog 118 (.agg #[(.slice none 0 0), (.int .i64 0), (.int .u64 0)]) := ⟨by kernel_rfl⟩
instance : FldC Tryz.prog 118 0 0 := ⟨Fld.mk' Tryz.underlying118 (by kernel_rfl)⟩
instance : FldC Tryz.prog 118 1 1 := ⟨Fld.mk' Tryz.underlying118 (by kernel_rfl)⟩
instance : FldC Tryz.prog 118 2 2 := ⟨Fld.mk' Tryz.underlying118 (by kernel_rfl)⟩
instance : PlsC Tryz.prog 118 [(0, 1), (1, 1), (2, 1)] := ⟨by kernel_rfl⟩
instance : AggC Tryz.prog 119 true := ⟨_, Tryz.underlying119, rfl⟩
instance : Siz Tryz.prog 119 3 := ⟨by kernel_rfl⟩
instance : Zro Tryz.prog 119 (.agg #[(.slice none 0 0), (.int .i64 0), (.int .u64 0)]) := ⟨by kernel_rfl⟩
instance : FldC Tryz.prog 119 0 0 := ⟨Fld.mk' Tryz.underlying119 (by kernel_rfl)⟩
instance : FldC Tryz.prog 119 1 1 := ⟨Fld.mk' Tryz.underlying119 (by kernel_rfl)⟩
instance : FldC Tryz.prog 119 2 2 := ⟨Fld.mk' Tryz.underlying119 (by kernel_rfl)⟩
instance : PlsC Tryz.prog 119 [(0, 1), (1, 1), (2, 1)] := ⟨by kernel_rfl⟩
instance : AggC Tryz.prog 126 true := ⟨_, Tryz.underlying126, rfl⟩
instance : Siz Tryz.prog 126 3 := ⟨by kernel_rfl⟩
instance : Zro Tryz.prog 126 (.agg #[(.slice none 0 0), (.slice none 0 0), (.slice none 0 0)]) := ⟨by kernel_rfl⟩
instance : FldC Tryz.prog 126 0 0 := ⟨Fld.mk' Tryz.underlying126 (by kernel_rfl)⟩
instance : FldC Tryz.prog 126 1 1 := ⟨Fld.mk' Tryz.underlying126 (by kernel_rfl)⟩
instance : FldC Tryz.prog 126 2 2 := ⟨Fld.mk' Tryz.underlying126 (by kernel_rfl)⟩
instance : PlsC Tryz.prog 126 [(0, 1), (1, 1), (2, 1)] := ⟨by kernel_rfl⟩
instance : AggC Tryz.prog 127 true := ⟨_, Tryz.underlying127, rfl⟩
instance : Siz Tryz.prog 127 3 := ⟨by kernel_rfl⟩
instance : Zro Tryz.prog 127 (.agg #[(.slice none 0 0), (.slice none 0 0), (.slice none 0 0)]) := ⟨by kernel_rfl⟩
instance : FldC Tryz.prog 127 0 0 := ⟨Fld.mk' Tryz.underlying127 (by kernel_rfl)⟩
instance : FldC Tryz.prog 127 1 1 := ⟨Fld.mk' Tryz.underlying127 (by kernel_rfl)⟩
instance : FldC Tryz.prog 127 2 2 := ⟨Fld.mk' Tryz.underlying127 (by kernel_rfl)⟩
instance : PlsC Tryz.prog 127 [(0, 1), (1, 1), (2, 1)] := ⟨by kernel_rfl⟩
instance : AggC Tryz.prog 133 true := ⟨_, Tryz.underlying133, rfl⟩
instance : Siz Tryz.prog 133 2 := ⟨by kernel_rfl⟩
instance : Zro Tryz.prog 133 (.agg #[(.int .i64 0), (.int .i64 0)]) := ⟨by kernel_rfl⟩
instance : FldC Tryz.prog 133 0 0 := ⟨Fld.mk' Tryz.underlying133 (by kernel_rfl)⟩
instance : FldC Tryz.prog 133 1 1 := ⟨Fld.mk' Tryz.underlying133 (by kernel_rfl)⟩
instance : PlsC Tryz.prog 133 [(0, 1), (1, 1)] := ⟨by kernel_rfl⟩
instance : AggC Tryz.prog 134 true := ⟨_, Tryz.underlying134, rfl⟩
instance : Siz Tryz.prog 134 2 := ⟨by kernel_rfl⟩
instance : Zro Tryz.prog 134 (.agg #[(.int .i64 0), (.int .i64 0)]) := ⟨by kernel_rfl⟩
instance : FldC Tryz.prog 134 0 0 := ⟨Fld.mk' Tryz.underlying134 (by kernel_rfl)⟩
instance : FldC Tryz.prog 134 1 1 := ⟨Fld.mk' Tryz.underlying134 (by kernel_rfl)⟩
instance : PlsC Tryz.prog 134 [(0, 1), (1, 1)] := ⟨by kernel_rfl⟩
instance : AggC Tryz.prog 135 true := ⟨_, Tryz.underlying135, rfl⟩
instance : Siz Tryz.prog 135 7 := ⟨by kernel_rfl⟩
instance : Zro Tryz.prog 135 (.agg #[(.string ⟨#[]⟩), (.int .i64 0), (.int .i64 0), (.int .i64 0), (.int .i64 0), (.bool false), (.string ⟨#[]⟩)]) := ⟨by kernel_rfl⟩
instance : FldC Tryz.prog 135 0 0 := ⟨Fld.mk' Tryz.underlying135 (by kernel_rfl)⟩
instance : FldC Tryz.prog 135 1 1 := ⟨Fld.mk' Tryz.underlying135 (by kernel_rfl)⟩
instance : FldC Tryz.prog 135 2 3 := ⟨Fld.mk' Tryz.underlying135 (by kernel_rfl)⟩
instance : FldC Tryz.prog 135 3 4 := ⟨Fld.mk' Tryz.underlying135 (by kernel_rfl)⟩
instance : FldC Tryz.prog 135 4 5 := ⟨Fld.mk' Tryz.underlying135 (by kernel_rfl)⟩
instance : FldC Tryz.prog 135 5 6 := ⟨Fld.mk' Tryz.underlying135 (by kernel_rfl)⟩
instance : PlsC Tryz.prog 135 [(0, 1), (1, 2), (3, 1), (4, 1), (5, 1), (6, 1)] := ⟨by kernel_rfl⟩
instance : AggC Tryz.prog 136 true := ⟨_, Tryz.underlying136, rfl⟩
instance : Siz Tryz.prog 136 7 := ⟨by kernel_rfl⟩
instance : Zro Tryz.prog 136 (.agg #[(.string ⟨#[]⟩), (.int .i64 0), (.int .i64 0), (.int .i64 0), (.int .i64 0), (.bool false), (.string ⟨#[]⟩)]) := ⟨by kernel_rfl⟩
instance : FldC Tryz.prog 136 0 0 := ⟨Fld.mk' Tryz.underlying136 (by kernel_rfl)⟩
instance : FldC Tryz.prog 136 1 1 := ⟨Fld.mk' Tryz.underlying136 (by kernel_rfl)⟩
instance : FldC Tryz.prog 136 2 3 := ⟨Fld.mk' Tryz.underlying136 (by kernel_rfl)⟩
instance : FldC Tryz.prog 136 3 4 := ⟨Fld.mk' Tryz.underlying136 (by kernel_rfl)⟩
instance : FldC Tryz.prog 136 4 5 := ⟨Fld.mk' Tryz.underlying136 (by kernel_rfl)⟩
instance : FldC Tryz.prog 136 5 6 := ⟨Fld.mk' Tryz.underlying136 (by kernel_rfl)⟩
instance : PlsC Tryz.prog 136 [(0, 1), (1, 2), (3, 1), (4, 1), (5, 1), (6, 1)] := ⟨by kernel_rfl⟩
instance : AggC Tryz.prog 139 true := ⟨_, Tryz.underlying139, rfl⟩
instance : Siz Tryz.prog 139 1 := ⟨by kernel_rfl⟩
instance : Zro Tryz.prog 139 (.agg #[(.pointer none)]) := ⟨by kernel_rfl⟩
instance : FldC Tryz.prog 139 0 0 := ⟨Fld.mk' Tryz.underlying139 (by kernel_rfl)⟩
instance : PlsC Tryz.prog 139 [(0, 1)] := ⟨by kernel_rfl⟩
instance : Und Tryz.prog 156 (.slice 195) := ⟨Tryz.underlying156⟩
instance : AggC Tryz.prog 156 false := ⟨_, Tryz.underlying156, rfl⟩
instance : Siz Tryz.prog 156 1 := ⟨by kernel_rfl⟩
instance : Zro Tryz.prog 156 (.slice none 0 0) := ⟨by kernel_rfl⟩
instance : TIc Tryz.prog 156 195 2 32 := ⟨TI.mk' Tryz.underlying156 (by kernel_rfl)⟩
instance : AggC Tryz.prog 157 true := ⟨_, Tryz.underlying157, rfl⟩
instance : Siz Tryz.prog 157 4 := ⟨by kernel_rfl⟩
instance : Zro Tryz.prog 157 (.agg #[(.string ⟨#[]⟩), (.string ⟨#[]⟩), (.bool false), (.slice none 0 0)]) := ⟨by kernel_rfl⟩
instance : FldC Tryz.prog 157 0 0 := ⟨Fld.mk' Tryz.underlying157 (by kernel_rfl)⟩
instance : FldC Tryz.prog 157 1 3 := ⟨Fld.mk' Tryz.underlying157 (by kernel_rfl)⟩
instance : PlsC Tryz.prog 157 [(0, 3), (3, 1)] := ⟨by kernel_rfl⟩
instance : AggC Tryz.prog 158 true := ⟨_, Tryz.underlying158, rfl⟩
instance : Siz Tryz.prog 158 4 := ⟨by kernel_rfl⟩
instance : Zro Tryz.prog 158 (.agg #[(.string ⟨#[]⟩), (.string ⟨#[]⟩), (.bool false), (.slice none 0 0)]) := ⟨by kernel_rfl⟩
instance : FldC Tryz.prog 158 0 0 := ⟨Fld.mk' Tryz.underlying158 (by kernel_rfl)⟩
instance : FldC Tryz.prog 158 1 3 := ⟨Fld.mk' Tryz.underlying158 (by kernel_rfl)⟩
instance : PlsC Tryz.prog 158 [(0, 3), (3, 1)] := ⟨by kernel_rfl⟩
instance : Und Tryz.prog 166 (.pointer 219) := ⟨Tryz.underlying166⟩
instance : AggC Tryz.prog 166 false := ⟨_, Tryz.underlying166, rfl⟩
instance : Siz Tryz.prog 166 1 := ⟨by kernel_rfl⟩
instance : Zro Tryz.prog 166 (.pointer none) := ⟨by kernel_rfl⟩
instance : AggC Tryz.prog 174 true := ⟨_, Tryz.underlying174, rfl⟩
instance : Siz Tryz.prog 174 2 := ⟨by kernel_rfl⟩
instance : Zro Tryz.prog 174 (.agg #[(.slice none 0 0), (.int .i64 0)]) := ⟨by kernel_rfl⟩
instance : FldC Tryz.prog 174 0 0 := ⟨Fld.mk' Tryz.underlying174 (by kernel_rfl)⟩
instance : FldC Tryz.prog 174 1 1 := ⟨Fld.mk' Tryz.underlying174 (by kernel_rfl)⟩
instance : PlsC Tryz.prog 174 [(0, 1), (1, 1)] := ⟨by kernel_rfl⟩
instance : AggC Tryz.prog 175 true := ⟨_, Tryz.underlying175, rfl⟩
instance : Siz Tryz.prog 175 2 := ⟨by kernel_rfl⟩
instance : Zro Tryz.prog 175 (.agg #[(.slice none 0 0), (.int .i64 0)]) := ⟨by kernel_rfl⟩
instance : FldC Tryz.prog 175 0 0 := ⟨Fld.mk' Tryz.underlying175 (by kernel_rfl)⟩
instance : FldC Tryz.prog 175 1 1 := ⟨Fld.mk' Tryz.underlying175 (by kernel_rfl)⟩
instance : PlsC Tryz.prog 175 [(0, 1), (1, 1)] := ⟨by kernel_rfl⟩
instance : AggC Tryz.prog 176 true := ⟨_, Tryz.underlying176, rfl⟩
instance : Siz Tryz.prog 176 2 := ⟨by kernel_rfl⟩
instance : Zro Tryz.prog 176 (.agg #[(.slice none 0 0), (.int .i64 0)]) := ⟨by kernel_rfl⟩
instance : FldC Tryz.prog 176 0 0 := ⟨Fld.mk' Tryz.underlying176 (by kernel_rfl)⟩
instance : PlsC Tryz.prog 176 [(0, 2)] := ⟨by kernel_rfl⟩
instance : AggC Tryz.prog 177 true := ⟨_, Tryz.underlying177, rfl⟩
instance : Siz Tryz.prog 177 2 := ⟨by kernel_rfl⟩
instance : Zro Tryz.prog 177 (.agg #[(.slice none 0 0), (.int .i64 0)]) := ⟨by kernel_rfl⟩
instance : FldC Tryz.prog 177 0 0 := ⟨Fld.mk' Tryz.underlying177 (by kernel_rfl)⟩
instance : PlsC Tryz.prog 177 [(0, 2)] := ⟨by kernel_rfl⟩
instance : Und Tryz.prog 190 (.slice 130) := ⟨Tryz.underlying190⟩
instance : AggC Tryz.prog 190 false := ⟨_, Tryz.underlying190, rfl⟩
instance : Siz Tryz.prog 190 1 := ⟨by kernel_rfl⟩
instance : Zro Tryz.prog 190 (.slice none 0 0) := ⟨by kernel_rfl⟩
instance : TIc Tryz.prog 190 130 1 8 := ⟨TI.mk' Tryz.underlying190 (by kernel_rfl)⟩
instance : Und Tryz.prog 193 (.slice 197) := ⟨Tryz.underlying193⟩
instance : AggC Tryz.prog 193 false := ⟨_, Tryz.underlying193, rfl⟩
instance : Siz Tryz.prog 193 1 := ⟨by kernel_rfl⟩
instance : Zro Tryz.prog 193 (.slice none 0 0) := ⟨by kernel_rfl⟩
instance : TIc Tryz.prog 193 197 2 16 := ⟨TI.mk' Tryz.underlying193 (by kernel_rfl)⟩
instance : AggC Tryz.prog 194 true := ⟨_, Tryz.underlying194, rfl⟩
instance : Siz Tryz.prog 194 2 := ⟨by kernel_rfl⟩
instance : Zro Tryz.prog 194 (.agg #[(.int .i64 0), (.slice none 0 0)]) := ⟨by kernel_rfl⟩
instance : FldC Tryz.prog 194 0 0 := ⟨Fld.mk' Tryz.underlying194 (by kernel_rfl)⟩
instance : FldC Tryz.prog 194 1 1 := ⟨Fld.mk' Tryz.underlying194 (by kernel_rfl)⟩
instance : PlsC Tryz.prog 194 [(0, 1), (1, 1)] := ⟨by kernel_rfl⟩
instance : AggC Tryz.prog 195 true := ⟨_, Tryz.underlying195, rfl⟩
instance : Siz Tryz.prog 195 2 := ⟨by kernel_rfl⟩
instance : Zro Tryz.prog 195 (.agg #[(.int .i64 0), (.slice none 0 0)]) := ⟨by kernel_rfl⟩
instance : FldC Tryz.prog 195 0 0 := ⟨Fld.mk' Tryz.underlying195 (by kernel_rfl)⟩
instance : FldC Tryz.prog 195 1 1 := ⟨Fld.mk' Tryz.underlying195 (by kernel_rfl)⟩
instance : PlsC Tryz.prog 195 [(0, 1), (1, 1)] := ⟨by kernel_rfl⟩
instance : AggC Tryz.prog 196 true := ⟨_, Tryz.underlying196, rfl⟩
instance : Siz Tryz.prog 196 2 := ⟨by kernel_rfl⟩
instance : Zro Tryz.prog 196 (.agg #[(.int .i64 0), (.int .i64 0)]) := ⟨by kernel_rfl⟩
instance : FldC Tryz.prog 196 0 0 := ⟨Fld.mk' Tryz.underlying196 (by kernel_rfl)⟩
instance : FldC Tryz.prog 196 1 1 := ⟨Fld.mk' Tryz.underlying196 (by kernel_rfl)⟩
instance : PlsC Tryz.prog 196 [(0, 1), (1, 1)] := ⟨by kernel_rfl⟩
instance : AggC Tryz.prog 197 true := ⟨_, Tryz.underlying197, rfl⟩
instance : Siz Tryz.prog 197 2 := ⟨by kernel_rfl⟩
instance : Zro Tryz.prog 197 (.agg #[(.int .i64 0), (.int .i64 0)]) := ⟨by kernel_rfl⟩
instance : FldC Tryz.prog 197 0 0 := ⟨Fld.mk' Tryz.underlying197 (by kernel_rfl)⟩
instance : FldC Tryz.prog 197 1 1 := ⟨Fld.mk' Tryz.underlying197 (by kernel_rfl)⟩
instance : PlsC Tryz.prog 197 [(0, 1), (1, 1)] := ⟨by kernel_rfl⟩
instance : AggC Tryz.prog 202 true := ⟨_, Tryz.underlying202, rfl⟩
instance : Siz Tryz.prog 202 1 := ⟨by kernel_rfl⟩
instance : Zro Tryz.prog 202 (.agg #[(.pointer none)]) := ⟨by kernel_rfl⟩
instance : FldC Tryz.prog 202 0 0 := ⟨Fld.mk' Tryz.underlying202 (by kernel_rfl)⟩
instance : PlsC Tryz.prog 202 [(0, 1)] := ⟨by kernel_rfl⟩
instance : AggC Tryz.prog 206 true := ⟨_, Tryz.underlying206, rfl⟩
instance : Siz Tryz.prog 206 1 := ⟨by kernel_rfl⟩
instance : Zro Tryz.prog 206 (.agg #[(.pointer none)]) := ⟨by kernel_rfl⟩
instance : FldC Tryz.prog 206 0 0 := ⟨Fld.mk' Tryz.underlying206 (by kernel_rfl)⟩
instance : PlsC Tryz.prog 206 [(0, 1)] := ⟨by kernel_rfl⟩
instance : AggC Tryz.prog 209 true := ⟨_, Tryz.underlying209, rfl⟩
instance : Siz Tryz.prog 209 1 := ⟨by kernel_rfl⟩
instance : Zro Tryz.prog 209 (.agg #[(.pointer none)]) := ⟨by kernel_rfl⟩
instance : FldC Tryz.prog 209 0 0 := ⟨Fld.mk' Tryz.underlying209 (by kernel_rfl)⟩
instance : PlsC Tryz.prog 209 [(0, 1)] := ⟨by kernel_rfl⟩
instance : Und Tryz.prog 214 (.slice 9) := ⟨Tryz.underlying214⟩
instance : AggC Tryz.prog 214 false := ⟨_, Tryz.underlying214, rfl⟩
instance : Siz Tryz.prog 214 1 := ⟨by kernel_rfl⟩
instance : Zro Tryz.prog 214 (.slice none 0 0) := ⟨by kernel_rfl⟩
instance : TIc Tryz.prog 214 9 1 16 := ⟨TI.mk' Tryz.underlying214 (by kernel_rfl)⟩
instance : AggC Tryz.prog 218 true := ⟨_, Tryz.underlying218, rfl⟩
instance : Siz Tryz.prog 218 4 := ⟨by kernel_rfl⟩
instance : Zro Tryz.prog 218 (.agg #[(.int .i64 0), (.int .i64 0), (.int .u64 0), (.slice none 0 0)]) := ⟨by kernel_rfl⟩
instance : FldC Tryz.prog 218 0 0 := ⟨Fld.mk' Tryz.underlying218 (by kernel_rfl)⟩
instance : FldC Tryz.prog 218 1 1 := ⟨Fld.mk' Tryz.underlying218 (by kernel_rfl)⟩
instance : FldC Tryz.prog 218 2 2 := ⟨Fld.mk' Tryz.underlying218 (by kernel_rfl)⟩
instance : FldC Tryz.prog 218 3 3 := ⟨Fld.mk' Tryz.underlying218 (by kernel_rfl)⟩
instance : PlsC Tryz.prog 218 [(0, 1), (1, 1), (2, 1), (3, 1)] := ⟨by kernel_rfl⟩
instance : AggC Tryz.prog 219 true := ⟨_, Tryz.underlying219, rfl⟩
instance : Siz Tryz.prog 219 4 := ⟨by kernel_rfl⟩
instance : Zro Tryz.prog 219 (.agg #[(.int .i64 0), (.int .i64 0), (.int .u64 0), (.slice none 0 0)]) := ⟨by kernel_rfl⟩
instance : FldC Tryz.prog 219 0 0 := ⟨Fld.mk' Tryz.underlying219 (by kernel_rfl)⟩
instance : FldC Tryz.prog 219 1 1 := ⟨Fld.mk' Tryz.underlying219 (by kernel_rfl)⟩
instance : FldC Tryz.prog 219 2 2 := ⟨Fld.mk' Tryz.underlying219 (by kernel_rfl)⟩
instance : FldC Tryz.prog 219 3 3 := ⟨Fld.mk' Tryz.underlying219 (by kernel_rfl)⟩
instance : PlsC Tryz.prog 219 [(0, 1), (1, 1), (2, 1), (3, 1)] := ⟨by kernel_rfl⟩
instance : Und Tryz.prog 225 (.pointer 175) := ⟨Tryz.underlying225⟩
instance : AggC Tryz.prog 225 false := ⟨_, Tryz.underlying225, rfl⟩
instance : Siz Tryz.prog 225 1 := ⟨by kernel_rfl⟩
instance : Zro Tryz.prog 225 (.pointer none) := ⟨by kernel_rfl⟩
instance : Und Tryz.prog 241 (.slice 134) := ⟨Tryz.underlying241⟩
instance : AggC Tryz.prog 241 false := ⟨_, Tryz.underlying241, rfl⟩
instance : Siz Tryz.prog 241 1 := ⟨by kernel_rfl⟩
instance : Zro Tryz.prog 241 (.slice none 0 0) := ⟨by kernel_rfl⟩
instance : TIc Tryz.prog 241 134 2 16 := ⟨TI.mk' Tryz.underlying241 (by kernel_rfl)⟩
instance : Und Tryz.prog 252 (.int .u64) := ⟨Tryz.underlying252⟩
instance : AggC Tryz.prog 252 false := ⟨_, Tryz.underlying252, rfl⟩
instance : Siz Tryz.prog 252 1 := ⟨by kernel_rfl⟩
instance : Zro Tryz.prog 252 (.int .u64 0) := ⟨by kernel_rfl⟩
instance : Und Tryz.prog 262 (.slice 23) := ⟨Tryz.underlying262⟩
instance : AggC Tryz.prog 262 false := ⟨_, Tryz.underlying262, rfl⟩
instance : Siz Tryz.prog 262 1 := ⟨by kernel_rfl⟩
instance : Zro Tryz.prog 262 (.slice none 0 0) := ⟨by kernel_rfl⟩
instance : TIc Tryz.prog 262 23 1 24 := ⟨TI.mk' Tryz.underlying262 (by kernel_rfl)⟩
instance : Und Tryz.prog 266 (.array 16 193) := ⟨Tryz.underlying266⟩
instance : AggC Tryz.prog 266 true := ⟨_, Tryz.underlying266, rfl⟩
instance : Siz Tryz.prog 266 16 := ⟨by kernel_rfl⟩
instance : Zro Tryz.prog 266 (.agg #[(.slice none 0 0), (.slice none 0 0), (.slice none 0 0), (.slice none 0 0), (.slice none 0 0), (.slice none 0 0), (.slice none 0 0), (.slice none 0 0), (.slice none 0 0), (.slice none 0 0), (.slice none 0 0), (.slice none 0 0), (.slice none 0 0), (.slice none 0 0), (.slice none 0 0), (.slice none 0 0)]) := ⟨by kernel_rfl⟩
instance : Und Tryz.prog 267 (.array 16 193) := ⟨Tryz.underlying267⟩
instance : AggC Tryz.prog 267 true := ⟨_, Tryz.underlying267, rfl⟩
instance : Siz Tryz.prog 267 16 := ⟨by kernel_rfl⟩
instance : Zro Tryz.prog 267 (.agg #[(.slice none 0 0), (.slice none 0 0), (.slice none 0 0), (.slice none 0 0), (.slice none 0 0), (.slice none 0 0), (.slice none 0 0), (.slice none 0 0), (.slice none 0 0), (.slice none 0 0), (.slice none 0 0), (.slice none 0 0), (.slice none 0 0), (.slice none 0 0), (.slice none 0 0), (.slice none 0 0)]) := ⟨by kernel_rfl⟩
instance : Und Tryz.prog 283 (.int .i64) := ⟨Tryz.underlying283⟩
instance : AggC Tryz.prog 283 false := ⟨_, Tryz.underlying283, rfl⟩
instance : Siz Tryz.prog 283 1 := ⟨by kernel_rfl⟩
instance : Zro Tryz.prog 283 (.int .i64 0) := ⟨by kernel_rfl⟩
instance : Und Tryz.prog 305 (.int .u64) := ⟨Tryz.underlying305⟩
instance : AggC Tryz.prog 305 false := ⟨_, Tryz.underlying305, rfl⟩
instance : Siz Tryz.prog 305 1 := ⟨by kernel_rfl⟩
instance : Zro Tryz.prog 305 (.int .u64 0) := ⟨by kernel_rfl⟩
instance : Und Tryz.prog 309 (.pointer 3) := ⟨Tryz.underlying309⟩
instance : AggC Tryz.prog 309 false := ⟨_, Tryz.underlying309, rfl⟩
instance : Siz Tryz.prog 309 1 := ⟨by kernel_rfl⟩
instance : Zro Tryz.prog 309 (.pointer none) := ⟨by kernel_rfl⟩
instance : Und Tryz.prog 316 (.pointer 305) := ⟨Tryz.underlying316⟩
instance : AggC Tryz.prog 316 false := ⟨_, Tryz.underlying316, rfl⟩
instance : Siz Tryz.prog 316 1 := ⟨by kernel_rfl⟩
instance : Zro Tryz.prog 316 (.pointer none) := ⟨by kernel_rfl⟩
instance : AggC Tryz.prog 330 true := ⟨_, Tryz.underlying330, rfl⟩
instance : Siz Tryz.prog 330 4 := ⟨by kernel_rfl⟩
instance : Zro Tryz.prog 330 (.agg #[(.pointer none), (.pointer none), (.pointer none), (.string ⟨#[]⟩)]) := ⟨by kernel_rfl⟩
instance : Und Tryz.prog 332 (.array 0 16) := ⟨Tryz.underlying332⟩
instance : AggC Tryz.prog 332 true := ⟨_, Tryz.underlying332, rfl⟩
instance : Siz Tryz.prog 332 0 := ⟨by kernel_rfl⟩
instance : Zro Tryz.prog 332 (.agg #[]) := ⟨by kernel_rfl⟩
instance : AggC Tryz.prog 333 true := ⟨_, Tryz.underlying333, rfl⟩
instance : Siz Tryz.prog 333 0 := ⟨by kernel_rfl⟩
instance : Zro Tryz.prog 333 (.agg #[]) := ⟨by kernel_rfl⟩
instance : Und Tryz.prog 338 (.pointer 5) := ⟨Tryz.underlying338⟩
instance : AggC Tryz.prog 338 false := ⟨_, Tryz.underlying338, rfl⟩
instance : Siz Tryz.prog 338 1 := ⟨by kernel_rfl⟩
instance : Zro Tryz.prog 338 (.pointer none) := ⟨by kernel_rfl⟩
instance : AggC Tryz.prog 341 true := ⟨_, Tryz.underlying341, rfl⟩
instance : Siz Tryz.prog 341 11 := ⟨by kernel_rfl⟩
instance : Zro Tryz.prog 341 (.agg #[(.int .u64 0), (.int .u64 0), (.int .u32 0), (.int .u8 0), (.int .u8 0), (.int .u8 0), (.int .u8 0), .nilFunc, (.pointer none), (.int .i32 0), (.int .i32 0)]) := ⟨by kernel_rfl⟩
instance : FldC Tryz.prog 341 0 0 := ⟨Fld.mk' Tryz.underlying341 (by kernel_rfl)⟩
instance : FldC Tryz.prog 341 1 1 := ⟨Fld.mk' Tryz.underlying341 (by kernel_rfl)⟩
instance : FldC Tryz.prog 341 2 2 := ⟨Fld.mk' Tryz.underlying341 (by kernel_rfl)⟩
instance : FldC Tryz.prog 341 3 3 := ⟨Fld.mk' Tryz.underlying341 (by kernel_rfl)⟩
instance : FldC Tryz.prog 341 4 4 := ⟨Fld.mk' Tryz.underlying341 (by kernel_rfl)⟩
instance : FldC Tryz.prog 341 5 5 := ⟨Fld.mk' Tryz.underlying341 (by kernel_rfl)⟩
instance : FldC Tryz.prog 341 6 6 := ⟨Fld.mk' Tryz.underlying341 (by kernel_rfl)⟩
instance : FldC Tryz.prog 341 7 7 := ⟨Fld.mk' Tryz.underlying341 (by kernel_rfl)⟩
instance : FldC Tryz.prog 341 8 8 := ⟨Fld.mk' Tryz.underlying341 (by kernel_rfl)⟩
instance : FldC Tryz.prog 341 9 9 := ⟨Fld.mk' Tryz.underlying341 (by kernel_rfl)⟩
instance : FldC Tryz.prog 341 10 10 := ⟨Fld.mk' Tryz.underlying341 (by kernel_rfl)⟩
instance : PlsC Tryz.prog 341 [(0, 1), (1, 1), (2, 1), (3, 1), (4, 1), (5, 1), (6, 1), (7, 1), (8, 1), (9, 1), (10, 1)] := ⟨by kernel_rfl⟩
theorem mixed0 : Tryz.prog.follows .mixedOrders = true := by kernel_rfl
end Go.Proofs.YtoiaegbmbhgdpaaGreat
