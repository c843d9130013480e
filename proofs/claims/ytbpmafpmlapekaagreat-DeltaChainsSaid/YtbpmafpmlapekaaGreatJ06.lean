/- Texts joined: AbsG Tab. -/
import Derived.Test.YtbpmafpmlapekaaGreatJ04
import Derived.Test.YtbpmafpmlapekaaGreatProg
namespace Go.Proofs.YtbpmafpmlapekaaGreat
open Go.RowKit
variable {P : Program} {n : Nat} {ops : Array Oper} {o : Oper} {F : List Nat} {S T : St} {t : Nat}
theorem op_gyes {j tg : Nat} {want b : Bool} {c : Cnt} {bk : Upd} (hg : o.guard = some (j, want)) (hj : (ops[j]?).bind (·.dst) = some tg) (htg : Nat.blt tg n = true)
    (hb : S.get tg = bC b) (hw : b = want) (h : OpOk n P ops { o with guard := none } F c bk S) : OpOk n P ops o (2 * tg :: F) c bk S := by
  refine ⟨?_⟩
  intro C T hA a w ⟨g, hR⟩
  have hv : a.tmps.getD tg undef = .bool b := by
    have := hR.slots tg
    rw [hA.1 tg (by simp), hb] at this; exact this
  have hy := yielded_of (ops := ops) hj hv (by rw [hR.tsz]; exact Nat.le_of_ble_eq_true htg)
  unfold Exec
  rw [if_pos (by simp [Region.wanted, hg, hy, hw, boolOf])]
  have hA' : Agree F T S := ⟨fun t h => hA.1 t (by simp [h]), fun id h => hA.2 id (by simp [h])⟩
  have := h.run C T hA' a w ⟨g, hR⟩
  unfold Exec at this
  rw [if_pos (by simp [Region.wanted])] at this
  exact this
/-- a guard that was not looked at yields nothing -/
theorem op_gno {j tg : Nat} {want b : Bool} (hg : o.guard = some (j, want)) (hd : o.dst = some t) (ht : Nat.blt t n = true) (hj : (ops[j]?).bind (·.dst) = some tg) (htg : Nat.blt tg n = true)
    (hb : S.get tg = bC b) (hw : b = !want) : OpOk n P ops o [2 * tg] (.per (rawP undef)) [] S := by
  refine ⟨?_⟩
  intro C T hA a w ⟨g, hR⟩
  have hv : a.tmps.getD tg undef = .bool b := by
    have := hR.slots tg
    rw [hA.1 tg (by simp), hb] at this; exact this
  have hy := yielded_of (ops := ops) hj hv (by rw [hR.tsz]; exact Nat.le_of_ble_eq_true htg)
  have hdk : dOk n o.dst := fun t' e => by rw [hd] at e; cases e; exact Nat.le_of_ble_eq_true ht
  unfold Exec
  rw [if_neg (by simp [Region.wanted, hg, hy, hw, boolOf])]
  exact ⟨g, hR.app0 (Ext.refl w) hdk rfl⟩
/-- .. nor does what waits for nothing -/
theorem op_gnone {j tg : Nat} {want : Bool} (hg : o.guard = some (j, want)) (hd : o.dst = some t) (ht : Nat.blt t n = true) (hj : (ops[j]?).bind (·.dst) = some tg) (htg : Nat.blt tg n = true)
    (hb : S.get tg = .per (rawP undef)) : OpOk n P ops o [2 * tg] (.per (rawP undef)) [] S := by
  refine ⟨?_⟩
  intro C T hA a w ⟨g, hR⟩
  have hv : a.tmps.getD tg undef = undef := by
    have := hR.slots tg
    rw [hA.1 tg (by simp), hb] at this; exact this
  have hy := yielded_of (ops := ops) hj hv (by rw [hR.tsz]; exact Nat.le_of_ble_eq_true htg)
  have hdk : dOk n o.dst := fun t' e => by rw [hd] at e; cases e; exact Nat.le_of_ble_eq_true ht
  unfold Exec
  rw [if_neg (by simp [Region.wanted, hg, hy, undef, boolOf])]
  exact ⟨g, hR.app0 (Ext.refl w) hdk rfl⟩
theorem op_pick_t {c x y : Operand} {b p : Bool} (hp : Pl n o t) (ho : o.op = .pick c x y) (hc : S.opd c = bC b) (hb : b = true) (hx : S.opd x = bC p) : OpOk n P ops o (opdN c ++ opdN x ++ opdN y) (bC p) [] S := by
  subst hb
  exact op_pick (p := p) (q := p) hp ho hc (fun _ => hx) (fun h => by cases h)
theorem op_pick_f {c x y : Operand} {b p : Bool} (hp : Pl n o t) (ho : o.op = .pick c x y) (hc : S.opd c = bC b) (hb : b = false) (hy : S.opd y = bC p) : OpOk n P ops o (opdN c ++ opdN x ++ opdN y) (bC p) [] S := by
  subst hb
  exact op_pick (p := p) (q := p) hp ho hc (fun h => by cases h) (fun _ => hy)
/-! ### the greater and the less of two numbers -/
theorem op_max {ty ty' : TypeId} {x y : Operand} {k : IntKind} {u v : Int} (hp : Pl n o t) (ho : o.op = .call { callee := .builtin .max, args := #[x, y], argTypes := #[ty, ty'] }) (hx : S.opd x = iC k u) (hy : S.opd y = iC k v) :
    OpOk n P ops o (opdN x ++ opdN y) (iC k (if v > u then v else u)) [] S :=
  op_val hp fun C T g a w hA hR => by
    have h1 := raw_opd (x := x) hA (fun k h => by simp [h]) hR hx
    have h2 := raw_opd (x := y) hA (fun k h => by simp [h]) hR hy
    refine ⟨.int k (if v > u then v else u), ?_, rfl⟩
    simp only [execOp, ho, resolve, invoke, builtin, Sem.run_bind, Sem.run_pure, Result.andThen_ok, List.map_toArray, List.map_cons, List.map_nil, h1, h2, run_max_int2]
theorem op_min {ty ty' : TypeId} {x y : Operand} {k : IntKind} {u v : Int} (hp : Pl n o t) (ho : o.op = .call { callee := .builtin .min, args := #[x, y], argTypes := #[ty, ty'] }) (hx : S.opd x = iC k u) (hy : S.opd y = iC k v) :
    OpOk n P ops o (opdN x ++ opdN y) (iC k (if v < u then v else u)) [] S :=
  op_val hp fun C T g a w hA hR => by
    have h1 := raw_opd (x := x) hA (fun k h => by simp [h]) hR hx
    have h2 := raw_opd (x := y) hA (fun k h => by simp [h]) hR hy
    refine ⟨.int k (if v < u then v else u), ?_, rfl⟩
    simp only [execOp, ho, resolve, invoke, builtin, Sem.run_bind, Sem.run_pure, Result.andThen_ok, List.map_toArray, List.map_cons, List.map_nil, h1, h2, run_min_int2]
end Go.Proofs.YtbpmafpmlapekaaGreat
namespace Go.Proofs.YtbpmafpmlapekaaGreat
open Go.RowKit
instance : Und Tryz.prog 2 (.int .i64) := ⟨Tryz.underlying2⟩
instance : AggC Tryz.prog 2 false := ⟨_, Tryz.underlying2, rfl⟩
instance : Siz Tryz.prog 2 1 := ⟨by kernel_rfl⟩
instance : Zro Tryz.prog 2 (.int .i64 0) := ⟨by kernel_rfl⟩
instance : Und Tryz.prog 3 (.int .i64) := ⟨Tryz.underlying3⟩
instance : AggC Tryz.prog 3 false := ⟨_, Tryz.underlying3, rfl⟩
instance : Siz Tryz.prog 3 1 := ⟨by kernel_rfl⟩
instance : Zro Tryz.prog 3 (.int .i64 0) := ⟨by kernel_rfl⟩
instance : Und Tryz.prog 4 .bool := ⟨Tryz.underlying4⟩
instance : AggC Tryz.prog 4 false := ⟨_, Tryz.underlying4, rfl⟩
instance : Siz Tryz.prog 4 1 := ⟨by kernel_rfl⟩
instance : Zro Tryz.prog 4 (.bool false) := ⟨by kernel_rfl⟩
instance : Und Tryz.prog 5 (.int .u8) := ⟨Tryz.underlying5⟩
instance : AggC Tryz.prog 5 false := ⟨_, Tryz.underlying5, rfl⟩
instance : Siz Tryz.prog 5 1 := ⟨by kernel_rfl⟩
instance : Zro Tryz.prog 5 (.int .u8 0) := ⟨by kernel_rfl⟩
instance : AggC Tryz.prog 7 true := ⟨_, Tryz.underlying7, rfl⟩
instance : Siz Tryz.prog 7 4 := ⟨by kernel_rfl⟩
instance : Zro Tryz.prog 7 (.agg #[(.int .i64 0), (.int .i64 0), (.bool false), (.int .u8 0)]) := ⟨by kernel_rfl⟩
instance : Und Tryz.prog 9 .string := ⟨Tryz.underlying9⟩
instance : AggC Tryz.prog 9 false := ⟨_, Tryz.underlying9, rfl⟩
instance : Siz Tryz.prog 9 1 := ⟨by kernel_rfl⟩
instance : Zro Tryz.prog 9 (.string ⟨#[]⟩) := ⟨by kernel_rfl⟩
instance : Und Tryz.prog 12 (.int .u64) := ⟨Tryz.underlying12⟩
instance : AggC Tryz.prog 12 false := ⟨_, Tryz.underlying12, rfl⟩
instance : Siz Tryz.prog 12 1 := ⟨by kernel_rfl⟩
instance : Zro Tryz.prog 12 (.int .u64 0) := ⟨by kernel_rfl⟩
instance : AggC Tryz.prog 13 true := ⟨_, Tryz.underlying13, rfl⟩
instance : Siz Tryz.prog 13 2 := ⟨by kernel_rfl⟩
instance : Zro Tryz.prog 13 (.agg #[(.string ⟨#[]⟩), (.int .u64 0)]) := ⟨by kernel_rfl⟩
instance : Und Tryz.prog 15 (.pointer 181) := ⟨Tryz.underlying15⟩
instance : AggC Tryz.prog 15 false := ⟨_, Tryz.underlying15, rfl⟩
instance : Siz Tryz.prog 15 1 := ⟨by kernel_rfl⟩
instance : Zro Tryz.prog 15 (.pointer none) := ⟨by kernel_rfl⟩
instance : Und Tryz.prog 16 (.pointer 184) := ⟨Tryz.underlying16⟩
instance : AggC Tryz.prog 16 false := ⟨_, Tryz.underlying16, rfl⟩
instance : Siz Tryz.prog 16 1 := ⟨by kernel_rfl⟩
instance : Zro Tryz.prog 16 (.pointer none) := ⟨by kernel_rfl⟩
instance : Und Tryz.prog 17 (.pointer 192) := ⟨Tryz.underlying17⟩
instance : AggC Tryz.prog 17 false := ⟨_, Tryz.underlying17, rfl⟩
instance : Siz Tryz.prog 17 1 := ⟨by kernel_rfl⟩
instance : Zro Tryz.prog 17 (.pointer none) := ⟨by kernel_rfl⟩
instance : AggC Tryz.prog 18 true := ⟨_, Tryz.underlying18, rfl⟩
instance : Siz Tryz.prog 18 1 := ⟨by kernel_rfl⟩
instance : Zro Tryz.prog 18 (.agg #[(.pointer none)]) := ⟨by kernel_rfl⟩
instance : Und Tryz.prog 21 (.int .i32) := ⟨Tryz.underlying21⟩
instance : AggC Tryz.prog 21 false := ⟨_, Tryz.underlying21, rfl⟩
instance : Siz Tryz.prog 21 1 := ⟨by kernel_rfl⟩
instance : Zro Tryz.prog 21 (.int .i32 0) := ⟨by kernel_rfl⟩
instance : Und Tryz.prog 22 (.slice 48) := ⟨Tryz.underlying22⟩
instance : AggC Tryz.prog 22 false := ⟨_, Tryz.underlying22, rfl⟩
instance : Siz Tryz.prog 22 1 := ⟨by kernel_rfl⟩
instance : Zro Tryz.prog 22 (.slice none 0 0) := ⟨by kernel_rfl⟩
instance : TIc Tryz.prog 22 48 4 64 := ⟨TI.mk' Tryz.underlying22 (by kernel_rfl)⟩
instance : Und Tryz.prog 25 (.slice 5) := ⟨Tryz.underlying25⟩
instance : AggC Tryz.prog 25 false := ⟨_, Tryz.underlying25, rfl⟩
instance : Siz Tryz.prog 25 1 := ⟨by kernel_rfl⟩
instance : Zro Tryz.prog 25 (.slice none 0 0) := ⟨by kernel_rfl⟩
instance : TIc Tryz.prog 25 5 1 1 := ⟨TI.mk' Tryz.underlying25 (by kernel_rfl)⟩
instance : Und Tryz.prog 26 (.int .i64) := ⟨Tryz.underlying26⟩
instance : AggC Tryz.prog 26 false := ⟨_, Tryz.underlying26, rfl⟩
instance : Siz Tryz.prog 26 1 := ⟨by kernel_rfl⟩
instance : Zro Tryz.prog 26 (.int .i64 0) := ⟨by kernel_rfl⟩
instance : Und Tryz.prog 39 (.slice 22) := ⟨Tryz.underlying39⟩
instance : AggC Tryz.prog 39 false := ⟨_, Tryz.underlying39, rfl⟩
instance : Siz Tryz.prog 39 1 := ⟨by kernel_rfl⟩
instance : Zro Tryz.prog 39 (.slice none 0 0) := ⟨by kernel_rfl⟩
instance : TIc Tryz.prog 39 22 1 24 := ⟨TI.mk' Tryz.underlying39 (by kernel_rfl)⟩
instance : Und Tryz.prog 40 (.slice 25) := ⟨Tryz.underlying40⟩
instance : AggC Tryz.prog 40 false := ⟨_, Tryz.underlying40, rfl⟩
instance : Siz Tryz.prog 40 1 := ⟨by kernel_rfl⟩
instance : Zro Tryz.prog 40 (.slice none 0 0) := ⟨by kernel_rfl⟩
instance : TIc Tryz.prog 40 25 1 24 := ⟨TI.mk' Tryz.underlying40 (by kernel_rfl)⟩
instance : AggC Tryz.prog 44 true := ⟨_, Tryz.underlying44, rfl⟩
instance : Siz Tryz.prog 44 3 := ⟨by kernel_rfl⟩
instance : Zro Tryz.prog 44 (.agg #[(.string ⟨#[]⟩), (.string ⟨#[]⟩), (.bool false)]) := ⟨by kernel_rfl⟩
instance : FldC Tryz.prog 44 0 0 := ⟨Fld.mk' Tryz.underlying44 (by kernel_rfl)⟩
instance : FldC Tryz.prog 44 1 1 := ⟨Fld.mk' Tryz.underlying44 (by kernel_rfl)⟩
instance : FldC Tryz.prog 44 2 2 := ⟨Fld.mk' Tryz.underlying44 (by kernel_rfl)⟩
instance : PlsC Tryz.prog 44 [(0, 1), (1, 1), (2, 1)] := ⟨by kernel_rfl⟩
instance : AggC Tryz.prog 45 true := ⟨_, Tryz.underlying45, rfl⟩
instance : Siz Tryz.prog 45 3 := ⟨by kernel_rfl⟩
instance : Zro Tryz.prog 45 (.agg #[(.string ⟨#[]⟩), (.string ⟨#[]⟩), (.bool false)]) := ⟨by kernel_rfl⟩
instance : FldC Tryz.prog 45 0 0 := ⟨Fld.mk' Tryz.underlying45 (by kernel_rfl)⟩
instance : FldC Tryz.prog 45 1 1 := ⟨Fld.mk' Tryz.underlying45 (by kernel_rfl)⟩
instance : FldC Tryz.prog 45 2 2 := ⟨Fld.mk' Tryz.underlying45 (by kernel_rfl)⟩
instance : PlsC Tryz.prog 45 [(0, 1), (1, 1), (2, 1)] := ⟨by kernel_rfl⟩
instance : Und Tryz.prog 46 (.slice 64) := ⟨Tryz.underlying46⟩
instance : AggC Tryz.prog 46 false := ⟨_, Tryz.underlying46, rfl⟩
instance : Siz Tryz.prog 46 1 := ⟨by kernel_rfl⟩
instance : Zro Tryz.prog 46 (.slice none 0 0) := ⟨by kernel_rfl⟩
instance : TIc Tryz.prog 46 64 2 32 := ⟨TI.mk' Tryz.underlying46 (by kernel_rfl)⟩
instance : AggC Tryz.prog 47 true := ⟨_, Tryz.underlying47, rfl⟩
instance : Siz Tryz.prog 47 4 := ⟨by kernel_rfl⟩
instance : Zro Tryz.prog 47 (.agg #[(.string ⟨#[]⟩), (.string ⟨#[]⟩), (.bool false), (.slice none 0 0)]) := ⟨by kernel_rfl⟩
instance : FldC Tryz.prog 47 0 0 := ⟨Fld.mk' Tryz.underlying47 (by kernel_rfl)⟩
instance : FldC Tryz.prog 47 1 3 := ⟨Fld.mk' Tryz.underlying47 (by kernel_rfl)⟩
instance : PlsC Tryz.prog 47 [(0, 3), (3, 1)] := ⟨by kernel_rfl⟩
instance : AggC Tryz.prog 48 true := ⟨_, Tryz.underlying48, rfl⟩
instance : Siz Tryz.prog 48 4 := ⟨by kernel_rfl⟩
instance : Zro Tryz.prog 48 (.agg #[(.string ⟨#[]⟩), (.string ⟨#[]⟩), (.bool false), (.slice none 0 0)]) := ⟨by kernel_rfl⟩
instance : FldC Tryz.prog 48 0 0 := ⟨Fld.mk' Tryz.underlying48 (by kernel_rfl)⟩
instance : FldC Tryz.prog 48 1 3 := ⟨Fld.mk' Tryz.underlying48 (by kernel_rfl)⟩
instance : PlsC Tryz.prog 48 [(0, 3), (3, 1)] := ⟨by kernel_rfl⟩
instance : Und Tryz.prog 59 (.slice 45) := ⟨Tryz.underlying59⟩
instance : AggC Tryz.prog 59 false := ⟨_, Tryz.underlying59, rfl⟩
instance : Siz Tryz.prog 59 1 := ⟨by kernel_rfl⟩
instance : Zro Tryz.prog 59 (.slice none 0 0) := ⟨by kernel_rfl⟩
instance : TIc Tryz.prog 59 45 3 40 := ⟨TI.mk' Tryz.underlying59 (by kernel_rfl)⟩
instance : Und Tryz.prog 62 (.slice 102) := ⟨Tryz.underlying62⟩
instance : AggC Tryz.prog 62 false := ⟨_, Tryz.underlying62, rfl⟩
instance : Siz Tryz.prog 62 1 := ⟨by kernel_rfl⟩
instance : Zro Tryz.prog 62 (.slice none 0 0) := ⟨by kernel_rfl⟩
instance : TIc Tryz.prog 62 102 2 16 := ⟨TI.mk' Tryz.underlying62 (by kernel_rfl)⟩
instance : AggC Tryz.prog 63 true := ⟨_, Tryz.underlying63, rfl⟩
instance : Siz Tryz.prog 63 2 := ⟨by kernel_rfl⟩
instance : Zro Tryz.prog 63 (.agg #[(.int .i64 0), (.slice none 0 0)]) := ⟨by kernel_rfl⟩
instance : FldC Tryz.prog 63 0 0 := ⟨Fld.mk' Tryz.underlying63 (by kernel_rfl)⟩
instance : FldC Tryz.prog 63 1 1 := ⟨Fld.mk' Tryz.underlying63 (by kernel_rfl)⟩
instance : PlsC Tryz.prog 63 [(0, 1), (1, 1)] := ⟨by kernel_rfl⟩
instance : AggC Tryz.prog 64 true := ⟨_, Tryz.underlying64, rfl⟩
instance : Siz Tryz.prog 64 2 := ⟨by kernel_rfl⟩
instance : Zro Tryz.prog 64 (.agg #[(.int .i64 0), (.slice none 0 0)]) := ⟨by kernel_rfl⟩
instance : FldC Tryz.prog 64 0 0 := ⟨Fld.mk' Tryz.underlying64 (by kernel_rfl)⟩
instance : FldC Tryz.prog 64 1 1 := ⟨Fld.mk' Tryz.underlying64 (by kernel_rfl)⟩
instance : PlsC Tryz.prog 64 [(0, 1), (1, 1)] := ⟨by kernel_rfl⟩
instance : Und Tryz.prog 71 (.slice 9) := ⟨Tryz.underlying71⟩
instance : AggC Tryz.prog 71 false := ⟨_, Tryz.underlying71, rfl⟩
instance : Siz Tryz.prog 71 1 := ⟨by kernel_rfl⟩
instance : Zro Tryz.prog 71 (.slice none 0 0) := ⟨by kernel_rfl⟩
instance : TIc Tryz.prog 71 9 1 16 := ⟨TI.mk' Tryz.underlying71 (by kernel_rfl)⟩
instance : Und Tryz.prog 78 (.pointer 116) := ⟨Tryz.underlying78⟩
instance : AggC Tryz.prog 78 false := ⟨_, Tryz.underlying78, rfl⟩
instance : Siz Tryz.prog 78 1 := ⟨by kernel_rfl⟩
instance : Zro Tryz.prog 78 (.pointer none) := ⟨by kernel_rfl⟩
instance : AggC Tryz.prog 80 true := ⟨_, Tryz.underlying80, rfl⟩
instance : Siz Tryz.prog 80 1 := ⟨by kernel_rfl⟩
instance : Zro Tryz.prog 80 (.agg #[(.pointer none)]) := ⟨by kernel_rfl⟩
instance : FldC Tryz.prog 80 0 0 := ⟨Fld.mk' Tryz.underlying80 (by kernel_rfl)⟩
instance : PlsC Tryz.prog 80 [(0, 1)] := ⟨by kernel_rfl⟩
instance : AggC Tryz.prog 81 true := ⟨_, Tryz.underlying81, rfl⟩
instance : Siz Tryz.prog 81 1 := ⟨by kernel_rfl⟩
instance : Zro Tryz.prog 81 (.agg #[(.pointer none)]) := ⟨by kernel_rfl⟩
instance : FldC Tryz.prog 81 0 0 := ⟨Fld.mk' Tryz.underlying81 (by kernel_rfl)⟩
instance : PlsC Tryz.prog 81 [(0, 1)] := ⟨by kernel_rfl⟩
instance : Und Tryz.prog 91 (.pointer 93) := ⟨Tryz.underlying91⟩
instance : AggC Tryz.prog 91 false := ⟨_, Tryz.underlying91, rfl⟩
instance : Siz Tryz.prog 91 1 := ⟨by kernel_rfl⟩
instance : Zro Tryz.prog 91 (.pointer none) := ⟨by kernel_rfl⟩
instance : AggC Tryz.prog 92 true := ⟨_, Tryz.underlying92, rfl⟩
instance : Siz Tryz.prog 92 3 := ⟨by kernel_rfl⟩
instance : Zro Tryz.prog 92 (.agg #[(.slice none 0 0), (.int .i64 0), (.int .i64 0)]) := ⟨by kernel_rfl⟩
instance : FldC Tryz.prog 92 0 0 := ⟨Fld.mk' Tryz.underlying92 (by kernel_rfl)⟩
instance : FldC Tryz.prog 92 1 1 := ⟨Fld.mk' Tryz.underlying92 (by kernel_rfl)⟩
instance : FldC Tryz.prog 92 2 2 := ⟨Fld.mk' Tryz.underlying92 (by kernel_rfl)⟩
instance : PlsC Tryz.prog 92 [(0, 1), (1, 1), (2, 1)] := ⟨by kernel_rfl⟩
instance : AggC Tryz.prog 93 true := ⟨_, Tryz.underlying93, rfl⟩
instance : Siz Tryz.prog 93 3 := ⟨by kernel_rfl⟩
instance : Zro Tryz.prog 93 (.agg #[(.slice none 0 0), (.int .i64 0), (.int .i64 0)]) := ⟨by kernel_rfl⟩
instance : FldC Tryz.prog 93 0 0 := ⟨Fld.mk' Tryz.underlying93 (by kernel_rfl)⟩
instance : FldC Tryz.prog 93 1 1 := ⟨Fld.mk' Tryz.underlying93 (by kernel_rfl)⟩
instance : FldC Tryz.prog 93 2 2 := ⟨Fld.mk' Tryz.underlying93 (by kernel_rfl)⟩
instance : PlsC Tryz.prog 93 [(0, 1), (1, 1), (2, 1)] := ⟨by kernel_rfl⟩
instance : AggC Tryz.prog 101 true := ⟨_, Tryz.underlying101, rfl⟩
instance : Siz Tryz.prog 101 2 := ⟨by kernel_rfl⟩
instance : Zro Tryz.prog 101 (.agg #[(.int .i64 0), (.int .i64 0)]) := ⟨by kernel_rfl⟩
instance : FldC Tryz.prog 101 0 0 := ⟨Fld.mk' Tryz.underlying101 (by kernel_rfl)⟩
instance : FldC Tryz.prog 101 1 1 := ⟨Fld.mk' Tryz.underlying101 (by kernel_rfl)⟩
instance : PlsC Tryz.prog 101 [(0, 1), (1, 1)] := ⟨by kernel_rfl⟩
instance : AggC Tryz.prog 102 true := ⟨_, Tryz.underlying102, rfl⟩
instance : Siz Tryz.prog 102 2 := ⟨by kernel_rfl⟩
instance : Zro Tryz.prog 102 (.agg #[(.int .i64 0), (.int .i64 0)]) := ⟨by kernel_rfl⟩
instance : FldC Tryz.prog 102 0 0 := ⟨Fld.mk' Tryz.underlying102 (by kernel_rfl)⟩
instance : FldC Tryz.prog 102 1 1 := ⟨Fld.mk' Tryz.underlying102 (by kernel_rfl)⟩
instance : PlsC Tryz.prog 102 [(0, 1), (1, 1)] := ⟨by kernel_rfl⟩
instance : Und Tryz.prog 104 (.slice 3) := ⟨Tryz.underlying104⟩
instance : AggC Tryz.prog 104 false := ⟨_, Tryz.underlying104, rfl⟩
instance : Siz Tryz.prog 104 1 := ⟨by kernel_rfl⟩
instance : Zro Tryz.prog 104 (.slice none 0 0) := ⟨by kernel_rfl⟩
instance : TIc Tryz.prog 104 3 1 8 := ⟨TI.mk' Tryz.underlying104 (by kernel_rfl)⟩
instance : AggC Tryz.prog 113 true := ⟨_, Tryz.underlying113, rfl⟩
instance : Siz Tryz.prog 113 2 := ⟨by kernel_rfl⟩
instance : Zro Tryz.prog 113 (.agg #[(.slice none 0 0), (.int .i64 0)]) := ⟨by kernel_rfl⟩
instance : FldC Tryz.prog 113 0 0 := ⟨Fld.mk' Tryz.underlying113 (by kernel_rfl)⟩
instance : FldC Tryz.prog 113 1 1 := ⟨Fld.mk' Tryz.underlying113 (by kernel_rfl)⟩
instance : PlsC Tryz.prog 113 [(0, 1), (1, 1)] := ⟨by kernel_rfl⟩
instance : AggC Tryz.prog 114 true := ⟨_, Tryz.underlying114, rfl⟩
instance : Siz Tryz.prog 114 2 := ⟨by kernel_rfl⟩
instance : Zro Tryz.prog 114 (.agg #[(.slice none 0 0), (.int .i64 0)]) := ⟨by kernel_rfl⟩
instance : FldC Tryz.prog 114 0 0 := ⟨Fld.mk' Tryz.underlying114 (by kernel_rfl)⟩
instance : FldC Tryz.prog 114 1 1 := ⟨Fld.mk' Tryz.underlying114 (by kernel_rfl)⟩
instance : PlsC Tryz.prog 114 [(0, 1), (1, 1)] := ⟨by kernel_rfl⟩
instance : AggC Tryz.prog 115 true := ⟨_, Tryz.underlying115, rfl⟩
instance : Siz Tryz.prog 115 2 := ⟨by kernel_rfl⟩
instance : Zro Tryz.prog 115 (.agg #[(.slice none 0 0), (.int .i64 0)]) := ⟨by kernel_rfl⟩
instance : FldC Tryz.prog 115 0 0 := ⟨Fld.mk' Tryz.underlying115 (by kernel_rfl)⟩
instance : PlsC Tryz.prog 115 [(0, 2)] := ⟨by kernel_rfl⟩
instance : AggC Tryz.prog 116 true := ⟨_, Tryz.underlying116, rfl⟩
instance : Siz Tryz.prog 116 2 := ⟨by kernel_rfl⟩
instance : Zro Tryz.prog 116 (.agg #[(.slice none 0 0), (.int .i64 0)]) := ⟨by kernel_rfl⟩
instance : FldC Tryz.prog 116 0 0 := ⟨Fld.mk' Tryz.underlying116 (by kernel_rfl)⟩
instance : PlsC Tryz.prog 116 [(0, 2)] := ⟨by kernel_rfl⟩
instance : Und Tryz.prog 119 (.pointer 114) := ⟨Tryz.underlying119⟩
instance : AggC Tryz.prog 119 false := ⟨_, Tryz.underlying119, rfl⟩
instance : Siz Tryz.prog 119 1 := ⟨by kernel_rfl⟩
instance : Zro Tryz.prog 119 (.pointer none) := ⟨by kernel_rfl⟩
instance : Und Tryz.prog 128 (.array 16 62) := ⟨Tryz.underlying128⟩
instance : AggC Tryz.prog 128 true := ⟨_, Tryz.underlying128, rfl⟩
instance : Siz Tryz.prog 128 16 := ⟨by kernel_rfl⟩
instance : Zro Tryz.prog 128 (.agg #[(.slice none 0 0), (.slice none 0 0), (.slice none 0 0), (.slice none 0 0), (.slice none 0 0), (.slice none 0 0), (.slice none 0 0), (.slice none 0 0), (.slice none 0 0), (.slice none 0 0), (.slice none 0 0), (.slice none 0 0), (.slice none 0 0), (.slice none 0 0), (.slice none 0 0), (.slice none 0 0)]) := ⟨by kernel_rfl⟩
instance : Und Tryz.prog 129 (.array 16 62) := ⟨Tryz.underlying129⟩
instance : AggC Tryz.prog 129 true := ⟨_, Tryz.underlying129, rfl⟩
instance : Siz Tryz.prog 129 16 := ⟨by kernel_rfl⟩
instance : Zro Tryz.prog 129 (.agg #[(.slice none 0 0), (.slice none 0 0), (.slice none 0 0), (.slice none 0 0), (.slice none 0 0), (.slice none 0 0), (.slice none 0 0), (.slice none 0 0), (.slice none 0 0), (.slice none 0 0), (.slice none 0 0), (.slice none 0 0), (.slice none 0 0), (.slice none 0 0), (.slice none 0 0), (.slice none 0 0)]) := ⟨by kernel_rfl⟩
instance : Und Tryz.prog 133 (.int .u64) := ⟨Tryz.underlying133⟩
instance : AggC Tryz.prog 133 false := ⟨_, Tryz.underlying133, rfl⟩
instance : Siz Tryz.prog 133 1 := ⟨by kernel_rfl⟩
instance : Zro Tryz.prog 133 (.int .u64 0) := ⟨by kernel_rfl⟩
instance : Und Tryz.prog 143 (.int .i64) := ⟨Tryz.underlying143⟩
instance : AggC Tryz.prog 143 false := ⟨_, Tryz.underlying143, rfl⟩
instance : Siz Tryz.prog 143 1 := ⟨by kernel_rfl⟩
instance : Zro Tryz.prog 143 (.int .i64 0) := ⟨by kernel_rfl⟩
instance : Und Tryz.prog 151 (.int .u32) := ⟨Tryz.underlying151⟩
instance : AggC Tryz.prog 151 false := ⟨_, Tryz.underlying151, rfl⟩
instance : Siz Tryz.prog 151 1 := ⟨by kernel_rfl⟩
instance : Zro Tryz.prog 151 (.int .u32 0) := ⟨by kernel_rfl⟩
instance : Und Tryz.prog 153 (.int .u64) := ⟨Tryz.underlying153⟩
instance : AggC Tryz.prog 153 false := ⟨_, Tryz.underlying153, rfl⟩
instance : Siz Tryz.prog 153 1 := ⟨by kernel_rfl⟩
instance : Zro Tryz.prog 153 (.int .u64 0) := ⟨by kernel_rfl⟩
instance : Und Tryz.prog 160 (.int .u64) := ⟨Tryz.underlying160⟩
instance : AggC Tryz.prog 160 false := ⟨_, Tryz.underlying160, rfl⟩
instance : Siz Tryz.prog 160 1 := ⟨by kernel_rfl⟩
instance : Zro Tryz.prog 160 (.int .u64 0) := ⟨by kernel_rfl⟩
instance : Und Tryz.prog 164 (.pointer 3) := ⟨Tryz.underlying164⟩
instance : AggC Tryz.prog 164 false := ⟨_, Tryz.underlying164, rfl⟩
instance : Siz Tryz.prog 164 1 := ⟨by kernel_rfl⟩
instance : Zro Tryz.prog 164 (.pointer none) := ⟨by kernel_rfl⟩
instance : Und Tryz.prog 168 (.pointer 160) := ⟨Tryz.underlying168⟩
instance : AggC Tryz.prog 168 false := ⟨_, Tryz.underlying168, rfl⟩
instance : Siz Tryz.prog 168 1 := ⟨by kernel_rfl⟩
instance : Zro Tryz.prog 168 (.pointer none) := ⟨by kernel_rfl⟩
instance : AggC Tryz.prog 180 true := ⟨_, Tryz.underlying180, rfl⟩
instance : Siz Tryz.prog 180 4 := ⟨by kernel_rfl⟩
instance : Zro Tryz.prog 180 (.agg #[(.pointer none), (.pointer none), (.pointer none), (.string ⟨#[]⟩)]) := ⟨by kernel_rfl⟩
instance : Und Tryz.prog 182 (.array 0 16) := ⟨Tryz.underlying182⟩
instance : AggC Tryz.prog 182 true := ⟨_, Tryz.underlying182, rfl⟩
instance : Siz Tryz.prog 182 0 := ⟨by kernel_rfl⟩
instance : Zro Tryz.prog 182 (.agg #[]) := ⟨by kernel_rfl⟩
instance : AggC Tryz.prog 183 true := ⟨_, Tryz.underlying183, rfl⟩
instance : Siz Tryz.prog 183 0 := ⟨by kernel_rfl⟩
instance : Zro Tryz.prog 183 (.agg #[]) := ⟨by kernel_rfl⟩
instance : Und Tryz.prog 188 (.pointer 5) := ⟨Tryz.underlying188⟩
instance : AggC Tryz.prog 188 false := ⟨_, Tryz.underlying188, rfl⟩
instance : Siz Tryz.prog 188 1 := ⟨by kernel_rfl⟩
instance : Zro Tryz.prog 188 (.pointer none) := ⟨by kernel_rfl⟩
instance : AggC Tryz.prog 191 true := ⟨_, Tryz.underlying191, rfl⟩
instance : Siz Tryz.prog 191 11 := ⟨by kernel_rfl⟩
instance : Zro Tryz.prog 191 (.agg #[(.int .u64 0), (.int .u64 0), (.int .u32 0), (.int .u8 0), (.int .u8 0), (.int .u8 0), (.int .u8 0), .nilFunc, (.pointer none), (.int .i32 0), (.int .i32 0)]) := ⟨by kernel_rfl⟩
instance : FldC Tryz.prog 191 0 0 := ⟨Fld.mk' Tryz.underlying191 (by kernel_rfl)⟩
instance : FldC Tryz.prog 191 1 1 := ⟨Fld.mk' Tryz.underlying191 (by kernel_rfl)⟩
instance : FldC Tryz.prog 191 2 2 := ⟨Fld.mk' Tryz.underlying191 (by kernel_rfl)⟩
instance : FldC Tryz.prog 191 3 3 := ⟨Fld.mk' Tryz.underlying191 (by kernel_rfl)⟩
instance : FldC Tryz.prog 191 4 4 := ⟨Fld.mk' Tryz.underlying191 (by kernel_rfl)⟩
instance : FldC Tryz.prog 191 5 5 := ⟨Fld.mk' Tryz.underlying191 (by kernel_rfl)⟩
instance : FldC Tryz.prog 191 6 6 := ⟨Fld.mk' Tryz.underlying191 (by kernel_rfl)⟩
instance : FldC Tryz.prog 191 7 7 := ⟨Fld.mk' Tryz.underlying191 (by kernel_rfl)⟩
instance : FldC Tryz.prog 191 8 8 := ⟨Fld.mk' Tryz.underlying191 (by kernel_rfl)⟩
instance : FldC Tryz.prog 191 9 9 := ⟨Fld.mk' Tryz.underlying191 (by kernel_rfl)⟩
instance : FldC Tryz.prog 191 10 10 := ⟨Fld.mk' Tryz.underlying191 (by kernel_rfl)⟩
instance : PlsC Tryz.prog 191 [(0, 1), (1, 1), (2, 1), (3, 1), (4, 1), (5, 1), (6, 1), (7, 1), (8, 1), (9, 1), (10, 1)] := ⟨by kernel_rfl⟩
theorem mixed0 : Tryz.prog.follows .mixedOrders = true := by kernel_rfl
end Go.Proofs.YtbpmafpmlapekaaGreat
