/- Texts joined: AbsG Tab AbsT. -/
import Derived.Test.YtfcpkegmdlchhaaGreatJ03
import Derived.Test.YtfcpkegmdlchhaaGreatProg
namespace Go.Proofs.YtfcpkegmdlchhaaGreat
open Go.RowKit
variable {P:Program} {n:Nat} {ops:Array Oper} {o:Oper} {F:List Nat} {S T:St} {t:Nat}
theorem op_gyes {j tg:Nat} {want b:Bool} {c:Cnt} {bk:Upd} (hg:o.guard = some (j,want)) (hj:(ops[j]?).bind (·.dst) = some tg) (htg:Nat.blt tg n = true)
   (hb:S.get tg = bC b) (hw:b = want) (h:OpOk n P ops { o with guard:=none } F c bk S):OpOk n P ops o (2 * tg :: F) c bk S:=by
 refine ⟨?_⟩
 intro C T hA a w ⟨g,hR⟩
 have hv:a.tmps.getD tg undef = .bool b:=by
   have:=hR.slots tg
   rw [hA.1 tg (by simp),hb] at this;exact this
 have hy:=yielded_of (ops:=ops) hj hv (by rw [hR.tsz];exact Nat.le_of_ble_eq_true htg)
 unfold Exec
 rw [if_pos (by simp [Region.wanted,hg,hy,hw,boolOf])]
 have hA':Agree F T S:=⟨fun t h=>hA.1 t (by simp [h]),fun id h=>hA.2 id (by simp [h])⟩
 have:=h.run C T hA' a w ⟨g,hR⟩
 unfold Exec at this
 rw [if_pos (by simp [Region.wanted])] at this
 exact this
/-- a guard that was not looked at yields nothing -/
theorem op_gno {j tg:Nat} {want b:Bool} (hg:o.guard = some (j,want)) (hd:o.dst = some t) (ht:Nat.blt t n = true) (hj:(ops[j]?).bind (·.dst) = some tg) (htg:Nat.blt tg n = true)
   (hb:S.get tg = bC b) (hw:b = !want):OpOk n P ops o [2 * tg] (.per (rawP undef)) [] S:=by
 refine ⟨?_⟩
 intro C T hA a w ⟨g,hR⟩
 have hv:a.tmps.getD tg undef = .bool b:=by
   have:=hR.slots tg
   rw [hA.1 tg (by simp),hb] at this;exact this
 have hy:=yielded_of (ops:=ops) hj hv (by rw [hR.tsz];exact Nat.le_of_ble_eq_true htg)
 have hdk:dOk n o.dst:=fun t' e=>by rw [hd] at e;cases e;exact Nat.le_of_ble_eq_true ht
 unfold Exec
 rw [if_neg (by simp [Region.wanted,hg,hy,hw,boolOf])]
 exact ⟨g,hR.app0 (Ext.refl w) hdk rfl⟩
/-- .. nor does what waits for nothing -/
theorem op_gnone {j tg:Nat} {want:Bool} (hg:o.guard = some (j,want)) (hd:o.dst = some t) (ht:Nat.blt t n = true) (hj:(ops[j]?).bind (·.dst) = some tg) (htg:Nat.blt tg n = true)
   (hb:S.get tg = .per (rawP undef)):OpOk n P ops o [2 * tg] (.per (rawP undef)) [] S:=by
 refine ⟨?_⟩
 intro C T hA a w ⟨g,hR⟩
 have hv:a.tmps.getD tg undef = undef:=by
   have:=hR.slots tg
   rw [hA.1 tg (by simp),hb] at this;exact this
 have hy:=yielded_of (ops:=ops) hj hv (by rw [hR.tsz];exact Nat.le_of_ble_eq_true htg)
 have hdk:dOk n o.dst:=fun t' e=>by rw [hd] at e;cases e;exact Nat.le_of_ble_eq_true ht
 unfold Exec
 rw [if_neg (by simp [Region.wanted,hg,hy,undef,boolOf])]
 exact ⟨g,hR.app0 (Ext.refl w) hdk rfl⟩
theorem op_pick_t {c x y:Operand} {b p:Bool} (hp:Pl n o t) (ho:o.op = .pick c x y) (hc:S.opd c = bC b) (hb:b = true) (hx:S.opd x = bC p):OpOk n P ops o (opdN c ++ opdN x ++ opdN y) (bC p) [] S:=by
 subst hb
 exact op_pick (p:=p) (q:=p) hp ho hc (fun _=>hx) (fun h=>by cases h)
theorem op_pick_f {c x y:Operand} {b p:Bool} (hp:Pl n o t) (ho:o.op = .pick c x y) (hc:S.opd c = bC b) (hb:b = false) (hy:S.opd y = bC p):OpOk n P ops o (opdN c ++ opdN x ++ opdN y) (bC p) [] S:=by
 subst hb
 exact op_pick (p:=p) (q:=p) hp ho hc (fun h=>by cases h) (fun _=>hy)
/-! ### the greater and the less of two numbers -/
theorem op_max {ty ty':TypeId} {x y:Operand} {k:IntKind} {u v:Int} (hp:Pl n o t) (ho:o.op = .call { callee:=.builtin .max,args:=#[x,y],argTypes:=#[ty,ty'] }) (hx:S.opd x = iC k u) (hy:S.opd y = iC k v) :
   OpOk n P ops o (opdN x ++ opdN y) (iC k (if v > u then v else u)) [] S:=
 op_val hp fun C T g a w hA hR=>by
   have h1:=raw_opd (x:=x) hA (fun k h=>by simp [h]) hR hx
   have h2:=raw_opd (x:=y) hA (fun k h=>by simp [h]) hR hy
   refine ⟨.int k (if v > u then v else u),?_,rfl⟩
   simp only [execOp,ho,resolve,invoke,builtin,Sem.run_bind,Sem.run_pure,Result.andThen_ok,List.map_toArray,List.map_cons,List.map_nil,h1,h2,run_max_int2]
theorem op_min {ty ty':TypeId} {x y:Operand} {k:IntKind} {u v:Int} (hp:Pl n o t) (ho:o.op = .call { callee:=.builtin .min,args:=#[x,y],argTypes:=#[ty,ty'] }) (hx:S.opd x = iC k u) (hy:S.opd y = iC k v) :
   OpOk n P ops o (opdN x ++ opdN y) (iC k (if v < u then v else u)) [] S:=
 op_val hp fun C T g a w hA hR=>by
   have h1:=raw_opd (x:=x) hA (fun k h=>by simp [h]) hR hx
   have h2:=raw_opd (x:=y) hA (fun k h=>by simp [h]) hR hy
   refine ⟨.int k (if v < u then v else u),?_,rfl⟩
   simp only [execOp,ho,resolve,invoke,builtin,Sem.run_bind,Sem.run_pure,Result.andThen_ok,List.map_toArray,List.map_cons,List.map_nil,h1,h2,run_min_int2]
end Go.Proofs.YtfcpkegmdlchhaaGreat
namespace Go.Proofs.YtfcpkegmdlchhaaGreat
open Go.RowKit
instance:Und Tryz.prog 2 (.int .i64):=⟨Tryz.underlying2⟩
instance:AggC Tryz.prog 2 false:=⟨_,Tryz.underlying2,rfl⟩
instance:Siz Tryz.prog 2 1:=⟨by kernel_rfl⟩
instance:Zro Tryz.prog 2 (.int .i64 0):=⟨by kernel_rfl⟩
instance:Und Tryz.prog 3 (.int .i64):=⟨Tryz.underlying3⟩
instance:AggC Tryz.prog 3 false:=⟨_,Tryz.underlying3,rfl⟩
instance:Siz Tryz.prog 3 1:=⟨by kernel_rfl⟩
instance:Zro Tryz.prog 3 (.int .i64 0):=⟨by kernel_rfl⟩
instance:Und Tryz.prog 4 .bool:=⟨Tryz.underlying4⟩
instance:AggC Tryz.prog 4 false:=⟨_,Tryz.underlying4,rfl⟩
instance:Siz Tryz.prog 4 1:=⟨by kernel_rfl⟩
instance:Zro Tryz.prog 4 (.bool false):=⟨by kernel_rfl⟩
instance:Und Tryz.prog 5 (.int .u8):=⟨Tryz.underlying5⟩
instance:AggC Tryz.prog 5 false:=⟨_,Tryz.underlying5,rfl⟩
instance:Siz Tryz.prog 5 1:=⟨by kernel_rfl⟩
instance:Zro Tryz.prog 5 (.int .u8 0):=⟨by kernel_rfl⟩
instance:AggC Tryz.prog 7 true:=⟨_,Tryz.underlying7,rfl⟩
instance:Siz Tryz.prog 7 4:=⟨by kernel_rfl⟩
instance:Zro Tryz.prog 7 (.agg #[(.int .i64 0),(.int .i64 0),(.bool false),(.int .u8 0)]):=⟨by kernel_rfl⟩
instance:Und Tryz.prog 9 .string:=⟨Tryz.underlying9⟩
instance:AggC Tryz.prog 9 false:=⟨_,Tryz.underlying9,rfl⟩
instance:Siz Tryz.prog 9 1:=⟨by kernel_rfl⟩
instance:Zro Tryz.prog 9 (.string ⟨#[]⟩):=⟨by kernel_rfl⟩
instance:Und Tryz.prog 12 (.int .u64):=⟨Tryz.underlying12⟩
instance:AggC Tryz.prog 12 false:=⟨_,Tryz.underlying12,rfl⟩
instance:Siz Tryz.prog 12 1:=⟨by kernel_rfl⟩
instance:Zro Tryz.prog 12 (.int .u64 0):=⟨by kernel_rfl⟩
instance:AggC Tryz.prog 13 true:=⟨_,Tryz.underlying13,rfl⟩
instance:Siz Tryz.prog 13 2:=⟨by kernel_rfl⟩
instance:Zro Tryz.prog 13 (.agg #[(.string ⟨#[]⟩),(.int .u64 0)]):=⟨by kernel_rfl⟩
instance:Und Tryz.prog 15 (.pointer 272):=⟨Tryz.underlying15⟩
instance:AggC Tryz.prog 15 false:=⟨_,Tryz.underlying15,rfl⟩
instance:Siz Tryz.prog 15 1:=⟨by kernel_rfl⟩
instance:Zro Tryz.prog 15 (.pointer none):=⟨by kernel_rfl⟩
instance:Und Tryz.prog 16 (.pointer 275):=⟨Tryz.underlying16⟩
instance:AggC Tryz.prog 16 false:=⟨_,Tryz.underlying16,rfl⟩
instance:Siz Tryz.prog 16 1:=⟨by kernel_rfl⟩
instance:Zro Tryz.prog 16 (.pointer none):=⟨by kernel_rfl⟩
instance:Und Tryz.prog 17 (.pointer 283):=⟨Tryz.underlying17⟩
instance:AggC Tryz.prog 17 false:=⟨_,Tryz.underlying17,rfl⟩
instance:Siz Tryz.prog 17 1:=⟨by kernel_rfl⟩
instance:Zro Tryz.prog 17 (.pointer none):=⟨by kernel_rfl⟩
instance:AggC Tryz.prog 18 true:=⟨_,Tryz.underlying18,rfl⟩
instance:Siz Tryz.prog 18 1:=⟨by kernel_rfl⟩
instance:Zro Tryz.prog 18 (.agg #[(.pointer none)]):=⟨by kernel_rfl⟩
instance:Und Tryz.prog 21 (.int .i32):=⟨Tryz.underlying21⟩
instance:AggC Tryz.prog 21 false:=⟨_,Tryz.underlying21,rfl⟩
instance:Siz Tryz.prog 21 1:=⟨by kernel_rfl⟩
instance:Zro Tryz.prog 21 (.int .i32 0):=⟨by kernel_rfl⟩
instance:Und Tryz.prog 22 (.slice 114):=⟨Tryz.underlying22⟩
instance:AggC Tryz.prog 22 false:=⟨_,Tryz.underlying22,rfl⟩
instance:Siz Tryz.prog 22 1:=⟨by kernel_rfl⟩
instance:Zro Tryz.prog 22 (.slice none 0 0):=⟨by kernel_rfl⟩
instance:TIc Tryz.prog 22 114 3 40:=⟨TI.mk' Tryz.underlying22 (by kernel_rfl)⟩
instance:Und Tryz.prog 23 (.slice 70):=⟨Tryz.underlying23⟩
instance:AggC Tryz.prog 23 false:=⟨_,Tryz.underlying23,rfl⟩
instance:Siz Tryz.prog 23 1:=⟨by kernel_rfl⟩
instance:Zro Tryz.prog 23 (.slice none 0 0):=⟨by kernel_rfl⟩
instance:TIc Tryz.prog 23 70 7 72:=⟨TI.mk' Tryz.underlying23 (by kernel_rfl)⟩
instance:Und Tryz.prog 24 (.slice 117):=⟨Tryz.underlying24⟩
instance:AggC Tryz.prog 24 false:=⟨_,Tryz.underlying24,rfl⟩
instance:Siz Tryz.prog 24 1:=⟨by kernel_rfl⟩
instance:Zro Tryz.prog 24 (.slice none 0 0):=⟨by kernel_rfl⟩
instance:TIc Tryz.prog 24 117 4 64:=⟨TI.mk' Tryz.underlying24 (by kernel_rfl)⟩
instance:AggC Tryz.prog 25 true:=⟨_,Tryz.underlying25,rfl⟩
instance:Siz Tryz.prog 25 5:=⟨by kernel_rfl⟩
instance:Zro Tryz.prog 25 (.agg #[(.int .i64 0),(.slice none 0 0),(.slice none 0 0),(.slice none 0 0),(.int .i64 0)]):=⟨by kernel_rfl⟩
instance:FldC Tryz.prog 25 0 0:=⟨Fld.mk' Tryz.underlying25 (by kernel_rfl)⟩
instance:FldC Tryz.prog 25 1 1:=⟨Fld.mk' Tryz.underlying25 (by kernel_rfl)⟩
instance:FldC Tryz.prog 25 2 2:=⟨Fld.mk' Tryz.underlying25 (by kernel_rfl)⟩
instance:FldC Tryz.prog 25 3 3:=⟨Fld.mk' Tryz.underlying25 (by kernel_rfl)⟩
instance:FldC Tryz.prog 25 4 4:=⟨Fld.mk' Tryz.underlying25 (by kernel_rfl)⟩
instance:PlsC Tryz.prog 25 [(0,1),(1,1),(2,1),(3,1),(4,1)]:=⟨by kernel_rfl⟩
instance:AggC Tryz.prog 26 true:=⟨_,Tryz.underlying26,rfl⟩
instance:Siz Tryz.prog 26 5:=⟨by kernel_rfl⟩
instance:Zro Tryz.prog 26 (.agg #[(.int .i64 0),(.slice none 0 0),(.slice none 0 0),(.slice none 0 0),(.int .i64 0)]):=⟨by kernel_rfl⟩
instance:FldC Tryz.prog 26 0 0:=⟨Fld.mk' Tryz.underlying26 (by kernel_rfl)⟩
instance:FldC Tryz.prog 26 1 1:=⟨Fld.mk' Tryz.underlying26 (by kernel_rfl)⟩
instance:FldC Tryz.prog 26 2 2:=⟨Fld.mk' Tryz.underlying26 (by kernel_rfl)⟩
instance:FldC Tryz.prog 26 3 3:=⟨Fld.mk' Tryz.underlying26 (by kernel_rfl)⟩
instance:FldC Tryz.prog 26 4 4:=⟨Fld.mk' Tryz.underlying26 (by kernel_rfl)⟩
instance:PlsC Tryz.prog 26 [(0,1),(1,1),(2,1),(3,1),(4,1)]:=⟨by kernel_rfl⟩
instance:Und Tryz.prog 29 (.slice 5):=⟨Tryz.underlying29⟩
instance:AggC Tryz.prog 29 false:=⟨_,Tryz.underlying29,rfl⟩
instance:Siz Tryz.prog 29 1:=⟨by kernel_rfl⟩
instance:Zro Tryz.prog 29 (.slice none 0 0):=⟨by kernel_rfl⟩
instance:TIc Tryz.prog 29 5 1 1:=⟨TI.mk' Tryz.underlying29 (by kernel_rfl)⟩
instance:Und Tryz.prog 30 (.int .i64):=⟨Tryz.underlying30⟩
instance:AggC Tryz.prog 30 false:=⟨_,Tryz.underlying30,rfl⟩
instance:Siz Tryz.prog 30 1:=⟨by kernel_rfl⟩
instance:Zro Tryz.prog 30 (.int .i64 0):=⟨by kernel_rfl⟩
instance:AggC Tryz.prog 38 true:=⟨_,Tryz.underlying38,rfl⟩
instance:Siz Tryz.prog 38 14:=⟨by kernel_rfl⟩
instance:Zro Tryz.prog 38 (.agg #[(.int .i64 0),(.int .i64 0),(.slice none 0 0),(.slice none 0 0),(.slice none 0 0),(.int .i64 0),(.string ⟨#[]⟩),(.int .i64 0),(.string ⟨#[]⟩),(.int .i64 0),(.int .i64 0),(.int .i64 0),(.slice none 0 0),(.slice none 0 0)]):=⟨by kernel_rfl⟩
instance:FldC Tryz.prog 38 0 0:=⟨Fld.mk' Tryz.underlying38 (by kernel_rfl)⟩
instance:FldC Tryz.prog 38 1 1:=⟨Fld.mk' Tryz.underlying38 (by kernel_rfl)⟩
instance:FldC Tryz.prog 38 2 6:=⟨Fld.mk' Tryz.underlying38 (by kernel_rfl)⟩
instance:FldC Tryz.prog 38 3 7:=⟨Fld.mk' Tryz.underlying38 (by kernel_rfl)⟩
instance:FldC Tryz.prog 38 4 8:=⟨Fld.mk' Tryz.underlying38 (by kernel_rfl)⟩
instance:FldC Tryz.prog 38 5 9:=⟨Fld.mk' Tryz.underlying38 (by kernel_rfl)⟩
instance:FldC Tryz.prog 38 6 10:=⟨Fld.mk' Tryz.underlying38 (by kernel_rfl)⟩
instance:FldC Tryz.prog 38 7 11:=⟨Fld.mk' Tryz.underlying38 (by kernel_rfl)⟩
instance:FldC Tryz.prog 38 8 12:=⟨Fld.mk' Tryz.underlying38 (by kernel_rfl)⟩
instance:FldC Tryz.prog 38 9 13:=⟨Fld.mk' Tryz.underlying38 (by kernel_rfl)⟩
instance:PlsC Tryz.prog 38 [(0,1),(1,5),(6,1),(7,1),(8,1),(9,1),(10,1),(11,1),(12,1),(13,1)]:=⟨by kernel_rfl⟩
instance:AggC Tryz.prog 39 true:=⟨_,Tryz.underlying39,rfl⟩
instance:Siz Tryz.prog 39 14:=⟨by kernel_rfl⟩
instance:Zro Tryz.prog 39 (.agg #[(.int .i64 0),(.int .i64 0),(.slice none 0 0),(.slice none 0 0),(.slice none 0 0),(.int .i64 0),(.string ⟨#[]⟩),(.int .i64 0),(.string ⟨#[]⟩),(.int .i64 0),(.int .i64 0),(.int .i64 0),(.slice none 0 0),(.slice none 0 0)]):=⟨by kernel_rfl⟩
instance:FldC Tryz.prog 39 0 0:=⟨Fld.mk' Tryz.underlying39 (by kernel_rfl)⟩
instance:FldC Tryz.prog 39 1 1:=⟨Fld.mk' Tryz.underlying39 (by kernel_rfl)⟩
instance:FldC Tryz.prog 39 2 6:=⟨Fld.mk' Tryz.underlying39 (by kernel_rfl)⟩
instance:FldC Tryz.prog 39 3 7:=⟨Fld.mk' Tryz.underlying39 (by kernel_rfl)⟩
instance:FldC Tryz.prog 39 4 8:=⟨Fld.mk' Tryz.underlying39 (by kernel_rfl)⟩
instance:FldC Tryz.prog 39 5 9:=⟨Fld.mk' Tryz.underlying39 (by kernel_rfl)⟩
instance:FldC Tryz.prog 39 6 10:=⟨Fld.mk' Tryz.underlying39 (by kernel_rfl)⟩
instance:FldC Tryz.prog 39 7 11:=⟨Fld.mk' Tryz.underlying39 (by kernel_rfl)⟩
instance:FldC Tryz.prog 39 8 12:=⟨Fld.mk' Tryz.underlying39 (by kernel_rfl)⟩
instance:FldC Tryz.prog 39 9 13:=⟨Fld.mk' Tryz.underlying39 (by kernel_rfl)⟩
instance:PlsC Tryz.prog 39 [(0,1),(1,5),(6,1),(7,1),(8,1),(9,1),(10,1),(11,1),(12,1),(13,1)]:=⟨by kernel_rfl⟩
instance:AggC Tryz.prog 42 true:=⟨_,Tryz.underlying42,rfl⟩
instance:Siz Tryz.prog 42 14:=⟨by kernel_rfl⟩
instance:Zro Tryz.prog 42 (.agg #[(.int .i64 0),(.int .i64 0),(.slice none 0 0),(.slice none 0 0),(.slice none 0 0),(.int .i64 0),(.string ⟨#[]⟩),(.int .i64 0),(.string ⟨#[]⟩),(.int .i64 0),(.int .i64 0),(.int .i64 0),(.slice none 0 0),(.slice none 0 0)]):=⟨by kernel_rfl⟩
instance:FldC Tryz.prog 42 0 0:=⟨Fld.mk' Tryz.underlying42 (by kernel_rfl)⟩
instance:FldC Tryz.prog 42 1 1:=⟨Fld.mk' Tryz.underlying42 (by kernel_rfl)⟩
instance:FldC Tryz.prog 42 2 6:=⟨Fld.mk' Tryz.underlying42 (by kernel_rfl)⟩
instance:FldC Tryz.prog 42 3 7:=⟨Fld.mk' Tryz.underlying42 (by kernel_rfl)⟩
instance:FldC Tryz.prog 42 4 8:=⟨Fld.mk' Tryz.underlying42 (by kernel_rfl)⟩
instance:FldC Tryz.prog 42 5 9:=⟨Fld.mk' Tryz.underlying42 (by kernel_rfl)⟩
instance:FldC Tryz.prog 42 6 10:=⟨Fld.mk' Tryz.underlying42 (by kernel_rfl)⟩
instance:FldC Tryz.prog 42 7 11:=⟨Fld.mk' Tryz.underlying42 (by kernel_rfl)⟩
instance:FldC Tryz.prog 42 8 12:=⟨Fld.mk' Tryz.underlying42 (by kernel_rfl)⟩
instance:FldC Tryz.prog 42 9 13:=⟨Fld.mk' Tryz.underlying42 (by kernel_rfl)⟩
instance:PlsC Tryz.prog 42 [(0,1),(1,5),(6,1),(7,1),(8,1),(9,1),(10,1),(11,1),(12,1),(13,1)]:=⟨by kernel_rfl⟩
instance:AggC Tryz.prog 56 true:=⟨_,Tryz.underlying56,rfl⟩
instance:Siz Tryz.prog 56 3:=⟨by kernel_rfl⟩
instance:Zro Tryz.prog 56 (.agg #[(.slice none 0 0),(.slice none 0 0),(.slice none 0 0)]):=⟨by kernel_rfl⟩
instance:FldC Tryz.prog 56 0 0:=⟨Fld.mk' Tryz.underlying56 (by kernel_rfl)⟩
instance:FldC Tryz.prog 56 1 1:=⟨Fld.mk' Tryz.underlying56 (by kernel_rfl)⟩
instance:FldC Tryz.prog 56 2 2:=⟨Fld.mk' Tryz.underlying56 (by kernel_rfl)⟩
instance:PlsC Tryz.prog 56 [(0,1),(1,1),(2,1)]:=⟨by kernel_rfl⟩
instance:AggC Tryz.prog 57 true:=⟨_,Tryz.underlying57,rfl⟩
instance:Siz Tryz.prog 57 3:=⟨by kernel_rfl⟩
instance:Zro Tryz.prog 57 (.agg #[(.slice none 0 0),(.slice none 0 0),(.slice none 0 0)]):=⟨by kernel_rfl⟩
instance:FldC Tryz.prog 57 0 0:=⟨Fld.mk' Tryz.underlying57 (by kernel_rfl)⟩
instance:FldC Tryz.prog 57 1 1:=⟨Fld.mk' Tryz.underlying57 (by kernel_rfl)⟩
instance:FldC Tryz.prog 57 2 2:=⟨Fld.mk' Tryz.underlying57 (by kernel_rfl)⟩
instance:PlsC Tryz.prog 57 [(0,1),(1,1),(2,1)]:=⟨by kernel_rfl⟩
instance:AggC Tryz.prog 67 true:=⟨_,Tryz.underlying67,rfl⟩
instance:Siz Tryz.prog 67 2:=⟨by kernel_rfl⟩
instance:Zro Tryz.prog 67 (.agg #[(.int .i64 0),(.int .i64 0)]):=⟨by kernel_rfl⟩
instance:FldC Tryz.prog 67 0 0:=⟨Fld.mk' Tryz.underlying67 (by kernel_rfl)⟩
instance:FldC Tryz.prog 67 1 1:=⟨Fld.mk' Tryz.underlying67 (by kernel_rfl)⟩
instance:PlsC Tryz.prog 67 [(0,1),(1,1)]:=⟨by kernel_rfl⟩
instance:AggC Tryz.prog 68 true:=⟨_,Tryz.underlying68,rfl⟩
instance:Siz Tryz.prog 68 2:=⟨by kernel_rfl⟩
instance:Zro Tryz.prog 68 (.agg #[(.int .i64 0),(.int .i64 0)]):=⟨by kernel_rfl⟩
instance:FldC Tryz.prog 68 0 0:=⟨Fld.mk' Tryz.underlying68 (by kernel_rfl)⟩
instance:FldC Tryz.prog 68 1 1:=⟨Fld.mk' Tryz.underlying68 (by kernel_rfl)⟩
instance:PlsC Tryz.prog 68 [(0,1),(1,1)]:=⟨by kernel_rfl⟩
instance:AggC Tryz.prog 69 true:=⟨_,Tryz.underlying69,rfl⟩
instance:Siz Tryz.prog 69 7:=⟨by kernel_rfl⟩
instance:Zro Tryz.prog 69 (.agg #[(.string ⟨#[]⟩),(.int .i64 0),(.int .i64 0),(.int .i64 0),(.int .i64 0),(.bool false),(.string ⟨#[]⟩)]):=⟨by kernel_rfl⟩
instance:FldC Tryz.prog 69 0 0:=⟨Fld.mk' Tryz.underlying69 (by kernel_rfl)⟩
instance:FldC Tryz.prog 69 1 1:=⟨Fld.mk' Tryz.underlying69 (by kernel_rfl)⟩
instance:FldC Tryz.prog 69 2 3:=⟨Fld.mk' Tryz.underlying69 (by kernel_rfl)⟩
instance:FldC Tryz.prog 69 3 4:=⟨Fld.mk' Tryz.underlying69 (by kernel_rfl)⟩
instance:FldC Tryz.prog 69 4 5:=⟨Fld.mk' Tryz.underlying69 (by kernel_rfl)⟩
instance:FldC Tryz.prog 69 5 6:=⟨Fld.mk' Tryz.underlying69 (by kernel_rfl)⟩
instance:PlsC Tryz.prog 69 [(0,1),(1,2),(3,1),(4,1),(5,1),(6,1)]:=⟨by kernel_rfl⟩
instance:AggC Tryz.prog 70 true:=⟨_,Tryz.underlying70,rfl⟩
instance:Siz Tryz.prog 70 7:=⟨by kernel_rfl⟩
instance:Zro Tryz.prog 70 (.agg #[(.string ⟨#[]⟩),(.int .i64 0),(.int .i64 0),(.int .i64 0),(.int .i64 0),(.bool false),(.string ⟨#[]⟩)]):=⟨by kernel_rfl⟩
instance:FldC Tryz.prog 70 0 0:=⟨Fld.mk' Tryz.underlying70 (by kernel_rfl)⟩
instance:FldC Tryz.prog 70 1 1:=⟨Fld.mk' Tryz.underlying70 (by kernel_rfl)⟩
instance:FldC Tryz.prog 70 2 3:=⟨Fld.mk' Tryz.underlying70 (by kernel_rfl)⟩
instance:FldC Tryz.prog 70 3 4:=⟨Fld.mk' Tryz.underlying70 (by kernel_rfl)⟩
instance:FldC Tryz.prog 70 4 5:=⟨Fld.mk' Tryz.underlying70 (by kernel_rfl)⟩
instance:FldC Tryz.prog 70 5 6:=⟨Fld.mk' Tryz.underlying70 (by kernel_rfl)⟩
instance:PlsC Tryz.prog 70 [(0,1),(1,2),(3,1),(4,1),(5,1),(6,1)]:=⟨by kernel_rfl⟩
instance:Und Tryz.prog 73 (.pointer 140):=⟨Tryz.underlying73⟩
instance:AggC Tryz.prog 73 false:=⟨_,Tryz.underlying73,rfl⟩
instance:Siz Tryz.prog 73 1:=⟨by kernel_rfl⟩
instance:Zro Tryz.prog 73 (.pointer none):=⟨by kernel_rfl⟩
instance:AggC Tryz.prog 75 true:=⟨_,Tryz.underlying75,rfl⟩
instance:Siz Tryz.prog 75 1:=⟨by kernel_rfl⟩
instance:Zro Tryz.prog 75 (.agg #[(.pointer none)]):=⟨by kernel_rfl⟩
instance:FldC Tryz.prog 75 0 0:=⟨Fld.mk' Tryz.underlying75 (by kernel_rfl)⟩
instance:PlsC Tryz.prog 75 [(0,1)]:=⟨by kernel_rfl⟩
instance:AggC Tryz.prog 76 true:=⟨_,Tryz.underlying76,rfl⟩
instance:Siz Tryz.prog 76 1:=⟨by kernel_rfl⟩
instance:Zro Tryz.prog 76 (.agg #[(.pointer none)]):=⟨by kernel_rfl⟩
instance:FldC Tryz.prog 76 0 0:=⟨Fld.mk' Tryz.underlying76 (by kernel_rfl)⟩
instance:PlsC Tryz.prog 76 [(0,1)]:=⟨by kernel_rfl⟩
instance:Und Tryz.prog 87 (.slice 3):=⟨Tryz.underlying87⟩
instance:AggC Tryz.prog 87 false:=⟨_,Tryz.underlying87,rfl⟩
instance:Siz Tryz.prog 87 1:=⟨by kernel_rfl⟩
instance:Zro Tryz.prog 87 (.slice none 0 0):=⟨by kernel_rfl⟩
instance:TIc Tryz.prog 87 3 1 8:=⟨TI.mk' Tryz.underlying87 (by kernel_rfl)⟩
instance:Und Tryz.prog 103 (.pointer 105):=⟨Tryz.underlying103⟩
instance:AggC Tryz.prog 103 false:=⟨_,Tryz.underlying103,rfl⟩
instance:Siz Tryz.prog 103 1:=⟨by kernel_rfl⟩
instance:Zro Tryz.prog 103 (.pointer none):=⟨by kernel_rfl⟩
instance:AggC Tryz.prog 104 true:=⟨_,Tryz.underlying104,rfl⟩
instance:Siz Tryz.prog 104 3:=⟨by kernel_rfl⟩
instance:Zro Tryz.prog 104 (.agg #[(.slice none 0 0),(.int .i64 0),(.int .i64 0)]):=⟨by kernel_rfl⟩
instance:FldC Tryz.prog 104 0 0:=⟨Fld.mk' Tryz.underlying104 (by kernel_rfl)⟩
instance:FldC Tryz.prog 104 1 1:=⟨Fld.mk' Tryz.underlying104 (by kernel_rfl)⟩
instance:FldC Tryz.prog 104 2 2:=⟨Fld.mk' Tryz.underlying104 (by kernel_rfl)⟩
instance:PlsC Tryz.prog 104 [(0,1),(1,1),(2,1)]:=⟨by kernel_rfl⟩
instance:AggC Tryz.prog 105 true:=⟨_,Tryz.underlying105,rfl⟩
instance:Siz Tryz.prog 105 3:=⟨by kernel_rfl⟩
instance:Zro Tryz.prog 105 (.agg #[(.slice none 0 0),(.int .i64 0),(.int .i64 0)]):=⟨by kernel_rfl⟩
instance:FldC Tryz.prog 105 0 0:=⟨Fld.mk' Tryz.underlying105 (by kernel_rfl)⟩
instance:FldC Tryz.prog 105 1 1:=⟨Fld.mk' Tryz.underlying105 (by kernel_rfl)⟩
instance:FldC Tryz.prog 105 2 2:=⟨Fld.mk' Tryz.underlying105 (by kernel_rfl)⟩
instance:PlsC Tryz.prog 105 [(0,1),(1,1),(2,1)]:=⟨by kernel_rfl⟩
instance:AggC Tryz.prog 113 true:=⟨_,Tryz.underlying113,rfl⟩
instance:Siz Tryz.prog 113 3:=⟨by kernel_rfl⟩
instance:Zro Tryz.prog 113 (.agg #[(.string ⟨#[]⟩),(.string ⟨#[]⟩),(.bool false)]):=⟨by kernel_rfl⟩
instance:FldC Tryz.prog 113 0 0:=⟨Fld.mk' Tryz.underlying113 (by kernel_rfl)⟩
instance:FldC Tryz.prog 113 1 1:=⟨Fld.mk' Tryz.underlying113 (by kernel_rfl)⟩
instance:FldC Tryz.prog 113 2 2:=⟨Fld.mk' Tryz.underlying113 (by kernel_rfl)⟩
instance:PlsC Tryz.prog 113 [(0,1),(1,1),(2,1)]:=⟨by kernel_rfl⟩
instance:AggC Tryz.prog 114 true:=⟨_,Tryz.underlying114,rfl⟩
instance:Siz Tryz.prog 114 3:=⟨by kernel_rfl⟩
instance:Zro Tryz.prog 114 (.agg #[(.string ⟨#[]⟩),(.string ⟨#[]⟩),(.bool false)]):=⟨by kernel_rfl⟩
instance:FldC Tryz.prog 114 0 0:=⟨Fld.mk' Tryz.underlying114 (by kernel_rfl)⟩
instance:FldC Tryz.prog 114 1 1:=⟨Fld.mk' Tryz.underlying114 (by kernel_rfl)⟩
instance:FldC Tryz.prog 114 2 2:=⟨Fld.mk' Tryz.underlying114 (by kernel_rfl)⟩
instance:PlsC Tryz.prog 114 [(0,1),(1,1),(2,1)]:=⟨by kernel_rfl⟩
instance:Und Tryz.prog 115 (.slice 132):=⟨Tryz.underlying115⟩
instance:AggC Tryz.prog 115 false:=⟨_,Tryz.underlying115,rfl⟩
instance:Siz Tryz.prog 115 1:=⟨by kernel_rfl⟩
instance:Zro Tryz.prog 115 (.slice none 0 0):=⟨by kernel_rfl⟩
instance:TIc Tryz.prog 115 132 2 32:=⟨TI.mk' Tryz.underlying115 (by kernel_rfl)⟩
instance:AggC Tryz.prog 116 true:=⟨_,Tryz.underlying116,rfl⟩
instance:Siz Tryz.prog 116 4:=⟨by kernel_rfl⟩
instance:Zro Tryz.prog 116 (.agg #[(.string ⟨#[]⟩),(.string ⟨#[]⟩),(.bool false),(.slice none 0 0)]):=⟨by kernel_rfl⟩
instance:FldC Tryz.prog 116 0 0:=⟨Fld.mk' Tryz.underlying116 (by kernel_rfl)⟩
instance:FldC Tryz.prog 116 1 3:=⟨Fld.mk' Tryz.underlying116 (by kernel_rfl)⟩
instance:PlsC Tryz.prog 116 [(0,3),(3,1)]:=⟨by kernel_rfl⟩
instance:AggC Tryz.prog 117 true:=⟨_,Tryz.underlying117,rfl⟩
instance:Siz Tryz.prog 117 4:=⟨by kernel_rfl⟩
instance:Zro Tryz.prog 117 (.agg #[(.string ⟨#[]⟩),(.string ⟨#[]⟩),(.bool false),(.slice none 0 0)]):=⟨by kernel_rfl⟩
instance:FldC Tryz.prog 117 0 0:=⟨Fld.mk' Tryz.underlying117 (by kernel_rfl)⟩
instance:FldC Tryz.prog 117 1 3:=⟨Fld.mk' Tryz.underlying117 (by kernel_rfl)⟩
instance:PlsC Tryz.prog 117 [(0,3),(3,1)]:=⟨by kernel_rfl⟩
instance:Und Tryz.prog 119 (.slice 60):=⟨Tryz.underlying119⟩
instance:AggC Tryz.prog 119 false:=⟨_,Tryz.underlying119,rfl⟩
instance:Siz Tryz.prog 119 1:=⟨by kernel_rfl⟩
instance:Zro Tryz.prog 119 (.slice none 0 0):=⟨by kernel_rfl⟩
instance:TIc Tryz.prog 119 60 1 8:=⟨TI.mk' Tryz.underlying119 (by kernel_rfl)⟩
instance:Und Tryz.prog 130 (.slice 134):=⟨Tryz.underlying130⟩
instance:AggC Tryz.prog 130 false:=⟨_,Tryz.underlying130,rfl⟩
instance:Siz Tryz.prog 130 1:=⟨by kernel_rfl⟩
instance:Zro Tryz.prog 130 (.slice none 0 0):=⟨by kernel_rfl⟩
instance:TIc Tryz.prog 130 134 2 16:=⟨TI.mk' Tryz.underlying130 (by kernel_rfl)⟩
instance:AggC Tryz.prog 131 true:=⟨_,Tryz.underlying131,rfl⟩
instance:Siz Tryz.prog 131 2:=⟨by kernel_rfl⟩
instance:Zro Tryz.prog 131 (.agg #[(.int .i64 0),(.slice none 0 0)]):=⟨by kernel_rfl⟩
instance:FldC Tryz.prog 131 0 0:=⟨Fld.mk' Tryz.underlying131 (by kernel_rfl)⟩
instance:FldC Tryz.prog 131 1 1:=⟨Fld.mk' Tryz.underlying131 (by kernel_rfl)⟩
instance:PlsC Tryz.prog 131 [(0,1),(1,1)]:=⟨by kernel_rfl⟩
instance:AggC Tryz.prog 132 true:=⟨_,Tryz.underlying132,rfl⟩
instance:Siz Tryz.prog 132 2:=⟨by kernel_rfl⟩
instance:Zro Tryz.prog 132 (.agg #[(.int .i64 0),(.slice none 0 0)]):=⟨by kernel_rfl⟩
instance:FldC Tryz.prog 132 0 0:=⟨Fld.mk' Tryz.underlying132 (by kernel_rfl)⟩
instance:FldC Tryz.prog 132 1 1:=⟨Fld.mk' Tryz.underlying132 (by kernel_rfl)⟩
instance:PlsC Tryz.prog 132 [(0,1),(1,1)]:=⟨by kernel_rfl⟩
instance:AggC Tryz.prog 133 true:=⟨_,Tryz.underlying133,rfl⟩
instance:Siz Tryz.prog 133 2:=⟨by kernel_rfl⟩
instance:Zro Tryz.prog 133 (.agg #[(.int .i64 0),(.int .i64 0)]):=⟨by kernel_rfl⟩
instance:FldC Tryz.prog 133 0 0:=⟨Fld.mk' Tryz.underlying133 (by kernel_rfl)⟩
instance:FldC Tryz.prog 133 1 1:=⟨Fld.mk' Tryz.underlying133 (by kernel_rfl)⟩
instance:PlsC Tryz.prog 133 [(0,1),(1,1)]:=⟨by kernel_rfl⟩
instance:AggC Tryz.prog 134 true:=⟨_,Tryz.underlying134,rfl⟩
instance:Siz Tryz.prog 134 2:=⟨by kernel_rfl⟩
instance:Zro Tryz.prog 134 (.agg #[(.int .i64 0),(.int .i64 0)]):=⟨by kernel_rfl⟩
instance:FldC Tryz.prog 134 0 0:=⟨Fld.mk' Tryz.underlying134 (by kernel_rfl)⟩
instance:FldC Tryz.prog 134 1 1:=⟨Fld.mk' Tryz.underlying134 (by kernel_rfl)⟩
instance:PlsC Tryz.prog 134 [(0,1),(1,1)]:=⟨by kernel_rfl⟩
instance:AggC Tryz.prog 137 true:=⟨_,Tryz.underlying137,rfl⟩
instance:Siz Tryz.prog 137 2:=⟨by kernel_rfl⟩
instance:Zro Tryz.prog 137 (.agg #[(.slice none 0 0),(.int .i64 0)]):=⟨by kernel_rfl⟩
instance:FldC Tryz.prog 137 0 0:=⟨Fld.mk' Tryz.underlying137 (by kernel_rfl)⟩
instance:FldC Tryz.prog 137 1 1:=⟨Fld.mk' Tryz.underlying137 (by kernel_rfl)⟩
instance:PlsC Tryz.prog 137 [(0,1),(1,1)]:=⟨by kernel_rfl⟩
instance:AggC Tryz.prog 138 true:=⟨_,Tryz.underlying138,rfl⟩
instance:Siz Tryz.prog 138 2:=⟨by kernel_rfl⟩
instance:Zro Tryz.prog 138 (.agg #[(.slice none 0 0),(.int .i64 0)]):=⟨by kernel_rfl⟩
instance:FldC Tryz.prog 138 0 0:=⟨Fld.mk' Tryz.underlying138 (by kernel_rfl)⟩
instance:FldC Tryz.prog 138 1 1:=⟨Fld.mk' Tryz.underlying138 (by kernel_rfl)⟩
instance:PlsC Tryz.prog 138 [(0,1),(1,1)]:=⟨by kernel_rfl⟩
instance:AggC Tryz.prog 139 true:=⟨_,Tryz.underlying139,rfl⟩
instance:Siz Tryz.prog 139 2:=⟨by kernel_rfl⟩
instance:Zro Tryz.prog 139 (.agg #[(.slice none 0 0),(.int .i64 0)]):=⟨by kernel_rfl⟩
instance:FldC Tryz.prog 139 0 0:=⟨Fld.mk' Tryz.underlying139 (by kernel_rfl)⟩
instance:PlsC Tryz.prog 139 [(0,2)]:=⟨by kernel_rfl⟩
instance:AggC Tryz.prog 140 true:=⟨_,Tryz.underlying140,rfl⟩
instance:Siz Tryz.prog 140 2:=⟨by kernel_rfl⟩
instance:Zro Tryz.prog 140 (.agg #[(.slice none 0 0),(.int .i64 0)]):=⟨by kernel_rfl⟩
instance:FldC Tryz.prog 140 0 0:=⟨Fld.mk' Tryz.underlying140 (by kernel_rfl)⟩
instance:PlsC Tryz.prog 140 [(0,2)]:=⟨by kernel_rfl⟩
instance:AggC Tryz.prog 143 true:=⟨_,Tryz.underlying143,rfl⟩
instance:Siz Tryz.prog 143 1:=⟨by kernel_rfl⟩
instance:Zro Tryz.prog 143 (.agg #[(.pointer none)]):=⟨by kernel_rfl⟩
instance:FldC Tryz.prog 143 0 0:=⟨Fld.mk' Tryz.underlying143 (by kernel_rfl)⟩
instance:PlsC Tryz.prog 143 [(0,1)]:=⟨by kernel_rfl⟩
instance:AggC Tryz.prog 147 true:=⟨_,Tryz.underlying147,rfl⟩
instance:Siz Tryz.prog 147 1:=⟨by kernel_rfl⟩
instance:Zro Tryz.prog 147 (.agg #[(.pointer none)]):=⟨by kernel_rfl⟩
instance:FldC Tryz.prog 147 0 0:=⟨Fld.mk' Tryz.underlying147 (by kernel_rfl)⟩
instance:PlsC Tryz.prog 147 [(0,1)]:=⟨by kernel_rfl⟩
instance:AggC Tryz.prog 150 true:=⟨_,Tryz.underlying150,rfl⟩
instance:Siz Tryz.prog 150 1:=⟨by kernel_rfl⟩
instance:Zro Tryz.prog 150 (.agg #[(.pointer none)]):=⟨by kernel_rfl⟩
instance:FldC Tryz.prog 150 0 0:=⟨Fld.mk' Tryz.underlying150 (by kernel_rfl)⟩
instance:PlsC Tryz.prog 150 [(0,1)]:=⟨by kernel_rfl⟩
instance:Und Tryz.prog 155 (.slice 9):=⟨Tryz.underlying155⟩
instance:AggC Tryz.prog 155 false:=⟨_,Tryz.underlying155,rfl⟩
instance:Siz Tryz.prog 155 1:=⟨by kernel_rfl⟩
instance:Zro Tryz.prog 155 (.slice none 0 0):=⟨by kernel_rfl⟩
instance:TIc Tryz.prog 155 9 1 16:=⟨TI.mk' Tryz.underlying155 (by kernel_rfl)⟩
instance:Und Tryz.prog 172 (.slice 68):=⟨Tryz.underlying172⟩
instance:AggC Tryz.prog 172 false:=⟨_,Tryz.underlying172,rfl⟩
instance:Siz Tryz.prog 172 1:=⟨by kernel_rfl⟩
instance:Zro Tryz.prog 172 (.slice none 0 0):=⟨by kernel_rfl⟩
instance:TIc Tryz.prog 172 68 2 16:=⟨TI.mk' Tryz.underlying172 (by kernel_rfl)⟩
instance:Und Tryz.prog 187 (.pointer 138):=⟨Tryz.underlying187⟩
instance:AggC Tryz.prog 187 false:=⟨_,Tryz.underlying187,rfl⟩
instance:Siz Tryz.prog 187 1:=⟨by kernel_rfl⟩
instance:Zro Tryz.prog 187 (.pointer none):=⟨by kernel_rfl⟩
instance:Und Tryz.prog 197 (.slice 24):=⟨Tryz.underlying197⟩
instance:AggC Tryz.prog 197 false:=⟨_,Tryz.underlying197,rfl⟩
instance:Siz Tryz.prog 197 1:=⟨by kernel_rfl⟩
instance:Zro Tryz.prog 197 (.slice none 0 0):=⟨by kernel_rfl⟩
instance:TIc Tryz.prog 197 24 1 24:=⟨TI.mk' Tryz.underlying197 (by kernel_rfl)⟩
instance:Und Tryz.prog 201 (.array 16 130):=⟨Tryz.underlying201⟩
instance:AggC Tryz.prog 201 true:=⟨_,Tryz.underlying201,rfl⟩
instance:Siz Tryz.prog 201 16:=⟨by kernel_rfl⟩
instance:Zro Tryz.prog 201 (.agg #[(.slice none 0 0),(.slice none 0 0),(.slice none 0 0),(.slice none 0 0),(.slice none 0 0),(.slice none 0 0),(.slice none 0 0),(.slice none 0 0),(.slice none 0 0),(.slice none 0 0),(.slice none 0 0),(.slice none 0 0),(.slice none 0 0),(.slice none 0 0),(.slice none 0 0),(.slice none 0 0)]):=⟨by kernel_rfl⟩
instance:Und Tryz.prog 202 (.array 16 130):=⟨Tryz.underlying202⟩
instance:AggC Tryz.prog 202 true:=⟨_,Tryz.underlying202,rfl⟩
instance:Siz Tryz.prog 202 16:=⟨by kernel_rfl⟩
instance:Zro Tryz.prog 202 (.agg #[(.slice none 0 0),(.slice none 0 0),(.slice none 0 0),(.slice none 0 0),(.slice none 0 0),(.slice none 0 0),(.slice none 0 0),(.slice none 0 0),(.slice none 0 0),(.slice none 0 0),(.slice none 0 0),(.slice none 0 0),(.slice none 0 0),(.slice none 0 0),(.slice none 0 0),(.slice none 0 0)]):=⟨by kernel_rfl⟩
instance:Und Tryz.prog 215 (.int .u64):=⟨Tryz.underlying215⟩
instance:AggC Tryz.prog 215 false:=⟨_,Tryz.underlying215,rfl⟩
instance:Siz Tryz.prog 215 1:=⟨by kernel_rfl⟩
instance:Zro Tryz.prog 215 (.int .u64 0):=⟨by kernel_rfl⟩
instance:Und Tryz.prog 222 (.int .i64):=⟨Tryz.underlying222⟩
instance:AggC Tryz.prog 222 false:=⟨_,Tryz.underlying222,rfl⟩
instance:Siz Tryz.prog 222 1:=⟨by kernel_rfl⟩
instance:Zro Tryz.prog 222 (.int .i64 0):=⟨by kernel_rfl⟩
instance:Und Tryz.prog 230 (.int .u32):=⟨Tryz.underlying230⟩
instance:AggC Tryz.prog 230 false:=⟨_,Tryz.underlying230,rfl⟩
instance:Siz Tryz.prog 230 1:=⟨by kernel_rfl⟩
instance:Zro Tryz.prog 230 (.int .u32 0):=⟨by kernel_rfl⟩
instance:Und Tryz.prog 232 (.int .u64):=⟨Tryz.underlying232⟩
instance:AggC Tryz.prog 232 false:=⟨_,Tryz.underlying232,rfl⟩
instance:Siz Tryz.prog 232 1:=⟨by kernel_rfl⟩
instance:Zro Tryz.prog 232 (.int .u64 0):=⟨by kernel_rfl⟩
instance:Und Tryz.prog 246 (.int .u64):=⟨Tryz.underlying246⟩
instance:AggC Tryz.prog 246 false:=⟨_,Tryz.underlying246,rfl⟩
instance:Siz Tryz.prog 246 1:=⟨by kernel_rfl⟩
instance:Zro Tryz.prog 246 (.int .u64 0):=⟨by kernel_rfl⟩
instance:Und Tryz.prog 250 (.pointer 3):=⟨Tryz.underlying250⟩
instance:AggC Tryz.prog 250 false:=⟨_,Tryz.underlying250,rfl⟩
instance:Siz Tryz.prog 250 1:=⟨by kernel_rfl⟩
instance:Zro Tryz.prog 250 (.pointer none):=⟨by kernel_rfl⟩
instance:Und Tryz.prog 257 (.pointer 246):=⟨Tryz.underlying257⟩
instance:AggC Tryz.prog 257 false:=⟨_,Tryz.underlying257,rfl⟩
instance:Siz Tryz.prog 257 1:=⟨by kernel_rfl⟩
instance:Zro Tryz.prog 257 (.pointer none):=⟨by kernel_rfl⟩
instance:AggC Tryz.prog 271 true:=⟨_,Tryz.underlying271,rfl⟩
instance:Siz Tryz.prog 271 4:=⟨by kernel_rfl⟩
instance:Zro Tryz.prog 271 (.agg #[(.pointer none),(.pointer none),(.pointer none),(.string ⟨#[]⟩)]):=⟨by kernel_rfl⟩
instance:Und Tryz.prog 273 (.array 0 16):=⟨Tryz.underlying273⟩
instance:AggC Tryz.prog 273 true:=⟨_,Tryz.underlying273,rfl⟩
instance:Siz Tryz.prog 273 0:=⟨by kernel_rfl⟩
instance:Zro Tryz.prog 273 (.agg #[]):=⟨by kernel_rfl⟩
instance:AggC Tryz.prog 274 true:=⟨_,Tryz.underlying274,rfl⟩
instance:Siz Tryz.prog 274 0:=⟨by kernel_rfl⟩
instance:Zro Tryz.prog 274 (.agg #[]):=⟨by kernel_rfl⟩
instance:Und Tryz.prog 279 (.pointer 5):=⟨Tryz.underlying279⟩
instance:AggC Tryz.prog 279 false:=⟨_,Tryz.underlying279,rfl⟩
instance:Siz Tryz.prog 279 1:=⟨by kernel_rfl⟩
instance:Zro Tryz.prog 279 (.pointer none):=⟨by kernel_rfl⟩
instance:AggC Tryz.prog 282 true:=⟨_,Tryz.underlying282,rfl⟩
instance:Siz Tryz.prog 282 11:=⟨by kernel_rfl⟩
instance:Zro Tryz.prog 282 (.agg #[(.int .u64 0),(.int .u64 0),(.int .u32 0),(.int .u8 0),(.int .u8 0),(.int .u8 0),(.int .u8 0),.nilFunc,(.pointer none),(.int .i32 0),(.int .i32 0)]):=⟨by kernel_rfl⟩
instance:FldC Tryz.prog 282 0 0:=⟨Fld.mk' Tryz.underlying282 (by kernel_rfl)⟩
instance:FldC Tryz.prog 282 1 1:=⟨Fld.mk' Tryz.underlying282 (by kernel_rfl)⟩
instance:FldC Tryz.prog 282 2 2:=⟨Fld.mk' Tryz.underlying282 (by kernel_rfl)⟩
instance:FldC Tryz.prog 282 3 3:=⟨Fld.mk' Tryz.underlying282 (by kernel_rfl)⟩
instance:FldC Tryz.prog 282 4 4:=⟨Fld.mk' Tryz.underlying282 (by kernel_rfl)⟩
instance:FldC Tryz.prog 282 5 5:=⟨Fld.mk' Tryz.underlying282 (by kernel_rfl)⟩
instance:FldC Tryz.prog 282 6 6:=⟨Fld.mk' Tryz.underlying282 (by kernel_rfl)⟩
instance:FldC Tryz.prog 282 7 7:=⟨Fld.mk' Tryz.underlying282 (by kernel_rfl)⟩
instance:FldC Tryz.prog 282 8 8:=⟨Fld.mk' Tryz.underlying282 (by kernel_rfl)⟩
instance:FldC Tryz.prog 282 9 9:=⟨Fld.mk' Tryz.underlying282 (by kernel_rfl)⟩
instance:FldC Tryz.prog 282 10 10:=⟨Fld.mk' Tryz.underlying282 (by kernel_rfl)⟩
instance:PlsC Tryz.prog 282 [(0,1),(1,1),(2,1),(3,1),(4,1),(5,1),(6,1),(7,1),(8,1),(9,1),(10,1)]:=⟨by kernel_rfl⟩
theorem mixed0:Tryz.prog.follows .mixedOrders = true:=by kernel_rfl
end Go.Proofs.YtfcpkegmdlchhaaGreat
namespace Go.Proofs.YtfcpkegmdlchhaaGreat
open Go.RowKit
variable {P:Program} {n:Nat} {ops:Array Oper} {o:Oper} {F:List Nat} {S:St} {c:Cnt} {b:Upd}
theorem p_auto (h:OpOk n P ops o F c b S:=by (first|(apply u_k 0;(focus rfl);first|exact op_move (c:=.per _) ⟨rfl,rfl,rfl⟩ rfl rfl|exact op_move (c:=.row _ _) ⟨rfl,rfl,rfl⟩ rfl rfl|exact op_move (c:=.bor _ _) ⟨rfl,rfl,rfl⟩ rfl rfl|exact op_move (c:=.ptr _ _ _) ⟨rfl,rfl,rfl⟩ rfl rfl|exact op_move (c:=.tup2 _ _) ⟨rfl,rfl,rfl⟩ rfl rfl)|(apply u_k 1;(focus rfl);first|exact op_assign (c:=.per _) ⟨rfl,rfl,rfl⟩ rfl rfl|exact op_assign (c:=.row _ _) ⟨rfl,rfl,rfl⟩ rfl rfl|exact op_assign (c:=.bor _ _) ⟨rfl,rfl,rfl⟩ rfl rfl|exact op_assign (c:=.ptr _ _ _) ⟨rfl,rfl,rfl⟩ rfl rfl)|(apply u_k 2;(focus rfl);apply op_pick <;> first|exact ⟨rfl,rfl,rfl⟩|rfl|(intro hb0;first|rfl|exact get_gr rfl (by rw [hb0];rfl)|exact get_gr rfl (by simp_all)))|(apply u_k 3;(focus rfl);first|exact op_box_agg ⟨rfl,rfl,rfl⟩ rfl rfl|exact op_box_one ⟨rfl,rfl,rfl⟩ rfl rfl (by first|exact oneP_raw rfl rfl|exact oneP_lst|exact oneP_rp))|(apply u_k 4;(focus rfl);exact u_alloc ⟨rfl,rfl,rfl⟩ rfl inferInstance rfl)|(apply u_k 5;(focus rfl);first|exact u_load1 ⟨rfl,rfl,rfl⟩ rfl inferInstance rfl rfl rfl rfl|exact u_loadA ⟨rfl,rfl,rfl⟩ rfl inferInstance inferInstance rfl rfl rfl rfl rfl rfl|exact u_load_rp1 ⟨rfl,rfl,rfl⟩ rfl inferInstance rfl rfl|exact u_load_rpA ⟨rfl,rfl,rfl⟩ rfl inferInstance inferInstance rfl rfl rfl|exact u_load_bp1 ⟨rfl,rfl,rfl⟩ rfl inferInstance rfl rfl|exact u_load_bpA ⟨rfl,rfl,rfl⟩ rfl inferInstance inferInstance rfl rfl rfl)|(apply u_k 6;(focus rfl);first|exact u_store1 ⟨rfl,rfl⟩ rfl inferInstance rfl rfl rfl rfl rfl (by first|exact oneP_raw rfl rfl|exact oneP_lst|exact oneP_rp)|exact u_storeA ⟨rfl,rfl⟩ rfl inferInstance rfl rfl rfl rfl rfl rfl rfl)|(apply u_k 7;(focus rfl);first|exact u_field ⟨rfl,rfl,rfl⟩ rfl inferInstance rfl rfl|exact u_field_rp ⟨rfl,rfl,rfl⟩ rfl inferInstance rfl|exact u_field_bp ⟨rfl,rfl,rfl⟩ rfl inferInstance rfl|exact u_field_r ⟨rfl,rfl,rfl⟩ rfl inferInstance rfl rfl)|(apply u_k 8;(focus rfl);first|exact op_num ⟨rfl,rfl,rfl⟩ rfl rfl rfl rfl (wrap_id64 (by first|omega|(simp;omega)|(simp [chunk_len];omega)) (by first|omega|(simp;omega)|(simp [chunk_len];omega)))|exact op_bin ⟨rfl,rfl,rfl⟩ rfl rfl rfl rfl)|(apply u_k 9;(focus rfl);exact op_not ⟨rfl,rfl,rfl⟩ rfl rfl)|(apply u_k 10;(focus rfl);first|exact u_conv ⟨rfl,rfl,rfl⟩ rfl inferInstance inferInstance rfl (wrap_id64 (by omega) (by omega))|exact u_conv ⟨rfl,rfl,rfl⟩ rfl inferInstance inferInstance rfl rfl|exact u_sb ⟨rfl,rfl,rfl⟩ rfl inferInstance inferInstance inferInstance (by first|exact sr_lst rfl|exact sr_row rfl rfl rfl|exact sr_bor rfl|exact sr_nil rfl))|(apply u_k 11;(focus rfl);first|exact u_sliceD ⟨rfl,rfl,rfl⟩ rfl inferInstance inferInstance rfl rfl (by refine ⟨?_,?_,?_,?_⟩ <;> first|rfl|exact ⟨_,_,rfl,rfl⟩|omega|(simp;done)|(simp;omega)) rfl|exact u_sliceD_b ⟨rfl,rfl,rfl⟩ rfl inferInstance inferInstance rfl rfl (by refine ⟨?_,?_,?_,?_⟩ <;> first|rfl|exact ⟨_,_,rfl,rfl⟩|omega|(simp;done)|(simp;omega)) rfl|exact u_sliceT ⟨rfl,rfl,rfl⟩ rfl inferInstance inferInstance rfl rfl (by refine ⟨?_,?_,?_,?_⟩ <;> first|rfl|exact ⟨_,_,rfl,rfl⟩|omega|(simp;done)|(simp;omega))|exact u_sliceT_b ⟨rfl,rfl,rfl⟩ rfl inferInstance inferInstance rfl rfl (by refine ⟨?_,?_,?_,?_⟩ <;> first|rfl|exact ⟨_,_,rfl,rfl⟩|omega|(simp;done)|(simp;omega))|exact u_sliceM ⟨rfl,rfl,rfl⟩ rfl inferInstance inferInstance rfl rfl (by refine ⟨?_,?_,?_,?_⟩ <;> first|rfl|exact ⟨_,_,rfl,rfl⟩|omega|(simp;done)|(simp;omega))|exact u_sliceM_b ⟨rfl,rfl,rfl⟩ rfl inferInstance inferInstance rfl rfl (by refine ⟨?_,?_,?_,?_⟩ <;> first|rfl|exact ⟨_,_,rfl,rfl⟩|omega|(simp;done)|(simp;omega))|exact u_slice ⟨rfl,rfl,rfl⟩ rfl inferInstance inferInstance rfl rfl (by refine ⟨?_,?_,?_,?_⟩ <;> first|rfl|exact ⟨_,_,rfl,rfl⟩|omega|(simp;done)|(simp;omega)) rfl|exact u_slice_b ⟨rfl,rfl,rfl⟩ rfl inferInstance inferInstance rfl rfl (by refine ⟨?_,?_,?_,?_⟩ <;> first|rfl|exact ⟨_,_,rfl,rfl⟩|omega|(simp;done)|(simp;omega)) rfl|exact u_sslice ⟨rfl,rfl,rfl⟩ rfl inferInstance rfl (by refine ⟨?_,?_,?_,?_⟩ <;> first|rfl|exact ⟨_,_,rfl,rfl⟩|omega|(simp;done)|(simp;omega)) rfl)|(apply u_k 12;(focus rfl);first|exact u_index ⟨rfl,rfl,rfl⟩ rfl inferInstance inferInstance rfl rfl rfl rfl (map_get (by first|assumption|omega|(simp;done)|(simp;omega)))|exact u_index_b ⟨rfl,rfl,rfl⟩ rfl inferInstance inferInstance rfl rfl rfl rfl (map_get (by first|assumption|omega|(simp;done)|(simp;omega)))|exact u_index_r ⟨rfl,rfl,rfl⟩ rfl inferInstance inferInstance rfl rfl rfl rfl rfl rfl (by first|assumption|omega|(simp;done)|(simp;omega))|exact u_index ⟨rfl,rfl,rfl⟩ rfl inferInstance inferInstance rfl rfl rfl rfl rfl)|(apply u_k 13;(focus rfl);exact u_sindex ⟨rfl,rfl,rfl⟩ rfl inferInstance rfl rfl rfl (List.getElem?_eq_getElem (by first|assumption|omega|(simp;done)|(simp;omega))))|(apply u_k 14;(focus rfl);solve|(apply u_build <;> first|exact ⟨rfl,rfl,rfl⟩|rfl|infer_instance|(repeat (first|exact PartsL.nil|(apply PartsL.cons;(focus (first|exact part_raw rfl rfl rfl|exact part_agg rfl|exact part_lst rfl)))))))|(apply u_k 15;(focus rfl);first|exact u_bslice0 ⟨rfl,rfl,rfl⟩ rfl inferInstance|(solve|(apply u_bslice <;> first|exact ⟨rfl,rfl,rfl⟩|rfl|infer_instance|(repeat (first|exact PartsL.nil|(apply PartsL.cons;(focus (first|exact part_raw rfl rfl rfl|exact part_agg rfl|exact part_lst rfl))))))))|(apply u_k 16;(focus rfl);first|exact op_ext2a ⟨rfl,rfl,rfl⟩ rfl rfl|exact op_ext2b ⟨rfl,rfl,rfl⟩ rfl rfl|exact op_ext3a ⟨rfl,rfl,rfl⟩ rfl rfl|exact op_ext3b ⟨rfl,rfl,rfl⟩ rfl rfl|exact op_ext3c ⟨rfl,rfl,rfl⟩ rfl rfl)|(apply u_k 17;(focus rfl);first|exact u_len_s ⟨rfl,rfl,rfl⟩ rfl inferInstance rfl|exact u_lenM ⟨rfl,rfl,rfl⟩ rfl inferInstance rfl|exact u_lenM_b ⟨rfl,rfl,rfl⟩ rfl inferInstance rfl|exact u_lenM_r ⟨rfl,rfl,rfl⟩ rfl inferInstance rfl rfl rfl|exact u_len ⟨rfl,rfl,rfl⟩ rfl inferInstance rfl|exact u_len_r ⟨rfl,rfl,rfl⟩ rfl inferInstance rfl rfl rfl|exact u_len_b ⟨rfl,rfl,rfl⟩ rfl inferInstance rfl)|(apply u_k 18;(focus rfl);first|exact u_app ⟨rfl,rfl,rfl⟩ rfl inferInstance rfl rfl rfl rfl (by first|exact sr_lst rfl|exact sr_row rfl rfl rfl|exact sr_bor rfl|exact sr_nil rfl) (by first|omega|(simp;done)|(simp;omega)|(simp [chunk_len];done)|(simp [chunk_len];omega)|(simp at *;omega)) rfl|exact u_appS ⟨rfl,rfl,rfl⟩ rfl inferInstance inferInstance inferInstance rfl rfl rfl rfl (by first|omega|(simp;done)|(simp;omega)|(simp [chunk_len];done)|(simp [chunk_len];omega)|(simp at *;omega))))):OpOk n P ops o F c b S:=h
theorem g_auto (h:OpOk n P ops o F c b S:=by
   apply u_g
   (focus rfl)
   first
     | ((first|apply op_guard_raw rfl rfl rfl rfl rfl (as_guard rfl)|apply op_guard_raw rfl rfl rfl rfl rfl rfl);intro g1 g2;(first|(apply u_k 2;(focus rfl);apply op_pick <;> first|exact ⟨rfl,rfl,rfl⟩|(intro hb0;first|rfl|exact get_gr rfl (by rw [hb0];rfl)|exact get_gr rfl (by simp_all))|(first|exact get_gr rfl (by rw [g2];rfl)|exact get_gc rfl (by rw [g2];rfl)|exact get_gr rfl (by rw [g1,g2];rfl)|exact get_gc rfl (by rw [g1,g2];rfl)|rfl|exact ⟨rfl,rfl,rfl⟩|infer_instance|exact get_gr rfl (by simp_all)|exact get_gc rfl (by simp_all)))|(apply u_k 0;(focus rfl);first|(apply op_move (c:=.per (rawP _)) <;> (first|exact get_gr rfl (by rw [g2];rfl)|exact get_gc rfl (by rw [g2];rfl)|exact get_gr rfl (by rw [g1,g2];rfl)|exact get_gc rfl (by rw [g1,g2];rfl)|rfl|exact ⟨rfl,rfl,rfl⟩|infer_instance|exact get_gr rfl (by simp_all)|exact get_gc rfl (by simp_all)))|(apply op_move (c:=.per _) <;> (first|exact get_gr rfl (by rw [g2];rfl)|exact get_gc rfl (by rw [g2];rfl)|exact get_gr rfl (by rw [g1,g2];rfl)|exact get_gc rfl (by rw [g1,g2];rfl)|rfl|exact ⟨rfl,rfl,rfl⟩|infer_instance|exact get_gr rfl (by simp_all)|exact get_gc rfl (by simp_all)))|(apply op_move (c:=.bor _ _) <;> (first|exact get_gr rfl (by rw [g2];rfl)|exact get_gc rfl (by rw [g2];rfl)|exact get_gr rfl (by rw [g1,g2];rfl)|exact get_gc rfl (by rw [g1,g2];rfl)|rfl|exact ⟨rfl,rfl,rfl⟩|infer_instance|exact get_gr rfl (by simp_all)|exact get_gc rfl (by simp_all)))|(apply op_move (c:=.row _ _) <;> (first|exact get_gr rfl (by rw [g2];rfl)|exact get_gc rfl (by rw [g2];rfl)|exact get_gr rfl (by rw [g1,g2];rfl)|exact get_gc rfl (by rw [g1,g2];rfl)|rfl|exact ⟨rfl,rfl,rfl⟩|infer_instance|exact get_gr rfl (by simp_all)|exact get_gc rfl (by simp_all))))|(apply u_k 5;(focus rfl);first|(apply u_load1 <;> (first|exact get_gr rfl (by rw [g2];rfl)|exact get_gc rfl (by rw [g2];rfl)|exact get_gr rfl (by rw [g1,g2];rfl)|exact get_gc rfl (by rw [g1,g2];rfl)|rfl|exact ⟨rfl,rfl,rfl⟩|infer_instance|exact get_gr rfl (by simp_all)|exact get_gc rfl (by simp_all)))|(apply u_loadA <;> (first|exact get_gr rfl (by rw [g2];rfl)|exact get_gc rfl (by rw [g2];rfl)|exact get_gr rfl (by rw [g1,g2];rfl)|exact get_gc rfl (by rw [g1,g2];rfl)|rfl|exact ⟨rfl,rfl,rfl⟩|infer_instance|exact get_gr rfl (by simp_all)|exact get_gc rfl (by simp_all)))|(apply u_load_rp1 <;> (first|exact get_gr rfl (by rw [g2];rfl)|exact get_gc rfl (by rw [g2];rfl)|exact get_gr rfl (by rw [g1,g2];rfl)|exact get_gc rfl (by rw [g1,g2];rfl)|rfl|exact ⟨rfl,rfl,rfl⟩|infer_instance|exact get_gr rfl (by simp_all)|exact get_gc rfl (by simp_all)))|(apply u_load_rpA <;> (first|exact get_gr rfl (by rw [g2];rfl)|exact get_gc rfl (by rw [g2];rfl)|exact get_gr rfl (by rw [g1,g2];rfl)|exact get_gc rfl (by rw [g1,g2];rfl)|rfl|exact ⟨rfl,rfl,rfl⟩|infer_instance|exact get_gr rfl (by simp_all)|exact get_gc rfl (by simp_all)))|(apply u_load_bp1 <;> (first|exact get_gr rfl (by rw [g2];rfl)|exact get_gc rfl (by rw [g2];rfl)|exact get_gr rfl (by rw [g1,g2];rfl)|exact get_gc rfl (by rw [g1,g2];rfl)|rfl|exact ⟨rfl,rfl,rfl⟩|infer_instance|exact get_gr rfl (by simp_all)|exact get_gc rfl (by simp_all)))|(apply u_load_bpA <;> (first|exact get_gr rfl (by rw [g2];rfl)|exact get_gc rfl (by rw [g2];rfl)|exact get_gr rfl (by rw [g1,g2];rfl)|exact get_gc rfl (by rw [g1,g2];rfl)|rfl|exact ⟨rfl,rfl,rfl⟩|infer_instance|exact get_gr rfl (by simp_all)|exact get_gc rfl (by simp_all))))|(apply u_k 7;(focus rfl);first|(apply u_field <;> (first|exact get_gr rfl (by rw [g2];rfl)|exact get_gc rfl (by rw [g2];rfl)|exact get_gr rfl (by rw [g1,g2];rfl)|exact get_gc rfl (by rw [g1,g2];rfl)|rfl|exact ⟨rfl,rfl,rfl⟩|infer_instance|exact get_gr rfl (by simp_all)|exact get_gc rfl (by simp_all)))|(apply u_field_rp <;> (first|exact get_gr rfl (by rw [g2];rfl)|exact get_gc rfl (by rw [g2];rfl)|exact get_gr rfl (by rw [g1,g2];rfl)|exact get_gc rfl (by rw [g1,g2];rfl)|rfl|exact ⟨rfl,rfl,rfl⟩|infer_instance|exact get_gr rfl (by simp_all)|exact get_gc rfl (by simp_all)))|(apply u_field_bp <;> (first|exact get_gr rfl (by rw [g2];rfl)|exact get_gc rfl (by rw [g2];rfl)|exact get_gr rfl (by rw [g1,g2];rfl)|exact get_gc rfl (by rw [g1,g2];rfl)|rfl|exact ⟨rfl,rfl,rfl⟩|infer_instance|exact get_gr rfl (by simp_all)|exact get_gc rfl (by simp_all))))|(apply u_k 8;(focus rfl);first|(apply op_num <;> first|exact wrap_id64 (by omega) (by omega)|(first|exact get_gr rfl (by rw [g2];rfl)|exact get_gc rfl (by rw [g2];rfl)|exact get_gr rfl (by rw [g1,g2];rfl)|exact get_gc rfl (by rw [g1,g2];rfl)|rfl|exact ⟨rfl,rfl,rfl⟩|infer_instance|exact get_gr rfl (by simp_all)|exact get_gc rfl (by simp_all)))|(apply op_bin <;> (first|exact get_gr rfl (by rw [g2];rfl)|exact get_gc rfl (by rw [g2];rfl)|exact get_gr rfl (by rw [g1,g2];rfl)|exact get_gc rfl (by rw [g1,g2];rfl)|rfl|exact ⟨rfl,rfl,rfl⟩|infer_instance|exact get_gr rfl (by simp_all)|exact get_gc rfl (by simp_all))))|(apply u_k 9;(focus rfl);apply op_not <;> (first|exact get_gr rfl (by rw [g2];rfl)|exact get_gc rfl (by rw [g2];rfl)|exact get_gr rfl (by rw [g1,g2];rfl)|exact get_gc rfl (by rw [g1,g2];rfl)|rfl|exact ⟨rfl,rfl,rfl⟩|infer_instance|exact get_gr rfl (by simp_all)|exact get_gc rfl (by simp_all)))|(apply u_k 17;(focus rfl);first|(apply u_len_s <;> (first|exact get_gr rfl (by rw [g2];rfl)|exact get_gc rfl (by rw [g2];rfl)|exact get_gr rfl (by rw [g1,g2];rfl)|exact get_gc rfl (by rw [g1,g2];rfl)|rfl|exact ⟨rfl,rfl,rfl⟩|infer_instance|exact get_gr rfl (by simp_all)|exact get_gc rfl (by simp_all)))|(apply u_len <;> (first|exact get_gr rfl (by rw [g2];rfl)|exact get_gc rfl (by rw [g2];rfl)|exact get_gr rfl (by rw [g1,g2];rfl)|exact get_gc rfl (by rw [g1,g2];rfl)|rfl|exact ⟨rfl,rfl,rfl⟩|infer_instance|exact get_gr rfl (by simp_all)|exact get_gc rfl (by simp_all)))|(apply u_len_b <;> (first|exact get_gr rfl (by rw [g2];rfl)|exact get_gc rfl (by rw [g2];rfl)|exact get_gr rfl (by rw [g1,g2];rfl)|exact get_gc rfl (by rw [g1,g2];rfl)|rfl|exact ⟨rfl,rfl,rfl⟩|infer_instance|exact get_gr rfl (by simp_all)|exact get_gc rfl (by simp_all)))|(apply u_len_r <;> (first|exact get_gr rfl (by rw [g2];rfl)|exact get_gc rfl (by rw [g2];rfl)|exact get_gr rfl (by rw [g1,g2];rfl)|exact get_gc rfl (by rw [g1,g2];rfl)|rfl|exact ⟨rfl,rfl,rfl⟩|infer_instance|exact get_gr rfl (by simp_all)|exact get_gc rfl (by simp_all))))|(apply u_k 12;(focus rfl);first|(apply u_index <;> first|(first|exact get_gr rfl (by rw [g2];rfl)|exact get_gc rfl (by rw [g2];rfl)|exact get_gr rfl (by rw [g1,g2];rfl)|exact get_gc rfl (by rw [g1,g2];rfl)|rfl|exact ⟨rfl,rfl,rfl⟩|infer_instance|exact get_gr rfl (by simp_all)|exact get_gc rfl (by simp_all))|exact map_get (by first|assumption|omega|(simp;done)|(simp;omega)))|(apply u_index_b <;> first|(first|exact get_gr rfl (by rw [g2];rfl)|exact get_gc rfl (by rw [g2];rfl)|exact get_gr rfl (by rw [g1,g2];rfl)|exact get_gc rfl (by rw [g1,g2];rfl)|rfl|exact ⟨rfl,rfl,rfl⟩|infer_instance|exact get_gr rfl (by simp_all)|exact get_gc rfl (by simp_all))|exact map_get (by first|assumption|omega|(simp;done)|(simp;omega))))|(apply u_k 13;(focus rfl);apply u_sindex <;> first|(first|exact get_gr rfl (by rw [g2];rfl)|exact get_gc rfl (by rw [g2];rfl)|exact get_gr rfl (by rw [g1,g2];rfl)|exact get_gc rfl (by rw [g1,g2];rfl)|rfl|exact ⟨rfl,rfl,rfl⟩|infer_instance|exact get_gr rfl (by simp_all)|exact get_gc rfl (by simp_all))|exact List.getElem?_eq_getElem (by first|assumption|omega|(simp;done)|(simp;omega)))))
     | ((first|apply op_guard rfl rfl rfl rfl rfl (as_guard rfl)|apply op_guard rfl rfl rfl rfl rfl rfl);intro g1 g2;(first|(apply u_k 2;(focus rfl);apply op_pick <;> first|exact ⟨rfl,rfl,rfl⟩|(intro hb0;first|rfl|exact get_gr rfl (by rw [hb0];rfl)|exact get_gr rfl (by simp_all))|(first|exact get_gr rfl (by rw [g2];rfl)|exact get_gc rfl (by rw [g2];rfl)|exact get_gr rfl (by rw [g1,g2];rfl)|exact get_gc rfl (by rw [g1,g2];rfl)|rfl|exact ⟨rfl,rfl,rfl⟩|infer_instance|exact get_gr rfl (by simp_all)|exact get_gc rfl (by simp_all)))|(apply u_k 0;(focus rfl);first|(apply op_move (c:=.per (rawP _)) <;> (first|exact get_gr rfl (by rw [g2];rfl)|exact get_gc rfl (by rw [g2];rfl)|exact get_gr rfl (by rw [g1,g2];rfl)|exact get_gc rfl (by rw [g1,g2];rfl)|rfl|exact ⟨rfl,rfl,rfl⟩|infer_instance|exact get_gr rfl (by simp_all)|exact get_gc rfl (by simp_all)))|(apply op_move (c:=.per _) <;> (first|exact get_gr rfl (by rw [g2];rfl)|exact get_gc rfl (by rw [g2];rfl)|exact get_gr rfl (by rw [g1,g2];rfl)|exact get_gc rfl (by rw [g1,g2];rfl)|rfl|exact ⟨rfl,rfl,rfl⟩|infer_instance|exact get_gr rfl (by simp_all)|exact get_gc rfl (by simp_all)))|(apply op_move (c:=.bor _ _) <;> (first|exact get_gr rfl (by rw [g2];rfl)|exact get_gc rfl (by rw [g2];rfl)|exact get_gr rfl (by rw [g1,g2];rfl)|exact get_gc rfl (by rw [g1,g2];rfl)|rfl|exact ⟨rfl,rfl,rfl⟩|infer_instance|exact get_gr rfl (by simp_all)|exact get_gc rfl (by simp_all)))|(apply op_move (c:=.row _ _) <;> (first|exact get_gr rfl (by rw [g2];rfl)|exact get_gc rfl (by rw [g2];rfl)|exact get_gr rfl (by rw [g1,g2];rfl)|exact get_gc rfl (by rw [g1,g2];rfl)|rfl|exact ⟨rfl,rfl,rfl⟩|infer_instance|exact get_gr rfl (by simp_all)|exact get_gc rfl (by simp_all))))|(apply u_k 5;(focus rfl);first|(apply u_load1 <;> (first|exact get_gr rfl (by rw [g2];rfl)|exact get_gc rfl (by rw [g2];rfl)|exact get_gr rfl (by rw [g1,g2];rfl)|exact get_gc rfl (by rw [g1,g2];rfl)|rfl|exact ⟨rfl,rfl,rfl⟩|infer_instance|exact get_gr rfl (by simp_all)|exact get_gc rfl (by simp_all)))|(apply u_loadA <;> (first|exact get_gr rfl (by rw [g2];rfl)|exact get_gc rfl (by rw [g2];rfl)|exact get_gr rfl (by rw [g1,g2];rfl)|exact get_gc rfl (by rw [g1,g2];rfl)|rfl|exact ⟨rfl,rfl,rfl⟩|infer_instance|exact get_gr rfl (by simp_all)|exact get_gc rfl (by simp_all)))|(apply u_load_rp1 <;> (first|exact get_gr rfl (by rw [g2];rfl)|exact get_gc rfl (by rw [g2];rfl)|exact get_gr rfl (by rw [g1,g2];rfl)|exact get_gc rfl (by rw [g1,g2];rfl)|rfl|exact ⟨rfl,rfl,rfl⟩|infer_instance|exact get_gr rfl (by simp_all)|exact get_gc rfl (by simp_all)))|(apply u_load_rpA <;> (first|exact get_gr rfl (by rw [g2];rfl)|exact get_gc rfl (by rw [g2];rfl)|exact get_gr rfl (by rw [g1,g2];rfl)|exact get_gc rfl (by rw [g1,g2];rfl)|rfl|exact ⟨rfl,rfl,rfl⟩|infer_instance|exact get_gr rfl (by simp_all)|exact get_gc rfl (by simp_all)))|(apply u_load_bp1 <;> (first|exact get_gr rfl (by rw [g2];rfl)|exact get_gc rfl (by rw [g2];rfl)|exact get_gr rfl (by rw [g1,g2];rfl)|exact get_gc rfl (by rw [g1,g2];rfl)|rfl|exact ⟨rfl,rfl,rfl⟩|infer_instance|exact get_gr rfl (by simp_all)|exact get_gc rfl (by simp_all)))|(apply u_load_bpA <;> (first|exact get_gr rfl (by rw [g2];rfl)|exact get_gc rfl (by rw [g2];rfl)|exact get_gr rfl (by rw [g1,g2];rfl)|exact get_gc rfl (by rw [g1,g2];rfl)|rfl|exact ⟨rfl,rfl,rfl⟩|infer_instance|exact get_gr rfl (by simp_all)|exact get_gc rfl (by simp_all))))|(apply u_k 7;(focus rfl);first|(apply u_field <;> (first|exact get_gr rfl (by rw [g2];rfl)|exact get_gc rfl (by rw [g2];rfl)|exact get_gr rfl (by rw [g1,g2];rfl)|exact get_gc rfl (by rw [g1,g2];rfl)|rfl|exact ⟨rfl,rfl,rfl⟩|infer_instance|exact get_gr rfl (by simp_all)|exact get_gc rfl (by simp_all)))|(apply u_field_rp <;> (first|exact get_gr rfl (by rw [g2];rfl)|exact get_gc rfl (by rw [g2];rfl)|exact get_gr rfl (by rw [g1,g2];rfl)|exact get_gc rfl (by rw [g1,g2];rfl)|rfl|exact ⟨rfl,rfl,rfl⟩|infer_instance|exact get_gr rfl (by simp_all)|exact get_gc rfl (by simp_all)))|(apply u_field_bp <;> (first|exact get_gr rfl (by rw [g2];rfl)|exact get_gc rfl (by rw [g2];rfl)|exact get_gr rfl (by rw [g1,g2];rfl)|exact get_gc rfl (by rw [g1,g2];rfl)|rfl|exact ⟨rfl,rfl,rfl⟩|infer_instance|exact get_gr rfl (by simp_all)|exact get_gc rfl (by simp_all))))|(apply u_k 8;(focus rfl);first|(apply op_num <;> first|exact wrap_id64 (by omega) (by omega)|(first|exact get_gr rfl (by rw [g2];rfl)|exact get_gc rfl (by rw [g2];rfl)|exact get_gr rfl (by rw [g1,g2];rfl)|exact get_gc rfl (by rw [g1,g2];rfl)|rfl|exact ⟨rfl,rfl,rfl⟩|infer_instance|exact get_gr rfl (by simp_all)|exact get_gc rfl (by simp_all)))|(apply op_bin <;> (first|exact get_gr rfl (by rw [g2];rfl)|exact get_gc rfl (by rw [g2];rfl)|exact get_gr rfl (by rw [g1,g2];rfl)|exact get_gc rfl (by rw [g1,g2];rfl)|rfl|exact ⟨rfl,rfl,rfl⟩|infer_instance|exact get_gr rfl (by simp_all)|exact get_gc rfl (by simp_all))))|(apply u_k 9;(focus rfl);apply op_not <;> (first|exact get_gr rfl (by rw [g2];rfl)|exact get_gc rfl (by rw [g2];rfl)|exact get_gr rfl (by rw [g1,g2];rfl)|exact get_gc rfl (by rw [g1,g2];rfl)|rfl|exact ⟨rfl,rfl,rfl⟩|infer_instance|exact get_gr rfl (by simp_all)|exact get_gc rfl (by simp_all)))|(apply u_k 17;(focus rfl);first|(apply u_len_s <;> (first|exact get_gr rfl (by rw [g2];rfl)|exact get_gc rfl (by rw [g2];rfl)|exact get_gr rfl (by rw [g1,g2];rfl)|exact get_gc rfl (by rw [g1,g2];rfl)|rfl|exact ⟨rfl,rfl,rfl⟩|infer_instance|exact get_gr rfl (by simp_all)|exact get_gc rfl (by simp_all)))|(apply u_len <;> (first|exact get_gr rfl (by rw [g2];rfl)|exact get_gc rfl (by rw [g2];rfl)|exact get_gr rfl (by rw [g1,g2];rfl)|exact get_gc rfl (by rw [g1,g2];rfl)|rfl|exact ⟨rfl,rfl,rfl⟩|infer_instance|exact get_gr rfl (by simp_all)|exact get_gc rfl (by simp_all)))|(apply u_len_b <;> (first|exact get_gr rfl (by rw [g2];rfl)|exact get_gc rfl (by rw [g2];rfl)|exact get_gr rfl (by rw [g1,g2];rfl)|exact get_gc rfl (by rw [g1,g2];rfl)|rfl|exact ⟨rfl,rfl,rfl⟩|infer_instance|exact get_gr rfl (by simp_all)|exact get_gc rfl (by simp_all)))|(apply u_len_r <;> (first|exact get_gr rfl (by rw [g2];rfl)|exact get_gc rfl (by rw [g2];rfl)|exact get_gr rfl (by rw [g1,g2];rfl)|exact get_gc rfl (by rw [g1,g2];rfl)|rfl|exact ⟨rfl,rfl,rfl⟩|infer_instance|exact get_gr rfl (by simp_all)|exact get_gc rfl (by simp_all))))|(apply u_k 12;(focus rfl);first|(apply u_index <;> first|(first|exact get_gr rfl (by rw [g2];rfl)|exact get_gc rfl (by rw [g2];rfl)|exact get_gr rfl (by rw [g1,g2];rfl)|exact get_gc rfl (by rw [g1,g2];rfl)|rfl|exact ⟨rfl,rfl,rfl⟩|infer_instance|exact get_gr rfl (by simp_all)|exact get_gc rfl (by simp_all))|exact map_get (by first|assumption|omega|(simp;done)|(simp;omega)))|(apply u_index_b <;> first|(first|exact get_gr rfl (by rw [g2];rfl)|exact get_gc rfl (by rw [g2];rfl)|exact get_gr rfl (by rw [g1,g2];rfl)|exact get_gc rfl (by rw [g1,g2];rfl)|rfl|exact ⟨rfl,rfl,rfl⟩|infer_instance|exact get_gr rfl (by simp_all)|exact get_gc rfl (by simp_all))|exact map_get (by first|assumption|omega|(simp;done)|(simp;omega))))|(apply u_k 13;(focus rfl);apply u_sindex <;> first|(first|exact get_gr rfl (by rw [g2];rfl)|exact get_gc rfl (by rw [g2];rfl)|exact get_gr rfl (by rw [g1,g2];rfl)|exact get_gc rfl (by rw [g1,g2];rfl)|rfl|exact ⟨rfl,rfl,rfl⟩|infer_instance|exact get_gr rfl (by simp_all)|exact get_gc rfl (by simp_all))|exact List.getElem?_eq_getElem (by first|assumption|omega|(simp;done)|(simp;omega)))))):OpOk n P ops o F c b S:=h
theorem o_auto (h:OpOk n P ops o F c b S:=by first|exact g_auto|exact p_auto):OpOk n P ops o F c b S:=h
section
theorem le_auto {n:Nat} {S S':St} (h:Le n S S':=by
   (refine Le_mk ?_ ?_;(focus ((repeat (first|exact AllG.nil|(refine AllG.cons ?_ ?_;rotate_left)));(all_goals try (first|rfl|(refine eqI ?_;first|omega|(simp;done)|(simp;omega))|(refine eqBo ?_;first|(simp;done)|(simp [*];done))))));(focus ((repeat (first|exact AllB.nil|(refine AllB.cons ?_ ?_;rotate_left)));(all_goals try (first|rfl|(refine eqRw ?_;(rw [List.map_append] <;> rfl);done)|(refine eqMix ?_;(rw [List.map_append] <;> rfl);done))))))):Le n S S':=h
end
end Go.Proofs.YtfcpkegmdlchhaaGreat
