/- Texts joined: AbsG Tab. -/
import Derived.Test.YthlffkjpklpkfaaGreatJ03
import Derived.Test.YthlffkjpklpkfaaGreatProg
namespace Go.Proofs.YthlffkjpklpkfaaGreat
open Go.RowKit
variable {P:Program} {n:Nat} {ops:Array Oper} {o:Oper} {F:List Nat} {S T:St} {t:Nat}
theorem op_gyes {j tg:Nat} {want b:Bool} {c:Cnt} {bk:Upd} (hg:o.guard = some (j,want)) (hj:(ops[j]?).bind (·.dst) = some tg) (htg:Nat.blt tg n = true)
   (hb:S.get tg = bC b) (hw:b = want) (h:OpOk n P ops { o with guard:=none } F c bk S):OpOk n P ops o (2 * tg :: F) c bk S:=by
 refine ⟨?_⟩
 intro C T hA a w ⟨g,hR⟩
 have hv:a.tmps.getD tg undef = .bool b:=by
   have:=hR.slots tg
   rw [hA.1 tg (by simp),hb] at this;exact this
 have hy:=yielded_of (ops:=ops) hj hv (by rw [hR.tsz];exact Nat.le_of_ble_eq_true htg)
 unfold Exec
 rw [if_pos (by simp [Region.wanted,hg,hy,hw,boolOf])]
 have hA':Agree F T S:=⟨fun t h=>hA.1 t (by simp [h]),fun id h=>hA.2 id (by simp [h])⟩
 have:=h.run C T hA' a w ⟨g,hR⟩
 unfold Exec at this
 rw [if_pos (by simp [Region.wanted])] at this
 exact this
/-- a guard that was not looked at yields nothing -/
theorem op_gno {j tg:Nat} {want b:Bool} (hg:o.guard = some (j,want)) (hd:o.dst = some t) (ht:Nat.blt t n = true) (hj:(ops[j]?).bind (·.dst) = some tg) (htg:Nat.blt tg n = true)
   (hb:S.get tg = bC b) (hw:b = !want):OpOk n P ops o [2 * tg] (.per (rawP undef)) [] S:=by
 refine ⟨?_⟩
 intro C T hA a w ⟨g,hR⟩
 have hv:a.tmps.getD tg undef = .bool b:=by
   have:=hR.slots tg
   rw [hA.1 tg (by simp),hb] at this;exact this
 have hy:=yielded_of (ops:=ops) hj hv (by rw [hR.tsz];exact Nat.le_of_ble_eq_true htg)
 have hdk:dOk n o.dst:=fun t' e=>by rw [hd] at e;cases e;exact Nat.le_of_ble_eq_true ht
 unfold Exec
 rw [if_neg (by simp [Region.wanted,hg,hy,hw,boolOf])]
 exact ⟨g,hR.app0 (Ext.refl w) hdk rfl⟩
/-- .. nor does what waits for nothing -/
theorem op_gnone {j tg:Nat} {want:Bool} (hg:o.guard = some (j,want)) (hd:o.dst = some t) (ht:Nat.blt t n = true) (hj:(ops[j]?).bind (·.dst) = some tg) (htg:Nat.blt tg n = true)
   (hb:S.get tg = .per (rawP undef)):OpOk n P ops o [2 * tg] (.per (rawP undef)) [] S:=by
 refine ⟨?_⟩
 intro C T hA a w ⟨g,hR⟩
 have hv:a.tmps.getD tg undef = undef:=by
   have:=hR.slots tg
   rw [hA.1 tg (by simp),hb] at this;exact this
 have hy:=yielded_of (ops:=ops) hj hv (by rw [hR.tsz];exact Nat.le_of_ble_eq_true htg)
 have hdk:dOk n o.dst:=fun t' e=>by rw [hd] at e;cases e;exact Nat.le_of_ble_eq_true ht
 unfold Exec
 rw [if_neg (by simp [Region.wanted,hg,hy,undef,boolOf])]
 exact ⟨g,hR.app0 (Ext.refl w) hdk rfl⟩
theorem op_pick_t {c x y:Operand} {b p:Bool} (hp:Pl n o t) (ho:o.op = .pick c x y) (hc:S.opd c = bC b) (hb:b = true) (hx:S.opd x = bC p):OpOk n P ops o (opdN c ++ opdN x ++ opdN y) (bC p) [] S:=by
 subst hb
 exact op_pick (p:=p) (q:=p) hp ho hc (fun _=>hx) (fun h=>by cases h)
theorem op_pick_f {c x y:Operand} {b p:Bool} (hp:Pl n o t) (ho:o.op = .pick c x y) (hc:S.opd c = bC b) (hb:b = false) (hy:S.opd y = bC p):OpOk n P ops o (opdN c ++ opdN x ++ opdN y) (bC p) [] S:=by
 subst hb
 exact op_pick (p:=p) (q:=p) hp ho hc (fun h=>by cases h) (fun _=>hy)
/-! ### the greater and the less of two numbers -/
theorem op_max {ty ty':TypeId} {x y:Operand} {k:IntKind} {u v:Int} (hp:Pl n o t) (ho:o.op = .call { callee:=.builtin .max,args:=#[x,y],argTypes:=#[ty,ty'] }) (hx:S.opd x = iC k u) (hy:S.opd y = iC k v) :
   OpOk n P ops o (opdN x ++ opdN y) (iC k (if v > u then v else u)) [] S:=
 op_val hp fun C T g a w hA hR=>by
   have h1:=raw_opd (x:=x) hA (fun k h=>by simp [h]) hR hx
   have h2:=raw_opd (x:=y) hA (fun k h=>by simp [h]) hR hy
   refine ⟨.int k (if v > u then v else u),?_,rfl⟩
   simp only [execOp,ho,resolve,invoke,builtin,Sem.run_bind,Sem.run_pure,Result.andThen_ok,List.map_toArray,List.map_cons,List.map_nil,h1,h2,run_max_int2]
theorem op_min {ty ty':TypeId} {x y:Operand} {k:IntKind} {u v:Int} (hp:Pl n o t) (ho:o.op = .call { callee:=.builtin .min,args:=#[x,y],argTypes:=#[ty,ty'] }) (hx:S.opd x = iC k u) (hy:S.opd y = iC k v) :
   OpOk n P ops o (opdN x ++ opdN y) (iC k (if v < u then v else u)) [] S:=
 op_val hp fun C T g a w hA hR=>by
   have h1:=raw_opd (x:=x) hA (fun k h=>by simp [h]) hR hx
   have h2:=raw_opd (x:=y) hA (fun k h=>by simp [h]) hR hy
   refine ⟨.int k (if v < u then v else u),?_,rfl⟩
   simp only [execOp,ho,resolve,invoke,builtin,Sem.run_bind,Sem.run_pure,Result.andThen_ok,List.map_toArray,List.map_cons,List.map_nil,h1,h2,run_min_int2]
end Go.Proofs.YthlffkjpklpkfaaGreat
namespace Go.Proofs.YthlffkjpklpkfaaGreat
open Go.RowKit
instance:Und Tryz.prog 2 (.int .i64):=⟨Tryz.underlying2⟩
instance:AggC Tryz.prog 2 false:=⟨_,Tryz.underlying2,rfl⟩
instance:Siz Tryz.prog 2 1:=⟨by kernel_rfl⟩
instance:Zro Tryz.prog 2 (.int .i64 0):=⟨by kernel_rfl⟩
instance:Und Tryz.prog 3 (.int .i64):=⟨Tryz.underlying3⟩
instance:AggC Tryz.prog 3 false:=⟨_,Tryz.underlying3,rfl⟩
instance:Siz Tryz.prog 3 1:=⟨by kernel_rfl⟩
instance:Zro Tryz.prog 3 (.int .i64 0):=⟨by kernel_rfl⟩
instance:Und Tryz.prog 4 .bool:=⟨Tryz.underlying4⟩
instance:AggC Tryz.prog 4 false:=⟨_,Tryz.underlying4,rfl⟩
instance:Siz Tryz.prog 4 1:=⟨by kernel_rfl⟩
instance:Zro Tryz.prog 4 (.bool false):=⟨by kernel_rfl⟩
instance:Und Tryz.prog 5 (.int .u8):=⟨Tryz.underlying5⟩
instance:AggC Tryz.prog 5 false:=⟨_,Tryz.underlying5,rfl⟩
instance:Siz Tryz.prog 5 1:=⟨by kernel_rfl⟩
instance:Zro Tryz.prog 5 (.int .u8 0):=⟨by kernel_rfl⟩
instance:AggC Tryz.prog 7 true:=⟨_,Tryz.underlying7,rfl⟩
instance:Siz Tryz.prog 7 4:=⟨by kernel_rfl⟩
instance:Zro Tryz.prog 7 (.agg #[(.int .i64 0),(.int .i64 0),(.bool false),(.int .u8 0)]):=⟨by kernel_rfl⟩
instance:Und Tryz.prog 9 .string:=⟨Tryz.underlying9⟩
instance:AggC Tryz.prog 9 false:=⟨_,Tryz.underlying9,rfl⟩
instance:Siz Tryz.prog 9 1:=⟨by kernel_rfl⟩
instance:Zro Tryz.prog 9 (.string ⟨#[]⟩):=⟨by kernel_rfl⟩
instance:Und Tryz.prog 12 (.int .u64):=⟨Tryz.underlying12⟩
instance:AggC Tryz.prog 12 false:=⟨_,Tryz.underlying12,rfl⟩
instance:Siz Tryz.prog 12 1:=⟨by kernel_rfl⟩
instance:Zro Tryz.prog 12 (.int .u64 0):=⟨by kernel_rfl⟩
instance:AggC Tryz.prog 13 true:=⟨_,Tryz.underlying13,rfl⟩
instance:Siz Tryz.prog 13 2:=⟨by kernel_rfl⟩
instance:Zro Tryz.prog 13 (.agg #[(.string ⟨#[]⟩),(.int .u64 0)]):=⟨by kernel_rfl⟩
instance:Und Tryz.prog 15 (.pointer 264):=⟨Tryz.underlying15⟩
instance:AggC Tryz.prog 15 false:=⟨_,Tryz.underlying15,rfl⟩
instance:Siz Tryz.prog 15 1:=⟨by kernel_rfl⟩
instance:Zro Tryz.prog 15 (.pointer none):=⟨by kernel_rfl⟩
instance:Und Tryz.prog 16 (.pointer 267):=⟨Tryz.underlying16⟩
instance:AggC Tryz.prog 16 false:=⟨_,Tryz.underlying16,rfl⟩
instance:Siz Tryz.prog 16 1:=⟨by kernel_rfl⟩
instance:Zro Tryz.prog 16 (.pointer none):=⟨by kernel_rfl⟩
instance:Und Tryz.prog 17 (.pointer 274):=⟨Tryz.underlying17⟩
instance:AggC Tryz.prog 17 false:=⟨_,Tryz.underlying17,rfl⟩
instance:Siz Tryz.prog 17 1:=⟨by kernel_rfl⟩
instance:Zro Tryz.prog 17 (.pointer none):=⟨by kernel_rfl⟩
instance:AggC Tryz.prog 18 true:=⟨_,Tryz.underlying18,rfl⟩
instance:Siz Tryz.prog 18 1:=⟨by kernel_rfl⟩
instance:Zro Tryz.prog 18 (.agg #[(.pointer none)]):=⟨by kernel_rfl⟩
instance:Und Tryz.prog 21 (.int .i32):=⟨Tryz.underlying21⟩
instance:AggC Tryz.prog 21 false:=⟨_,Tryz.underlying21,rfl⟩
instance:Siz Tryz.prog 21 1:=⟨by kernel_rfl⟩
instance:Zro Tryz.prog 21 (.int .i32 0):=⟨by kernel_rfl⟩
instance:Und Tryz.prog 22 (.slice 33):=⟨Tryz.underlying22⟩
instance:AggC Tryz.prog 22 false:=⟨_,Tryz.underlying22,rfl⟩
instance:Siz Tryz.prog 22 1:=⟨by kernel_rfl⟩
instance:Zro Tryz.prog 22 (.slice none 0 0):=⟨by kernel_rfl⟩
instance:TIc Tryz.prog 22 33 19 216:=⟨TI.mk' Tryz.underlying22 (by kernel_rfl)⟩
instance:Und Tryz.prog 23 (.slice 27):=⟨Tryz.underlying23⟩
instance:AggC Tryz.prog 23 false:=⟨_,Tryz.underlying23,rfl⟩
instance:Siz Tryz.prog 23 1:=⟨by kernel_rfl⟩
instance:Zro Tryz.prog 23 (.slice none 0 0):=⟨by kernel_rfl⟩
instance:TIc Tryz.prog 23 27 1 24:=⟨TI.mk' Tryz.underlying23 (by kernel_rfl)⟩
instance:Und Tryz.prog 25 (.slice 29):=⟨Tryz.underlying25⟩
instance:AggC Tryz.prog 25 false:=⟨_,Tryz.underlying25,rfl⟩
instance:Siz Tryz.prog 25 1:=⟨by kernel_rfl⟩
instance:Zro Tryz.prog 25 (.slice none 0 0):=⟨by kernel_rfl⟩
instance:TIc Tryz.prog 25 29 3 40:=⟨TI.mk' Tryz.underlying25 (by kernel_rfl)⟩
instance:Und Tryz.prog 26 (.slice 82):=⟨Tryz.underlying26⟩
instance:AggC Tryz.prog 26 false:=⟨_,Tryz.underlying26,rfl⟩
instance:Siz Tryz.prog 26 1:=⟨by kernel_rfl⟩
instance:Zro Tryz.prog 26 (.slice none 0 0):=⟨by kernel_rfl⟩
instance:TIc Tryz.prog 26 82 4 64:=⟨TI.mk' Tryz.underlying26 (by kernel_rfl)⟩
instance:Und Tryz.prog 27 (.slice 5):=⟨Tryz.underlying27⟩
instance:AggC Tryz.prog 27 false:=⟨_,Tryz.underlying27,rfl⟩
instance:Siz Tryz.prog 27 1:=⟨by kernel_rfl⟩
instance:Zro Tryz.prog 27 (.slice none 0 0):=⟨by kernel_rfl⟩
instance:TIc Tryz.prog 27 5 1 1:=⟨TI.mk' Tryz.underlying27 (by kernel_rfl)⟩
instance:AggC Tryz.prog 28 true:=⟨_,Tryz.underlying28,rfl⟩
instance:Siz Tryz.prog 28 3:=⟨by kernel_rfl⟩
instance:Zro Tryz.prog 28 (.agg #[(.string ⟨#[]⟩),(.string ⟨#[]⟩),(.bool false)]):=⟨by kernel_rfl⟩
instance:FldC Tryz.prog 28 0 0:=⟨Fld.mk' Tryz.underlying28 (by kernel_rfl)⟩
instance:FldC Tryz.prog 28 1 1:=⟨Fld.mk' Tryz.underlying28 (by kernel_rfl)⟩
instance:FldC Tryz.prog 28 2 2:=⟨Fld.mk' Tryz.underlying28 (by kernel_rfl)⟩
instance:PlsC Tryz.prog 28 [(0,1),(1,1),(2,1)]:=⟨by kernel_rfl⟩
instance:AggC Tryz.prog 29 true:=⟨_,Tryz.underlying29,rfl⟩
instance:Siz Tryz.prog 29 3:=⟨by kernel_rfl⟩
instance:Zro Tryz.prog 29 (.agg #[(.string ⟨#[]⟩),(.string ⟨#[]⟩),(.bool false)]):=⟨by kernel_rfl⟩
instance:FldC Tryz.prog 29 0 0:=⟨Fld.mk' Tryz.underlying29 (by kernel_rfl)⟩
instance:FldC Tryz.prog 29 1 1:=⟨Fld.mk' Tryz.underlying29 (by kernel_rfl)⟩
instance:FldC Tryz.prog 29 2 2:=⟨Fld.mk' Tryz.underlying29 (by kernel_rfl)⟩
instance:PlsC Tryz.prog 29 [(0,1),(1,1),(2,1)]:=⟨by kernel_rfl⟩
instance:Und Tryz.prog 30 (.int .u64):=⟨Tryz.underlying30⟩
instance:AggC Tryz.prog 30 false:=⟨_,Tryz.underlying30,rfl⟩
instance:Siz Tryz.prog 30 1:=⟨by kernel_rfl⟩
instance:Zro Tryz.prog 30 (.int .u64 0):=⟨by kernel_rfl⟩
instance:Und Tryz.prog 31 (.slice 87):=⟨Tryz.underlying31⟩
instance:AggC Tryz.prog 31 false:=⟨_,Tryz.underlying31,rfl⟩
instance:Siz Tryz.prog 31 1:=⟨by kernel_rfl⟩
instance:Zro Tryz.prog 31 (.slice none 0 0):=⟨by kernel_rfl⟩
instance:TIc Tryz.prog 31 87 7 72:=⟨TI.mk' Tryz.underlying31 (by kernel_rfl)⟩
instance:AggC Tryz.prog 32 true:=⟨_,Tryz.underlying32,rfl⟩
instance:Siz Tryz.prog 32 19:=⟨by kernel_rfl⟩
instance:Zro Tryz.prog 32 (.agg #[(.int .i64 0),(.int .i64 0),(.int .i64 0),(.int .i64 0),(.int .i64 0),(.int .i64 0),(.int .i64 0),(.int .i64 0),(.bool false),(.bool false),(.bool false),(.slice none 0 0),(.slice none 0 0),(.slice none 0 0),(.string ⟨#[]⟩),(.string ⟨#[]⟩),(.bool false),(.int .u64 0),(.slice none 0 0)]):=⟨by kernel_rfl⟩
instance:FldC Tryz.prog 32 0 0:=⟨Fld.mk' Tryz.underlying32 (by kernel_rfl)⟩
instance:FldC Tryz.prog 32 1 1:=⟨Fld.mk' Tryz.underlying32 (by kernel_rfl)⟩
instance:FldC Tryz.prog 32 2 2:=⟨Fld.mk' Tryz.underlying32 (by kernel_rfl)⟩
instance:FldC Tryz.prog 32 3 3:=⟨Fld.mk' Tryz.underlying32 (by kernel_rfl)⟩
instance:FldC Tryz.prog 32 4 4:=⟨Fld.mk' Tryz.underlying32 (by kernel_rfl)⟩
instance:FldC Tryz.prog 32 5 5:=⟨Fld.mk' Tryz.underlying32 (by kernel_rfl)⟩
instance:FldC Tryz.prog 32 6 6:=⟨Fld.mk' Tryz.underlying32 (by kernel_rfl)⟩
instance:FldC Tryz.prog 32 7 7:=⟨Fld.mk' Tryz.underlying32 (by kernel_rfl)⟩
instance:FldC Tryz.prog 32 8 8:=⟨Fld.mk' Tryz.underlying32 (by kernel_rfl)⟩
instance:FldC Tryz.prog 32 9 9:=⟨Fld.mk' Tryz.underlying32 (by kernel_rfl)⟩
instance:FldC Tryz.prog 32 10 10:=⟨Fld.mk' Tryz.underlying32 (by kernel_rfl)⟩
instance:FldC Tryz.prog 32 11 11:=⟨Fld.mk' Tryz.underlying32 (by kernel_rfl)⟩
instance:FldC Tryz.prog 32 12 12:=⟨Fld.mk' Tryz.underlying32 (by kernel_rfl)⟩
instance:FldC Tryz.prog 32 13 13:=⟨Fld.mk' Tryz.underlying32 (by kernel_rfl)⟩
instance:FldC Tryz.prog 32 14 14:=⟨Fld.mk' Tryz.underlying32 (by kernel_rfl)⟩
instance:FldC Tryz.prog 32 15 17:=⟨Fld.mk' Tryz.underlying32 (by kernel_rfl)⟩
instance:FldC Tryz.prog 32 16 18:=⟨Fld.mk' Tryz.underlying32 (by kernel_rfl)⟩
instance:PlsC Tryz.prog 32 [(0,1),(1,1),(2,1),(3,1),(4,1),(5,1),(6,1),(7,1),(8,1),(9,1),(10,1),(11,1),(12,1),(13,1),(14,3),(17,1),(18,1)]:=⟨by kernel_rfl⟩
instance:AggC Tryz.prog 33 true:=⟨_,Tryz.underlying33,rfl⟩
instance:Siz Tryz.prog 33 19:=⟨by kernel_rfl⟩
instance:Zro Tryz.prog 33 (.agg #[(.int .i64 0),(.int .i64 0),(.int .i64 0),(.int .i64 0),(.int .i64 0),(.int .i64 0),(.int .i64 0),(.int .i64 0),(.bool false),(.bool false),(.bool false),(.slice none 0 0),(.slice none 0 0),(.slice none 0 0),(.string ⟨#[]⟩),(.string ⟨#[]⟩),(.bool false),(.int .u64 0),(.slice none 0 0)]):=⟨by kernel_rfl⟩
instance:FldC Tryz.prog 33 0 0:=⟨Fld.mk' Tryz.underlying33 (by kernel_rfl)⟩
instance:FldC Tryz.prog 33 1 1:=⟨Fld.mk' Tryz.underlying33 (by kernel_rfl)⟩
instance:FldC Tryz.prog 33 2 2:=⟨Fld.mk' Tryz.underlying33 (by kernel_rfl)⟩
instance:FldC Tryz.prog 33 3 3:=⟨Fld.mk' Tryz.underlying33 (by kernel_rfl)⟩
instance:FldC Tryz.prog 33 4 4:=⟨Fld.mk' Tryz.underlying33 (by kernel_rfl)⟩
instance:FldC Tryz.prog 33 5 5:=⟨Fld.mk' Tryz.underlying33 (by kernel_rfl)⟩
instance:FldC Tryz.prog 33 6 6:=⟨Fld.mk' Tryz.underlying33 (by kernel_rfl)⟩
instance:FldC Tryz.prog 33 7 7:=⟨Fld.mk' Tryz.underlying33 (by kernel_rfl)⟩
instance:FldC Tryz.prog 33 8 8:=⟨Fld.mk' Tryz.underlying33 (by kernel_rfl)⟩
instance:FldC Tryz.prog 33 9 9:=⟨Fld.mk' Tryz.underlying33 (by kernel_rfl)⟩
instance:FldC Tryz.prog 33 10 10:=⟨Fld.mk' Tryz.underlying33 (by kernel_rfl)⟩
instance:FldC Tryz.prog 33 11 11:=⟨Fld.mk' Tryz.underlying33 (by kernel_rfl)⟩
instance:FldC Tryz.prog 33 12 12:=⟨Fld.mk' Tryz.underlying33 (by kernel_rfl)⟩
instance:FldC Tryz.prog 33 13 13:=⟨Fld.mk' Tryz.underlying33 (by kernel_rfl)⟩
instance:FldC Tryz.prog 33 14 14:=⟨Fld.mk' Tryz.underlying33 (by kernel_rfl)⟩
instance:FldC Tryz.prog 33 15 17:=⟨Fld.mk' Tryz.underlying33 (by kernel_rfl)⟩
instance:FldC Tryz.prog 33 16 18:=⟨Fld.mk' Tryz.underlying33 (by kernel_rfl)⟩
instance:PlsC Tryz.prog 33 [(0,1),(1,1),(2,1),(3,1),(4,1),(5,1),(6,1),(7,1),(8,1),(9,1),(10,1),(11,1),(12,1),(13,1),(14,3),(17,1),(18,1)]:=⟨by kernel_rfl⟩
instance:Und Tryz.prog 37 (.array 7 3):=⟨Tryz.underlying37⟩
instance:AggC Tryz.prog 37 true:=⟨_,Tryz.underlying37,rfl⟩
instance:Siz Tryz.prog 37 7:=⟨by kernel_rfl⟩
instance:Zro Tryz.prog 37 (.agg #[(.int .i64 0),(.int .i64 0),(.int .i64 0),(.int .i64 0),(.int .i64 0),(.int .i64 0),(.int .i64 0)]):=⟨by kernel_rfl⟩
instance:AggC Tryz.prog 39 true:=⟨_,Tryz.underlying39,rfl⟩
instance:Siz Tryz.prog 39 8:=⟨by kernel_rfl⟩
instance:Zro Tryz.prog 39 (.agg #[(.int .i64 0),(.int .i64 0),(.int .i64 0),(.int .i64 0),(.int .i64 0),(.int .i64 0),(.int .i64 0),(.int .i64 0)]):=⟨by kernel_rfl⟩
instance:FldC Tryz.prog 39 0 0:=⟨Fld.mk' Tryz.underlying39 (by kernel_rfl)⟩
instance:FldC Tryz.prog 39 1 1:=⟨Fld.mk' Tryz.underlying39 (by kernel_rfl)⟩
instance:FldC Tryz.prog 39 2 2:=⟨Fld.mk' Tryz.underlying39 (by kernel_rfl)⟩
instance:FldC Tryz.prog 39 3 3:=⟨Fld.mk' Tryz.underlying39 (by kernel_rfl)⟩
instance:FldC Tryz.prog 39 4 4:=⟨Fld.mk' Tryz.underlying39 (by kernel_rfl)⟩
instance:FldC Tryz.prog 39 5 5:=⟨Fld.mk' Tryz.underlying39 (by kernel_rfl)⟩
instance:FldC Tryz.prog 39 6 6:=⟨Fld.mk' Tryz.underlying39 (by kernel_rfl)⟩
instance:FldC Tryz.prog 39 7 7:=⟨Fld.mk' Tryz.underlying39 (by kernel_rfl)⟩
instance:PlsC Tryz.prog 39 [(0,1),(1,1),(2,1),(3,1),(4,1),(5,1),(6,1),(7,1)]:=⟨by kernel_rfl⟩
instance:AggC Tryz.prog 40 true:=⟨_,Tryz.underlying40,rfl⟩
instance:Siz Tryz.prog 40 8:=⟨by kernel_rfl⟩
instance:Zro Tryz.prog 40 (.agg #[(.int .i64 0),(.int .i64 0),(.int .i64 0),(.int .i64 0),(.int .i64 0),(.int .i64 0),(.int .i64 0),(.int .i64 0)]):=⟨by kernel_rfl⟩
instance:FldC Tryz.prog 40 0 0:=⟨Fld.mk' Tryz.underlying40 (by kernel_rfl)⟩
instance:FldC Tryz.prog 40 1 1:=⟨Fld.mk' Tryz.underlying40 (by kernel_rfl)⟩
instance:FldC Tryz.prog 40 2 2:=⟨Fld.mk' Tryz.underlying40 (by kernel_rfl)⟩
instance:FldC Tryz.prog 40 3 3:=⟨Fld.mk' Tryz.underlying40 (by kernel_rfl)⟩
instance:FldC Tryz.prog 40 4 4:=⟨Fld.mk' Tryz.underlying40 (by kernel_rfl)⟩
instance:FldC Tryz.prog 40 5 5:=⟨Fld.mk' Tryz.underlying40 (by kernel_rfl)⟩
instance:FldC Tryz.prog 40 6 6:=⟨Fld.mk' Tryz.underlying40 (by kernel_rfl)⟩
instance:FldC Tryz.prog 40 7 7:=⟨Fld.mk' Tryz.underlying40 (by kernel_rfl)⟩
instance:PlsC Tryz.prog 40 [(0,1),(1,1),(2,1),(3,1),(4,1),(5,1),(6,1),(7,1)]:=⟨by kernel_rfl⟩
instance:Und Tryz.prog 47 (.int .i64):=⟨Tryz.underlying47⟩
instance:AggC Tryz.prog 47 false:=⟨_,Tryz.underlying47,rfl⟩
instance:Siz Tryz.prog 47 1:=⟨by kernel_rfl⟩
instance:Zro Tryz.prog 47 (.int .i64 0):=⟨by kernel_rfl⟩
instance:AggC Tryz.prog 50 true:=⟨_,Tryz.underlying50,rfl⟩
instance:Siz Tryz.prog 50 19:=⟨by kernel_rfl⟩
instance:Zro Tryz.prog 50 (.agg #[(.int .i64 0),(.int .i64 0),(.int .i64 0),(.int .i64 0),(.int .i64 0),(.int .i64 0),(.int .i64 0),(.int .i64 0),(.bool false),(.bool false),(.bool false),(.slice none 0 0),(.slice none 0 0),(.slice none 0 0),(.string ⟨#[]⟩),(.string ⟨#[]⟩),(.bool false),(.int .u64 0),(.slice none 0 0)]):=⟨by kernel_rfl⟩
instance:FldC Tryz.prog 50 0 0:=⟨Fld.mk' Tryz.underlying50 (by kernel_rfl)⟩
instance:FldC Tryz.prog 50 1 1:=⟨Fld.mk' Tryz.underlying50 (by kernel_rfl)⟩
instance:FldC Tryz.prog 50 2 2:=⟨Fld.mk' Tryz.underlying50 (by kernel_rfl)⟩
instance:FldC Tryz.prog 50 3 3:=⟨Fld.mk' Tryz.underlying50 (by kernel_rfl)⟩
instance:FldC Tryz.prog 50 4 4:=⟨Fld.mk' Tryz.underlying50 (by kernel_rfl)⟩
instance:FldC Tryz.prog 50 5 5:=⟨Fld.mk' Tryz.underlying50 (by kernel_rfl)⟩
instance:FldC Tryz.prog 50 6 6:=⟨Fld.mk' Tryz.underlying50 (by kernel_rfl)⟩
instance:FldC Tryz.prog 50 7 7:=⟨Fld.mk' Tryz.underlying50 (by kernel_rfl)⟩
instance:FldC Tryz.prog 50 8 8:=⟨Fld.mk' Tryz.underlying50 (by kernel_rfl)⟩
instance:FldC Tryz.prog 50 9 9:=⟨Fld.mk' Tryz.underlying50 (by kernel_rfl)⟩
instance:FldC Tryz.prog 50 10 10:=⟨Fld.mk' Tryz.underlying50 (by kernel_rfl)⟩
instance:FldC Tryz.prog 50 11 11:=⟨Fld.mk' Tryz.underlying50 (by kernel_rfl)⟩
instance:FldC Tryz.prog 50 12 12:=⟨Fld.mk' Tryz.underlying50 (by kernel_rfl)⟩
instance:FldC Tryz.prog 50 13 13:=⟨Fld.mk' Tryz.underlying50 (by kernel_rfl)⟩
instance:FldC Tryz.prog 50 14 14:=⟨Fld.mk' Tryz.underlying50 (by kernel_rfl)⟩
instance:FldC Tryz.prog 50 15 17:=⟨Fld.mk' Tryz.underlying50 (by kernel_rfl)⟩
instance:FldC Tryz.prog 50 16 18:=⟨Fld.mk' Tryz.underlying50 (by kernel_rfl)⟩
instance:PlsC Tryz.prog 50 [(0,1),(1,1),(2,1),(3,1),(4,1),(5,1),(6,1),(7,1),(8,1),(9,1),(10,1),(11,1),(12,1),(13,1),(14,3),(17,1),(18,1)]:=⟨by kernel_rfl⟩
instance:Und Tryz.prog 63 (.slice 9):=⟨Tryz.underlying63⟩
instance:AggC Tryz.prog 63 false:=⟨_,Tryz.underlying63,rfl⟩
instance:Siz Tryz.prog 63 1:=⟨by kernel_rfl⟩
instance:Zro Tryz.prog 63 (.slice none 0 0):=⟨by kernel_rfl⟩
instance:TIc Tryz.prog 63 9 1 16:=⟨TI.mk' Tryz.underlying63 (by kernel_rfl)⟩
instance:Und Tryz.prog 73 (.slice 3):=⟨Tryz.underlying73⟩
instance:AggC Tryz.prog 73 false:=⟨_,Tryz.underlying73,rfl⟩
instance:Siz Tryz.prog 73 1:=⟨by kernel_rfl⟩
instance:Zro Tryz.prog 73 (.slice none 0 0):=⟨by kernel_rfl⟩
instance:TIc Tryz.prog 73 3 1 8:=⟨TI.mk' Tryz.underlying73 (by kernel_rfl)⟩
instance:Und Tryz.prog 80 (.slice 149):=⟨Tryz.underlying80⟩
instance:AggC Tryz.prog 80 false:=⟨_,Tryz.underlying80,rfl⟩
instance:Siz Tryz.prog 80 1:=⟨by kernel_rfl⟩
instance:Zro Tryz.prog 80 (.slice none 0 0):=⟨by kernel_rfl⟩
instance:TIc Tryz.prog 80 149 2 32:=⟨TI.mk' Tryz.underlying80 (by kernel_rfl)⟩
instance:AggC Tryz.prog 81 true:=⟨_,Tryz.underlying81,rfl⟩
instance:Siz Tryz.prog 81 4:=⟨by kernel_rfl⟩
instance:Zro Tryz.prog 81 (.agg #[(.string ⟨#[]⟩),(.string ⟨#[]⟩),(.bool false),(.slice none 0 0)]):=⟨by kernel_rfl⟩
instance:FldC Tryz.prog 81 0 0:=⟨Fld.mk' Tryz.underlying81 (by kernel_rfl)⟩
instance:FldC Tryz.prog 81 1 3:=⟨Fld.mk' Tryz.underlying81 (by kernel_rfl)⟩
instance:PlsC Tryz.prog 81 [(0,3),(3,1)]:=⟨by kernel_rfl⟩
instance:AggC Tryz.prog 82 true:=⟨_,Tryz.underlying82,rfl⟩
instance:Siz Tryz.prog 82 4:=⟨by kernel_rfl⟩
instance:Zro Tryz.prog 82 (.agg #[(.string ⟨#[]⟩),(.string ⟨#[]⟩),(.bool false),(.slice none 0 0)]):=⟨by kernel_rfl⟩
instance:FldC Tryz.prog 82 0 0:=⟨Fld.mk' Tryz.underlying82 (by kernel_rfl)⟩
instance:FldC Tryz.prog 82 1 3:=⟨Fld.mk' Tryz.underlying82 (by kernel_rfl)⟩
instance:PlsC Tryz.prog 82 [(0,3),(3,1)]:=⟨by kernel_rfl⟩
instance:AggC Tryz.prog 84 true:=⟨_,Tryz.underlying84,rfl⟩
instance:Siz Tryz.prog 84 2:=⟨by kernel_rfl⟩
instance:Zro Tryz.prog 84 (.agg #[(.int .i64 0),(.int .i64 0)]):=⟨by kernel_rfl⟩
instance:FldC Tryz.prog 84 0 0:=⟨Fld.mk' Tryz.underlying84 (by kernel_rfl)⟩
instance:FldC Tryz.prog 84 1 1:=⟨Fld.mk' Tryz.underlying84 (by kernel_rfl)⟩
instance:PlsC Tryz.prog 84 [(0,1),(1,1)]:=⟨by kernel_rfl⟩
instance:AggC Tryz.prog 85 true:=⟨_,Tryz.underlying85,rfl⟩
instance:Siz Tryz.prog 85 2:=⟨by kernel_rfl⟩
instance:Zro Tryz.prog 85 (.agg #[(.int .i64 0),(.int .i64 0)]):=⟨by kernel_rfl⟩
instance:FldC Tryz.prog 85 0 0:=⟨Fld.mk' Tryz.underlying85 (by kernel_rfl)⟩
instance:FldC Tryz.prog 85 1 1:=⟨Fld.mk' Tryz.underlying85 (by kernel_rfl)⟩
instance:PlsC Tryz.prog 85 [(0,1),(1,1)]:=⟨by kernel_rfl⟩
instance:AggC Tryz.prog 86 true:=⟨_,Tryz.underlying86,rfl⟩
instance:Siz Tryz.prog 86 7:=⟨by kernel_rfl⟩
instance:Zro Tryz.prog 86 (.agg #[(.string ⟨#[]⟩),(.int .i64 0),(.int .i64 0),(.int .i64 0),(.int .i64 0),(.bool false),(.string ⟨#[]⟩)]):=⟨by kernel_rfl⟩
instance:FldC Tryz.prog 86 0 0:=⟨Fld.mk' Tryz.underlying86 (by kernel_rfl)⟩
instance:FldC Tryz.prog 86 1 1:=⟨Fld.mk' Tryz.underlying86 (by kernel_rfl)⟩
instance:FldC Tryz.prog 86 2 3:=⟨Fld.mk' Tryz.underlying86 (by kernel_rfl)⟩
instance:FldC Tryz.prog 86 3 4:=⟨Fld.mk' Tryz.underlying86 (by kernel_rfl)⟩
instance:FldC Tryz.prog 86 4 5:=⟨Fld.mk' Tryz.underlying86 (by kernel_rfl)⟩
instance:FldC Tryz.prog 86 5 6:=⟨Fld.mk' Tryz.underlying86 (by kernel_rfl)⟩
instance:PlsC Tryz.prog 86 [(0,1),(1,2),(3,1),(4,1),(5,1),(6,1)]:=⟨by kernel_rfl⟩
instance:AggC Tryz.prog 87 true:=⟨_,Tryz.underlying87,rfl⟩
instance:Siz Tryz.prog 87 7:=⟨by kernel_rfl⟩
instance:Zro Tryz.prog 87 (.agg #[(.string ⟨#[]⟩),(.int .i64 0),(.int .i64 0),(.int .i64 0),(.int .i64 0),(.bool false),(.string ⟨#[]⟩)]):=⟨by kernel_rfl⟩
instance:FldC Tryz.prog 87 0 0:=⟨Fld.mk' Tryz.underlying87 (by kernel_rfl)⟩
instance:FldC Tryz.prog 87 1 1:=⟨Fld.mk' Tryz.underlying87 (by kernel_rfl)⟩
instance:FldC Tryz.prog 87 2 3:=⟨Fld.mk' Tryz.underlying87 (by kernel_rfl)⟩
instance:FldC Tryz.prog 87 3 4:=⟨Fld.mk' Tryz.underlying87 (by kernel_rfl)⟩
instance:FldC Tryz.prog 87 4 5:=⟨Fld.mk' Tryz.underlying87 (by kernel_rfl)⟩
instance:FldC Tryz.prog 87 5 6:=⟨Fld.mk' Tryz.underlying87 (by kernel_rfl)⟩
instance:PlsC Tryz.prog 87 [(0,1),(1,2),(3,1),(4,1),(5,1),(6,1)]:=⟨by kernel_rfl⟩
instance:Und Tryz.prog 89 (.slice 4):=⟨Tryz.underlying89⟩
instance:AggC Tryz.prog 89 false:=⟨_,Tryz.underlying89,rfl⟩
instance:Siz Tryz.prog 89 1:=⟨by kernel_rfl⟩
instance:Zro Tryz.prog 89 (.slice none 0 0):=⟨by kernel_rfl⟩
instance:TIc Tryz.prog 89 4 1 1:=⟨TI.mk' Tryz.underlying89 (by kernel_rfl)⟩
instance:AggC Tryz.prog 90 true:=⟨_,Tryz.underlying90,rfl⟩
instance:Siz Tryz.prog 90 3:=⟨by kernel_rfl⟩
instance:Zro Tryz.prog 90 (.agg #[(.slice none 0 0),(.int .i64 0),(.int .u64 0)]):=⟨by kernel_rfl⟩
instance:FldC Tryz.prog 90 0 0:=⟨Fld.mk' Tryz.underlying90 (by kernel_rfl)⟩
instance:FldC Tryz.prog 90 1 1:=⟨Fld.mk' Tryz.underlying90 (by kernel_rfl)⟩
instance:FldC Tryz.prog 90 2 2:=⟨Fld.mk' Tryz.underlying90 (by kernel_rfl)⟩
instance:PlsC Tryz.prog 90 [(0,1),(1,1),(2,1)]:=⟨by kernel_rfl⟩
instance:AggC Tryz.prog 91 true:=⟨_,Tryz.underlying91,rfl⟩
instance:Siz Tryz.prog 91 3:=⟨by kernel_rfl⟩
instance:Zro Tryz.prog 91 (.agg #[(.slice none 0 0),(.int .i64 0),(.int .u64 0)]):=⟨by kernel_rfl⟩
instance:FldC Tryz.prog 91 0 0:=⟨Fld.mk' Tryz.underlying91 (by kernel_rfl)⟩
instance:FldC Tryz.prog 91 1 1:=⟨Fld.mk' Tryz.underlying91 (by kernel_rfl)⟩
instance:FldC Tryz.prog 91 2 2:=⟨Fld.mk' Tryz.underlying91 (by kernel_rfl)⟩
instance:PlsC Tryz.prog 91 [(0,1),(1,1),(2,1)]:=⟨by kernel_rfl⟩
instance:Und Tryz.prog 105 (.int .u32):=⟨Tryz.underlying105⟩
instance:AggC Tryz.prog 105 false:=⟨_,Tryz.underlying105,rfl⟩
instance:Siz Tryz.prog 105 1:=⟨by kernel_rfl⟩
instance:Zro Tryz.prog 105 (.int .u32 0):=⟨by kernel_rfl⟩
instance:Und Tryz.prog 108 (.pointer 110):=⟨Tryz.underlying108⟩
instance:AggC Tryz.prog 108 false:=⟨_,Tryz.underlying108,rfl⟩
instance:Siz Tryz.prog 108 1:=⟨by kernel_rfl⟩
instance:Zro Tryz.prog 108 (.pointer none):=⟨by kernel_rfl⟩
instance:AggC Tryz.prog 109 true:=⟨_,Tryz.underlying109,rfl⟩
instance:Siz Tryz.prog 109 3:=⟨by kernel_rfl⟩
instance:Zro Tryz.prog 109 (.agg #[(.slice none 0 0),(.int .i64 0),(.int .i64 0)]):=⟨by kernel_rfl⟩
instance:FldC Tryz.prog 109 0 0:=⟨Fld.mk' Tryz.underlying109 (by kernel_rfl)⟩
instance:FldC Tryz.prog 109 1 1:=⟨Fld.mk' Tryz.underlying109 (by kernel_rfl)⟩
instance:FldC Tryz.prog 109 2 2:=⟨Fld.mk' Tryz.underlying109 (by kernel_rfl)⟩
instance:PlsC Tryz.prog 109 [(0,1),(1,1),(2,1)]:=⟨by kernel_rfl⟩
instance:AggC Tryz.prog 110 true:=⟨_,Tryz.underlying110,rfl⟩
instance:Siz Tryz.prog 110 3:=⟨by kernel_rfl⟩
instance:Zro Tryz.prog 110 (.agg #[(.slice none 0 0),(.int .i64 0),(.int .i64 0)]):=⟨by kernel_rfl⟩
instance:FldC Tryz.prog 110 0 0:=⟨Fld.mk' Tryz.underlying110 (by kernel_rfl)⟩
instance:FldC Tryz.prog 110 1 1:=⟨Fld.mk' Tryz.underlying110 (by kernel_rfl)⟩
instance:FldC Tryz.prog 110 2 2:=⟨Fld.mk' Tryz.underlying110 (by kernel_rfl)⟩
instance:PlsC Tryz.prog 110 [(0,1),(1,1),(2,1)]:=⟨by kernel_rfl⟩
instance:Und Tryz.prog 120 (.pointer 168):=⟨Tryz.underlying120⟩
instance:AggC Tryz.prog 120 false:=⟨_,Tryz.underlying120,rfl⟩
instance:Siz Tryz.prog 120 1:=⟨by kernel_rfl⟩
instance:Zro Tryz.prog 120 (.pointer none):=⟨by kernel_rfl⟩
instance:AggC Tryz.prog 122 true:=⟨_,Tryz.underlying122,rfl⟩
instance:Siz Tryz.prog 122 1:=⟨by kernel_rfl⟩
instance:Zro Tryz.prog 122 (.agg #[(.pointer none)]):=⟨by kernel_rfl⟩
instance:FldC Tryz.prog 122 0 0:=⟨Fld.mk' Tryz.underlying122 (by kernel_rfl)⟩
instance:PlsC Tryz.prog 122 [(0,1)]:=⟨by kernel_rfl⟩
instance:AggC Tryz.prog 123 true:=⟨_,Tryz.underlying123,rfl⟩
instance:Siz Tryz.prog 123 1:=⟨by kernel_rfl⟩
instance:Zro Tryz.prog 123 (.agg #[(.pointer none)]):=⟨by kernel_rfl⟩
instance:FldC Tryz.prog 123 0 0:=⟨Fld.mk' Tryz.underlying123 (by kernel_rfl)⟩
instance:PlsC Tryz.prog 123 [(0,1)]:=⟨by kernel_rfl⟩
instance:Und Tryz.prog 128 (.pointer 50):=⟨Tryz.underlying128⟩
instance:AggC Tryz.prog 128 false:=⟨_,Tryz.underlying128,rfl⟩
instance:Siz Tryz.prog 128 1:=⟨by kernel_rfl⟩
instance:Zro Tryz.prog 128 (.pointer none):=⟨by kernel_rfl⟩
instance:Und Tryz.prog 142 (.pointer 194):=⟨Tryz.underlying142⟩
instance:AggC Tryz.prog 142 false:=⟨_,Tryz.underlying142,rfl⟩
instance:Siz Tryz.prog 142 1:=⟨by kernel_rfl⟩
instance:Zro Tryz.prog 142 (.pointer none):=⟨by kernel_rfl⟩
instance:Und Tryz.prog 147 (.slice 200):=⟨Tryz.underlying147⟩
instance:AggC Tryz.prog 147 false:=⟨_,Tryz.underlying147,rfl⟩
instance:Siz Tryz.prog 147 1:=⟨by kernel_rfl⟩
instance:Zro Tryz.prog 147 (.slice none 0 0):=⟨by kernel_rfl⟩
instance:TIc Tryz.prog 147 200 2 16:=⟨TI.mk' Tryz.underlying147 (by kernel_rfl)⟩
instance:AggC Tryz.prog 148 true:=⟨_,Tryz.underlying148,rfl⟩
instance:Siz Tryz.prog 148 2:=⟨by kernel_rfl⟩
instance:Zro Tryz.prog 148 (.agg #[(.int .i64 0),(.slice none 0 0)]):=⟨by kernel_rfl⟩
instance:FldC Tryz.prog 148 0 0:=⟨Fld.mk' Tryz.underlying148 (by kernel_rfl)⟩
instance:FldC Tryz.prog 148 1 1:=⟨Fld.mk' Tryz.underlying148 (by kernel_rfl)⟩
instance:PlsC Tryz.prog 148 [(0,1),(1,1)]:=⟨by kernel_rfl⟩
instance:AggC Tryz.prog 149 true:=⟨_,Tryz.underlying149,rfl⟩
instance:Siz Tryz.prog 149 2:=⟨by kernel_rfl⟩
instance:Zro Tryz.prog 149 (.agg #[(.int .i64 0),(.slice none 0 0)]):=⟨by kernel_rfl⟩
instance:FldC Tryz.prog 149 0 0:=⟨Fld.mk' Tryz.underlying149 (by kernel_rfl)⟩
instance:FldC Tryz.prog 149 1 1:=⟨Fld.mk' Tryz.underlying149 (by kernel_rfl)⟩
instance:PlsC Tryz.prog 149 [(0,1),(1,1)]:=⟨by kernel_rfl⟩
instance:AggC Tryz.prog 165 true:=⟨_,Tryz.underlying165,rfl⟩
instance:Siz Tryz.prog 165 2:=⟨by kernel_rfl⟩
instance:Zro Tryz.prog 165 (.agg #[(.slice none 0 0),(.int .i64 0)]):=⟨by kernel_rfl⟩
instance:FldC Tryz.prog 165 0 0:=⟨Fld.mk' Tryz.underlying165 (by kernel_rfl)⟩
instance:FldC Tryz.prog 165 1 1:=⟨Fld.mk' Tryz.underlying165 (by kernel_rfl)⟩
instance:PlsC Tryz.prog 165 [(0,1),(1,1)]:=⟨by kernel_rfl⟩
instance:AggC Tryz.prog 166 true:=⟨_,Tryz.underlying166,rfl⟩
instance:Siz Tryz.prog 166 2:=⟨by kernel_rfl⟩
instance:Zro Tryz.prog 166 (.agg #[(.slice none 0 0),(.int .i64 0)]):=⟨by kernel_rfl⟩
instance:FldC Tryz.prog 166 0 0:=⟨Fld.mk' Tryz.underlying166 (by kernel_rfl)⟩
instance:FldC Tryz.prog 166 1 1:=⟨Fld.mk' Tryz.underlying166 (by kernel_rfl)⟩
instance:PlsC Tryz.prog 166 [(0,1),(1,1)]:=⟨by kernel_rfl⟩
instance:AggC Tryz.prog 167 true:=⟨_,Tryz.underlying167,rfl⟩
instance:Siz Tryz.prog 167 2:=⟨by kernel_rfl⟩
instance:Zro Tryz.prog 167 (.agg #[(.slice none 0 0),(.int .i64 0)]):=⟨by kernel_rfl⟩
instance:FldC Tryz.prog 167 0 0:=⟨Fld.mk' Tryz.underlying167 (by kernel_rfl)⟩
instance:PlsC Tryz.prog 167 [(0,2)]:=⟨by kernel_rfl⟩
instance:AggC Tryz.prog 168 true:=⟨_,Tryz.underlying168,rfl⟩
instance:Siz Tryz.prog 168 2:=⟨by kernel_rfl⟩
instance:Zro Tryz.prog 168 (.agg #[(.slice none 0 0),(.int .i64 0)]):=⟨by kernel_rfl⟩
instance:FldC Tryz.prog 168 0 0:=⟨Fld.mk' Tryz.underlying168 (by kernel_rfl)⟩
instance:PlsC Tryz.prog 168 [(0,2)]:=⟨by kernel_rfl⟩
instance:Und Tryz.prog 176 (.pointer 178):=⟨Tryz.underlying176⟩
instance:AggC Tryz.prog 176 false:=⟨_,Tryz.underlying176,rfl⟩
instance:Siz Tryz.prog 176 1:=⟨by kernel_rfl⟩
instance:Zro Tryz.prog 176 (.pointer none):=⟨by kernel_rfl⟩
instance:AggC Tryz.prog 177 true:=⟨_,Tryz.underlying177,rfl⟩
instance:Siz Tryz.prog 177 2:=⟨by kernel_rfl⟩
instance:Zro Tryz.prog 177 (.agg #[(.pointer none),(.slice none 0 0)]):=⟨by kernel_rfl⟩
instance:FldC Tryz.prog 177 0 0:=⟨Fld.mk' Tryz.underlying177 (by kernel_rfl)⟩
instance:FldC Tryz.prog 177 1 1:=⟨Fld.mk' Tryz.underlying177 (by kernel_rfl)⟩
instance:PlsC Tryz.prog 177 [(0,1),(1,1)]:=⟨by kernel_rfl⟩
instance:AggC Tryz.prog 178 true:=⟨_,Tryz.underlying178,rfl⟩
instance:Siz Tryz.prog 178 2:=⟨by kernel_rfl⟩
instance:Zro Tryz.prog 178 (.agg #[(.pointer none),(.slice none 0 0)]):=⟨by kernel_rfl⟩
instance:FldC Tryz.prog 178 0 0:=⟨Fld.mk' Tryz.underlying178 (by kernel_rfl)⟩
instance:FldC Tryz.prog 178 1 1:=⟨Fld.mk' Tryz.underlying178 (by kernel_rfl)⟩
instance:PlsC Tryz.prog 178 [(0,1),(1,1)]:=⟨by kernel_rfl⟩
instance:AggC Tryz.prog 193 true:=⟨_,Tryz.underlying193,rfl⟩
instance:Siz Tryz.prog 193 4:=⟨by kernel_rfl⟩
instance:Zro Tryz.prog 193 (.agg #[(.int .i64 0),(.int .i64 0),(.int .u64 0),(.slice none 0 0)]):=⟨by kernel_rfl⟩
instance:FldC Tryz.prog 193 0 0:=⟨Fld.mk' Tryz.underlying193 (by kernel_rfl)⟩
instance:FldC Tryz.prog 193 1 1:=⟨Fld.mk' Tryz.underlying193 (by kernel_rfl)⟩
instance:FldC Tryz.prog 193 2 2:=⟨Fld.mk' Tryz.underlying193 (by kernel_rfl)⟩
instance:FldC Tryz.prog 193 3 3:=⟨Fld.mk' Tryz.underlying193 (by kernel_rfl)⟩
instance:PlsC Tryz.prog 193 [(0,1),(1,1),(2,1),(3,1)]:=⟨by kernel_rfl⟩
instance:AggC Tryz.prog 194 true:=⟨_,Tryz.underlying194,rfl⟩
instance:Siz Tryz.prog 194 4:=⟨by kernel_rfl⟩
instance:Zro Tryz.prog 194 (.agg #[(.int .i64 0),(.int .i64 0),(.int .u64 0),(.slice none 0 0)]):=⟨by kernel_rfl⟩
instance:FldC Tryz.prog 194 0 0:=⟨Fld.mk' Tryz.underlying194 (by kernel_rfl)⟩
instance:FldC Tryz.prog 194 1 1:=⟨Fld.mk' Tryz.underlying194 (by kernel_rfl)⟩
instance:FldC Tryz.prog 194 2 2:=⟨Fld.mk' Tryz.underlying194 (by kernel_rfl)⟩
instance:FldC Tryz.prog 194 3 3:=⟨Fld.mk' Tryz.underlying194 (by kernel_rfl)⟩
instance:PlsC Tryz.prog 194 [(0,1),(1,1),(2,1),(3,1)]:=⟨by kernel_rfl⟩
instance:AggC Tryz.prog 199 true:=⟨_,Tryz.underlying199,rfl⟩
instance:Siz Tryz.prog 199 2:=⟨by kernel_rfl⟩
instance:Zro Tryz.prog 199 (.agg #[(.int .i64 0),(.int .i64 0)]):=⟨by kernel_rfl⟩
instance:FldC Tryz.prog 199 0 0:=⟨Fld.mk' Tryz.underlying199 (by kernel_rfl)⟩
instance:FldC Tryz.prog 199 1 1:=⟨Fld.mk' Tryz.underlying199 (by kernel_rfl)⟩
instance:PlsC Tryz.prog 199 [(0,1),(1,1)]:=⟨by kernel_rfl⟩
instance:AggC Tryz.prog 200 true:=⟨_,Tryz.underlying200,rfl⟩
instance:Siz Tryz.prog 200 2:=⟨by kernel_rfl⟩
instance:Zro Tryz.prog 200 (.agg #[(.int .i64 0),(.int .i64 0)]):=⟨by kernel_rfl⟩
instance:FldC Tryz.prog 200 0 0:=⟨Fld.mk' Tryz.underlying200 (by kernel_rfl)⟩
instance:FldC Tryz.prog 200 1 1:=⟨Fld.mk' Tryz.underlying200 (by kernel_rfl)⟩
instance:PlsC Tryz.prog 200 [(0,1),(1,1)]:=⟨by kernel_rfl⟩
instance:Und Tryz.prog 207 (.pointer 166):=⟨Tryz.underlying207⟩
instance:AggC Tryz.prog 207 false:=⟨_,Tryz.underlying207,rfl⟩
instance:Siz Tryz.prog 207 1:=⟨by kernel_rfl⟩
instance:Zro Tryz.prog 207 (.pointer none):=⟨by kernel_rfl⟩
instance:AggC Tryz.prog 209 true:=⟨_,Tryz.underlying209,rfl⟩
instance:Siz Tryz.prog 209 1:=⟨by kernel_rfl⟩
instance:Zro Tryz.prog 209 (.agg #[(.pointer none)]):=⟨by kernel_rfl⟩
instance:FldC Tryz.prog 209 0 0:=⟨Fld.mk' Tryz.underlying209 (by kernel_rfl)⟩
instance:PlsC Tryz.prog 209 [(0,1)]:=⟨by kernel_rfl⟩
instance:AggC Tryz.prog 213 true:=⟨_,Tryz.underlying213,rfl⟩
instance:Siz Tryz.prog 213 1:=⟨by kernel_rfl⟩
instance:Zro Tryz.prog 213 (.agg #[(.pointer none)]):=⟨by kernel_rfl⟩
instance:FldC Tryz.prog 213 0 0:=⟨Fld.mk' Tryz.underlying213 (by kernel_rfl)⟩
instance:PlsC Tryz.prog 213 [(0,1)]:=⟨by kernel_rfl⟩
instance:AggC Tryz.prog 215 true:=⟨_,Tryz.underlying215,rfl⟩
instance:Siz Tryz.prog 215 1:=⟨by kernel_rfl⟩
instance:Zro Tryz.prog 215 (.agg #[(.pointer none)]):=⟨by kernel_rfl⟩
instance:FldC Tryz.prog 215 0 0:=⟨Fld.mk' Tryz.underlying215 (by kernel_rfl)⟩
instance:PlsC Tryz.prog 215 [(0,1)]:=⟨by kernel_rfl⟩
instance:Und Tryz.prog 217 (.pointer 5):=⟨Tryz.underlying217⟩
instance:AggC Tryz.prog 217 false:=⟨_,Tryz.underlying217,rfl⟩
instance:Siz Tryz.prog 217 1:=⟨by kernel_rfl⟩
instance:Zro Tryz.prog 217 (.pointer none):=⟨by kernel_rfl⟩
instance:Und Tryz.prog 220 (.int .u64):=⟨Tryz.underlying220⟩
instance:AggC Tryz.prog 220 false:=⟨_,Tryz.underlying220,rfl⟩
instance:Siz Tryz.prog 220 1:=⟨by kernel_rfl⟩
instance:Zro Tryz.prog 220 (.int .u64 0):=⟨by kernel_rfl⟩
instance:Und Tryz.prog 235 (.array 16 147):=⟨Tryz.underlying235⟩
instance:AggC Tryz.prog 235 true:=⟨_,Tryz.underlying235,rfl⟩
instance:Siz Tryz.prog 235 16:=⟨by kernel_rfl⟩
instance:Zro Tryz.prog 235 (.agg #[(.slice none 0 0),(.slice none 0 0),(.slice none 0 0),(.slice none 0 0),(.slice none 0 0),(.slice none 0 0),(.slice none 0 0),(.slice none 0 0),(.slice none 0 0),(.slice none 0 0),(.slice none 0 0),(.slice none 0 0),(.slice none 0 0),(.slice none 0 0),(.slice none 0 0),(.slice none 0 0)]):=⟨by kernel_rfl⟩
instance:Und Tryz.prog 236 (.array 16 147):=⟨Tryz.underlying236⟩
instance:AggC Tryz.prog 236 true:=⟨_,Tryz.underlying236,rfl⟩
instance:Siz Tryz.prog 236 16:=⟨by kernel_rfl⟩
instance:Zro Tryz.prog 236 (.agg #[(.slice none 0 0),(.slice none 0 0),(.slice none 0 0),(.slice none 0 0),(.slice none 0 0),(.slice none 0 0),(.slice none 0 0),(.slice none 0 0),(.slice none 0 0),(.slice none 0 0),(.slice none 0 0),(.slice none 0 0),(.slice none 0 0),(.slice none 0 0),(.slice none 0 0),(.slice none 0 0)]):=⟨by kernel_rfl⟩
instance:Und Tryz.prog 245 (.int .i64):=⟨Tryz.underlying245⟩
instance:AggC Tryz.prog 245 false:=⟨_,Tryz.underlying245,rfl⟩
instance:Siz Tryz.prog 245 1:=⟨by kernel_rfl⟩
instance:Zro Tryz.prog 245 (.int .i64 0):=⟨by kernel_rfl⟩
instance:Und Tryz.prog 254 (.int .u64):=⟨Tryz.underlying254⟩
instance:AggC Tryz.prog 254 false:=⟨_,Tryz.underlying254,rfl⟩
instance:Siz Tryz.prog 254 1:=⟨by kernel_rfl⟩
instance:Zro Tryz.prog 254 (.int .u64 0):=⟨by kernel_rfl⟩
instance:Und Tryz.prog 258 (.pointer 3):=⟨Tryz.underlying258⟩
instance:AggC Tryz.prog 258 false:=⟨_,Tryz.underlying258,rfl⟩
instance:Siz Tryz.prog 258 1:=⟨by kernel_rfl⟩
instance:Zro Tryz.prog 258 (.pointer none):=⟨by kernel_rfl⟩
instance:Und Tryz.prog 260 (.pointer 254):=⟨Tryz.underlying260⟩
instance:AggC Tryz.prog 260 false:=⟨_,Tryz.underlying260,rfl⟩
instance:Siz Tryz.prog 260 1:=⟨by kernel_rfl⟩
instance:Zro Tryz.prog 260 (.pointer none):=⟨by kernel_rfl⟩
instance:AggC Tryz.prog 263 true:=⟨_,Tryz.underlying263,rfl⟩
instance:Siz Tryz.prog 263 4:=⟨by kernel_rfl⟩
instance:Zro Tryz.prog 263 (.agg #[(.pointer none),(.pointer none),(.pointer none),(.string ⟨#[]⟩)]):=⟨by kernel_rfl⟩
instance:Und Tryz.prog 265 (.array 0 16):=⟨Tryz.underlying265⟩
instance:AggC Tryz.prog 265 true:=⟨_,Tryz.underlying265,rfl⟩
instance:Siz Tryz.prog 265 0:=⟨by kernel_rfl⟩
instance:Zro Tryz.prog 265 (.agg #[]):=⟨by kernel_rfl⟩
instance:AggC Tryz.prog 266 true:=⟨_,Tryz.underlying266,rfl⟩
instance:Siz Tryz.prog 266 0:=⟨by kernel_rfl⟩
instance:Zro Tryz.prog 266 (.agg #[]):=⟨by kernel_rfl⟩
instance:AggC Tryz.prog 273 true:=⟨_,Tryz.underlying273,rfl⟩
instance:Siz Tryz.prog 273 11:=⟨by kernel_rfl⟩
instance:Zro Tryz.prog 273 (.agg #[(.int .u64 0),(.int .u64 0),(.int .u32 0),(.int .u8 0),(.int .u8 0),(.int .u8 0),(.int .u8 0),.nilFunc,(.pointer none),(.int .i32 0),(.int .i32 0)]):=⟨by kernel_rfl⟩
instance:FldC Tryz.prog 273 0 0:=⟨Fld.mk' Tryz.underlying273 (by kernel_rfl)⟩
instance:FldC Tryz.prog 273 1 1:=⟨Fld.mk' Tryz.underlying273 (by kernel_rfl)⟩
instance:FldC Tryz.prog 273 2 2:=⟨Fld.mk' Tryz.underlying273 (by kernel_rfl)⟩
instance:FldC Tryz.prog 273 3 3:=⟨Fld.mk' Tryz.underlying273 (by kernel_rfl)⟩
instance:FldC Tryz.prog 273 4 4:=⟨Fld.mk' Tryz.underlying273 (by kernel_rfl)⟩
instance:FldC Tryz.prog 273 5 5:=⟨Fld.mk' Tryz.underlying273 (by kernel_rfl)⟩
instance:FldC Tryz.prog 273 6 6:=⟨Fld.mk' Tryz.underlying273 (by kernel_rfl)⟩
instance:FldC Tryz.prog 273 7 7:=⟨Fld.mk' Tryz.underlying273 (by kernel_rfl)⟩
instance:FldC Tryz.prog 273 8 8:=⟨Fld.mk' Tryz.underlying273 (by kernel_rfl)⟩
instance:FldC Tryz.prog 273 9 9:=⟨Fld.mk' Tryz.underlying273 (by kernel_rfl)⟩
instance:FldC Tryz.prog 273 10 10:=⟨Fld.mk' Tryz.underlying273 (by kernel_rfl)⟩
instance:PlsC Tryz.prog 273 [(0,1),(1,1),(2,1),(3,1),(4,1),(5,1),(6,1),(7,1),(8,1),(9,1),(10,1)]:=⟨by kernel_rfl⟩
theorem mixed0:Tryz.prog.follows .mixedOrders = true:=by kernel_rfl
end Go.Proofs.YthlffkjpklpkfaaGreat
