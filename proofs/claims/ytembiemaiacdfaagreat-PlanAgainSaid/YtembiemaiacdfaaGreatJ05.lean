/- Texts joined: Sq AbsG Tab. -/
import Derived.Test.YtembiemaiacdfaaGreatJ04
import Derived.Test.YtembiemaiacdfaaGreatProg
import Derived.Test.YtembiemaiacdfaaGreatJ03
set_option maxRecDepth 10000
set_option maxHeartbeats 8000000
namespace Go.Proofs.YtembiemaiacdfaaGreat
open Go.RowKit
section
variable {P:Program} {f:FuncId} {fn:Func} {body:Code} {As:List Cnt} {n:Nat} {S:St} {e:Exit} {rv rv':ResultVar} {r r':Ret} {pre post:List (Nat × Blk)} {c:Cnt}
theorem fi (hf:P.funcs[f]? = some fn) (hn:fn.ntmps = n) (h:AW P n body (fun e S=>(e = .ret ∨ e = .normal) ∧ ResOk P n fn S r) (initS As))
   (hb : fn.body = some body := by rfl) (hm : (fn.name == "runtime.NumGoroutine") = false := by kernel_rfl) (hl : As.length ≤ n := by exact Nat.le_of_ble_eq_true rfl) (h1 : Nat.ble n 1000 = true := by rfl) : Fn P f As r :=
 fn_intro hf hb hm hn hl h h1
theorem fmi (hf:P.funcs[f]? = some fn) (hn:fn.ntmps = n) (h:AW P n body (fun e S=>(e = .ret ∨ e = .normal) ∧ ResM P n fn S c post) (initM As pre))
   (hb : fn.body = some body := by rfl) (hm : (fn.name == "runtime.NumGoroutine") = false := by kernel_rfl) (hl : As.length ≤ n := by exact Nat.le_of_ble_eq_true rfl) (h1 : Nat.ble n 1000 = true := by rfl) : FnM P f As pre c post :=
 fnm_intro hf hb hm hn hl h h1
theorem rt1 (h:ResVarOk P n S rv r) (hf:fn.results = #[rv]:=by rfl) (he:e = .ret ∨ e = .normal:=by first|exact .inl rfl|exact .inr rfl):(e = .ret ∨ e = .normal) ∧ ResOk P n fn S r:=⟨he,res1 hf h⟩
theorem rt2 (h:ResVarOk P n S rv r) (h':ResVarOk P n S rv' r') (hf:fn.results = #[rv,rv']:=by rfl) (he:e = .ret ∨ e = .normal:=by first|exact .inl rfl|exact .inr rfl):(e = .ret ∨ e = .normal) ∧ ResOk P n fn S (.tup2 r r'):=⟨he,res2 hf h h'⟩
end
end Go.Proofs.YtembiemaiacdfaaGreat
namespace Go.Proofs.YtembiemaiacdfaaGreat
open Go.RowKit
variable {P:Program} {n:Nat} {ops:Array Oper} {o:Oper} {F:List Nat} {S T:St} {t:Nat}
theorem op_gyes {j tg:Nat} {want b:Bool} {c:Cnt} {bk:Upd} (hg:o.guard = some (j,want)) (hj:(ops[j]?).bind (·.dst) = some tg) (htg:Nat.blt tg n = true)
   (hb:S.get tg = bC b) (hw:b = want) (h:OpOk n P ops { o with guard:=none } F c bk S):OpOk n P ops o (2 * tg :: F) c bk S:=by
 refine ⟨?_⟩
 intro C T hA a w ⟨g,hR⟩
 have hv:a.tmps.getD tg undef = .bool b:=by
   have:=hR.slots tg
   rw [hA.1 tg (by simp),hb] at this;exact this
 have hy:=yielded_of (ops:=ops) hj hv (by rw [hR.tsz];exact Nat.le_of_ble_eq_true htg)
 unfold Exec
 rw [if_pos (by simp [Region.wanted,hg,hy,hw,boolOf])]
 have hA':Agree F T S:=⟨fun t h=>hA.1 t (by simp [h]),fun id h=>hA.2 id (by simp [h])⟩
 have:=h.run C T hA' a w ⟨g,hR⟩
 unfold Exec at this
 rw [if_pos (by simp [Region.wanted])] at this
 exact this
/-- a guard that was not looked at yields nothing -/
theorem op_gno {j tg:Nat} {want b:Bool} (hg:o.guard = some (j,want)) (hd:o.dst = some t) (ht:Nat.blt t n = true) (hj:(ops[j]?).bind (·.dst) = some tg) (htg:Nat.blt tg n = true)
   (hb:S.get tg = bC b) (hw:b = !want):OpOk n P ops o [2 * tg] (.per (rawP undef)) [] S:=by
 refine ⟨?_⟩
 intro C T hA a w ⟨g,hR⟩
 have hv:a.tmps.getD tg undef = .bool b:=by
   have:=hR.slots tg
   rw [hA.1 tg (by simp),hb] at this;exact this
 have hy:=yielded_of (ops:=ops) hj hv (by rw [hR.tsz];exact Nat.le_of_ble_eq_true htg)
 have hdk:dOk n o.dst:=fun t' e=>by rw [hd] at e;cases e;exact Nat.le_of_ble_eq_true ht
 unfold Exec
 rw [if_neg (by simp [Region.wanted,hg,hy,hw,boolOf])]
 exact ⟨g,hR.app0 (Ext.refl w) hdk rfl⟩
/-- .. nor does what waits for nothing -/
theorem op_gnone {j tg:Nat} {want:Bool} (hg:o.guard = some (j,want)) (hd:o.dst = some t) (ht:Nat.blt t n = true) (hj:(ops[j]?).bind (·.dst) = some tg) (htg:Nat.blt tg n = true)
   (hb:S.get tg = .per (rawP undef)):OpOk n P ops o [2 * tg] (.per (rawP undef)) [] S:=by
 refine ⟨?_⟩
 intro C T hA a w ⟨g,hR⟩
 have hv:a.tmps.getD tg undef = undef:=by
   have:=hR.slots tg
   rw [hA.1 tg (by simp),hb] at this;exact this
 have hy:=yielded_of (ops:=ops) hj hv (by rw [hR.tsz];exact Nat.le_of_ble_eq_true htg)
 have hdk:dOk n o.dst:=fun t' e=>by rw [hd] at e;cases e;exact Nat.le_of_ble_eq_true ht
 unfold Exec
 rw [if_neg (by simp [Region.wanted,hg,hy,undef,boolOf])]
 exact ⟨g,hR.app0 (Ext.refl w) hdk rfl⟩
theorem op_pick_t {c x y:Operand} {b p:Bool} (hp:Pl n o t) (ho:o.op = .pick c x y) (hc:S.opd c = bC b) (hb:b = true) (hx:S.opd x = bC p):OpOk n P ops o (opdN c ++ opdN x ++ opdN y) (bC p) [] S:=by
 subst hb
 exact op_pick (p:=p) (q:=p) hp ho hc (fun _=>hx) (fun h=>by cases h)
theorem op_pick_f {c x y:Operand} {b p:Bool} (hp:Pl n o t) (ho:o.op = .pick c x y) (hc:S.opd c = bC b) (hb:b = false) (hy:S.opd y = bC p):OpOk n P ops o (opdN c ++ opdN x ++ opdN y) (bC p) [] S:=by
 subst hb
 exact op_pick (p:=p) (q:=p) hp ho hc (fun h=>by cases h) (fun _=>hy)
/-! ### the greater and the less of two numbers -/
theorem op_max {ty ty':TypeId} {x y:Operand} {k:IntKind} {u v:Int} (hp:Pl n o t) (ho:o.op = .call { callee:=.builtin .max,args:=#[x,y],argTypes:=#[ty,ty'] }) (hx:S.opd x = iC k u) (hy:S.opd y = iC k v) :
   OpOk n P ops o (opdN x ++ opdN y) (iC k (if v > u then v else u)) [] S:=
 op_val hp fun C T g a w hA hR=>by
   have h1:=raw_opd (x:=x) hA (fun k h=>by simp [h]) hR hx
   have h2:=raw_opd (x:=y) hA (fun k h=>by simp [h]) hR hy
   refine ⟨.int k (if v > u then v else u),?_,rfl⟩
   simp only [execOp,ho,resolve,invoke,builtin,Sem.run_bind,Sem.run_pure,Result.andThen_ok,List.map_toArray,List.map_cons,List.map_nil,h1,h2,run_max_int2]
theorem op_min {ty ty':TypeId} {x y:Operand} {k:IntKind} {u v:Int} (hp:Pl n o t) (ho:o.op = .call { callee:=.builtin .min,args:=#[x,y],argTypes:=#[ty,ty'] }) (hx:S.opd x = iC k u) (hy:S.opd y = iC k v) :
   OpOk n P ops o (opdN x ++ opdN y) (iC k (if v < u then v else u)) [] S:=
 op_val hp fun C T g a w hA hR=>by
   have h1:=raw_opd (x:=x) hA (fun k h=>by simp [h]) hR hx
   have h2:=raw_opd (x:=y) hA (fun k h=>by simp [h]) hR hy
   refine ⟨.int k (if v < u then v else u),?_,rfl⟩
   simp only [execOp,ho,resolve,invoke,builtin,Sem.run_bind,Sem.run_pure,Result.andThen_ok,List.map_toArray,List.map_cons,List.map_nil,h1,h2,run_min_int2]
end Go.Proofs.YtembiemaiacdfaaGreat
namespace Go.Proofs.YtembiemaiacdfaaGreat
open Go.RowKit
instance:Und Tryz.prog 2 (.int .i64):=⟨Tryz.underlying2⟩
instance:AggC Tryz.prog 2 false:=⟨_,Tryz.underlying2,rfl⟩
instance:Siz Tryz.prog 2 1:=⟨by kernel_rfl⟩
instance:Zro Tryz.prog 2 (.int .i64 0):=⟨by kernel_rfl⟩
instance:Und Tryz.prog 3 (.int .i64):=⟨Tryz.underlying3⟩
instance:AggC Tryz.prog 3 false:=⟨_,Tryz.underlying3,rfl⟩
instance:Siz Tryz.prog 3 1:=⟨by kernel_rfl⟩
instance:Zro Tryz.prog 3 (.int .i64 0):=⟨by kernel_rfl⟩
instance:Und Tryz.prog 4 .bool:=⟨Tryz.underlying4⟩
instance:AggC Tryz.prog 4 false:=⟨_,Tryz.underlying4,rfl⟩
instance:Siz Tryz.prog 4 1:=⟨by kernel_rfl⟩
instance:Zro Tryz.prog 4 (.bool false):=⟨by kernel_rfl⟩
instance:Und Tryz.prog 5 (.int .u8):=⟨Tryz.underlying5⟩
instance:AggC Tryz.prog 5 false:=⟨_,Tryz.underlying5,rfl⟩
instance:Siz Tryz.prog 5 1:=⟨by kernel_rfl⟩
instance:Zro Tryz.prog 5 (.int .u8 0):=⟨by kernel_rfl⟩
instance:AggC Tryz.prog 7 true:=⟨_,Tryz.underlying7,rfl⟩
instance:Siz Tryz.prog 7 4:=⟨by kernel_rfl⟩
instance:Zro Tryz.prog 7 (.agg #[(.int .i64 0),(.int .i64 0),(.bool false),(.int .u8 0)]):=⟨by kernel_rfl⟩
instance:Und Tryz.prog 9 .string:=⟨Tryz.underlying9⟩
instance:AggC Tryz.prog 9 false:=⟨_,Tryz.underlying9,rfl⟩
instance:Siz Tryz.prog 9 1:=⟨by kernel_rfl⟩
instance:Zro Tryz.prog 9 (.string ⟨#[]⟩):=⟨by kernel_rfl⟩
instance:Und Tryz.prog 12 (.int .u64):=⟨Tryz.underlying12⟩
instance:AggC Tryz.prog 12 false:=⟨_,Tryz.underlying12,rfl⟩
instance:Siz Tryz.prog 12 1:=⟨by kernel_rfl⟩
instance:Zro Tryz.prog 12 (.int .u64 0):=⟨by kernel_rfl⟩
instance:AggC Tryz.prog 13 true:=⟨_,Tryz.underlying13,rfl⟩
instance:Siz Tryz.prog 13 2:=⟨by kernel_rfl⟩
instance:Zro Tryz.prog 13 (.agg #[(.string ⟨#[]⟩),(.int .u64 0)]):=⟨by kernel_rfl⟩
instance:Und Tryz.prog 15 (.pointer 311):=⟨Tryz.underlying15⟩
instance:AggC Tryz.prog 15 false:=⟨_,Tryz.underlying15,rfl⟩
instance:Siz Tryz.prog 15 1:=⟨by kernel_rfl⟩
instance:Zro Tryz.prog 15 (.pointer none):=⟨by kernel_rfl⟩
instance:Und Tryz.prog 16 (.pointer 314):=⟨Tryz.underlying16⟩
instance:AggC Tryz.prog 16 false:=⟨_,Tryz.underlying16,rfl⟩
instance:Siz Tryz.prog 16 1:=⟨by kernel_rfl⟩
instance:Zro Tryz.prog 16 (.pointer none):=⟨by kernel_rfl⟩
instance:Und Tryz.prog 17 (.pointer 322):=⟨Tryz.underlying17⟩
instance:AggC Tryz.prog 17 false:=⟨_,Tryz.underlying17,rfl⟩
instance:Siz Tryz.prog 17 1:=⟨by kernel_rfl⟩
instance:Zro Tryz.prog 17 (.pointer none):=⟨by kernel_rfl⟩
instance:AggC Tryz.prog 18 true:=⟨_,Tryz.underlying18,rfl⟩
instance:Siz Tryz.prog 18 1:=⟨by kernel_rfl⟩
instance:Zro Tryz.prog 18 (.agg #[(.pointer none)]):=⟨by kernel_rfl⟩
instance:Und Tryz.prog 21 (.int .i32):=⟨Tryz.underlying21⟩
instance:AggC Tryz.prog 21 false:=⟨_,Tryz.underlying21,rfl⟩
instance:Siz Tryz.prog 21 1:=⟨by kernel_rfl⟩
instance:Zro Tryz.prog 21 (.int .i32 0):=⟨by kernel_rfl⟩
instance:Und Tryz.prog 22 (.slice 82):=⟨Tryz.underlying22⟩
instance:AggC Tryz.prog 22 false:=⟨_,Tryz.underlying22,rfl⟩
instance:Siz Tryz.prog 22 1:=⟨by kernel_rfl⟩
instance:Zro Tryz.prog 22 (.slice none 0 0):=⟨by kernel_rfl⟩
instance:TIc Tryz.prog 22 82 3 40:=⟨TI.mk' Tryz.underlying22 (by kernel_rfl)⟩
instance:Und Tryz.prog 23 (.slice 61):=⟨Tryz.underlying23⟩
instance:AggC Tryz.prog 23 false:=⟨_,Tryz.underlying23,rfl⟩
instance:Siz Tryz.prog 23 1:=⟨by kernel_rfl⟩
instance:Zro Tryz.prog 23 (.slice none 0 0):=⟨by kernel_rfl⟩
instance:TIc Tryz.prog 23 61 7 72:=⟨TI.mk' Tryz.underlying23 (by kernel_rfl)⟩
instance:Und Tryz.prog 24 (.slice 110):=⟨Tryz.underlying24⟩
instance:AggC Tryz.prog 24 false:=⟨_,Tryz.underlying24,rfl⟩
instance:Siz Tryz.prog 24 1:=⟨by kernel_rfl⟩
instance:Zro Tryz.prog 24 (.slice none 0 0):=⟨by kernel_rfl⟩
instance:TIc Tryz.prog 24 110 4 64:=⟨TI.mk' Tryz.underlying24 (by kernel_rfl)⟩
instance:AggC Tryz.prog 25 true:=⟨_,Tryz.underlying25,rfl⟩
instance:Siz Tryz.prog 25 5:=⟨by kernel_rfl⟩
instance:Zro Tryz.prog 25 (.agg #[(.int .i64 0),(.slice none 0 0),(.slice none 0 0),(.slice none 0 0),(.int .i64 0)]):=⟨by kernel_rfl⟩
instance:FldC Tryz.prog 25 0 0:=⟨Fld.mk' Tryz.underlying25 (by kernel_rfl)⟩
instance:FldC Tryz.prog 25 1 1:=⟨Fld.mk' Tryz.underlying25 (by kernel_rfl)⟩
instance:FldC Tryz.prog 25 2 2:=⟨Fld.mk' Tryz.underlying25 (by kernel_rfl)⟩
instance:FldC Tryz.prog 25 3 3:=⟨Fld.mk' Tryz.underlying25 (by kernel_rfl)⟩
instance:FldC Tryz.prog 25 4 4:=⟨Fld.mk' Tryz.underlying25 (by kernel_rfl)⟩
instance:PlsC Tryz.prog 25 [(0,1),(1,1),(2,1),(3,1),(4,1)]:=⟨by kernel_rfl⟩
instance:AggC Tryz.prog 26 true:=⟨_,Tryz.underlying26,rfl⟩
instance:Siz Tryz.prog 26 5:=⟨by kernel_rfl⟩
instance:Zro Tryz.prog 26 (.agg #[(.int .i64 0),(.slice none 0 0),(.slice none 0 0),(.slice none 0 0),(.int .i64 0)]):=⟨by kernel_rfl⟩
instance:FldC Tryz.prog 26 0 0:=⟨Fld.mk' Tryz.underlying26 (by kernel_rfl)⟩
instance:FldC Tryz.prog 26 1 1:=⟨Fld.mk' Tryz.underlying26 (by kernel_rfl)⟩
instance:FldC Tryz.prog 26 2 2:=⟨Fld.mk' Tryz.underlying26 (by kernel_rfl)⟩
instance:FldC Tryz.prog 26 3 3:=⟨Fld.mk' Tryz.underlying26 (by kernel_rfl)⟩
instance:FldC Tryz.prog 26 4 4:=⟨Fld.mk' Tryz.underlying26 (by kernel_rfl)⟩
instance:PlsC Tryz.prog 26 [(0,1),(1,1),(2,1),(3,1),(4,1)]:=⟨by kernel_rfl⟩
instance:Und Tryz.prog 31 (.slice 23):=⟨Tryz.underlying31⟩
instance:AggC Tryz.prog 31 false:=⟨_,Tryz.underlying31,rfl⟩
instance:Siz Tryz.prog 31 1:=⟨by kernel_rfl⟩
instance:Zro Tryz.prog 31 (.slice none 0 0):=⟨by kernel_rfl⟩
instance:TIc Tryz.prog 31 23 1 24:=⟨TI.mk' Tryz.underlying31 (by kernel_rfl)⟩
instance:AggC Tryz.prog 32 true:=⟨_,Tryz.underlying32,rfl⟩
instance:Siz Tryz.prog 32 2:=⟨by kernel_rfl⟩
instance:Zro Tryz.prog 32 (.agg #[(.slice none 0 0),(.slice none 0 0)]):=⟨by kernel_rfl⟩
instance:FldC Tryz.prog 32 0 0:=⟨Fld.mk' Tryz.underlying32 (by kernel_rfl)⟩
instance:FldC Tryz.prog 32 1 1:=⟨Fld.mk' Tryz.underlying32 (by kernel_rfl)⟩
instance:PlsC Tryz.prog 32 [(0,1),(1,1)]:=⟨by kernel_rfl⟩
instance:AggC Tryz.prog 33 true:=⟨_,Tryz.underlying33,rfl⟩
instance:Siz Tryz.prog 33 2:=⟨by kernel_rfl⟩
instance:Zro Tryz.prog 33 (.agg #[(.slice none 0 0),(.slice none 0 0)]):=⟨by kernel_rfl⟩
instance:FldC Tryz.prog 33 0 0:=⟨Fld.mk' Tryz.underlying33 (by kernel_rfl)⟩
instance:FldC Tryz.prog 33 1 1:=⟨Fld.mk' Tryz.underlying33 (by kernel_rfl)⟩
instance:PlsC Tryz.prog 33 [(0,1),(1,1)]:=⟨by kernel_rfl⟩
instance:Und Tryz.prog 34 (.int .i64):=⟨Tryz.underlying34⟩
instance:AggC Tryz.prog 34 false:=⟨_,Tryz.underlying34,rfl⟩
instance:Siz Tryz.prog 34 1:=⟨by kernel_rfl⟩
instance:Zro Tryz.prog 34 (.int .i64 0):=⟨by kernel_rfl⟩
instance:Und Tryz.prog 37 (.pointer 153):=⟨Tryz.underlying37⟩
instance:AggC Tryz.prog 37 false:=⟨_,Tryz.underlying37,rfl⟩
instance:Siz Tryz.prog 37 1:=⟨by kernel_rfl⟩
instance:Zro Tryz.prog 37 (.pointer none):=⟨by kernel_rfl⟩
instance:AggC Tryz.prog 38 true:=⟨_,Tryz.underlying38,rfl⟩
instance:Siz Tryz.prog 38 5:=⟨by kernel_rfl⟩
instance:Zro Tryz.prog 38 (.agg #[(.slice none 0 0),(.slice none 0 0),(.int .i64 0),(.slice none 0 0),(.pointer none)]):=⟨by kernel_rfl⟩
instance:FldC Tryz.prog 38 0 0:=⟨Fld.mk' Tryz.underlying38 (by kernel_rfl)⟩
instance:FldC Tryz.prog 38 1 1:=⟨Fld.mk' Tryz.underlying38 (by kernel_rfl)⟩
instance:FldC Tryz.prog 38 2 2:=⟨Fld.mk' Tryz.underlying38 (by kernel_rfl)⟩
instance:FldC Tryz.prog 38 3 3:=⟨Fld.mk' Tryz.underlying38 (by kernel_rfl)⟩
instance:FldC Tryz.prog 38 4 4:=⟨Fld.mk' Tryz.underlying38 (by kernel_rfl)⟩
instance:PlsC Tryz.prog 38 [(0,1),(1,1),(2,1),(3,1),(4,1)]:=⟨by kernel_rfl⟩
instance:AggC Tryz.prog 39 true:=⟨_,Tryz.underlying39,rfl⟩
instance:Siz Tryz.prog 39 5:=⟨by kernel_rfl⟩
instance:Zro Tryz.prog 39 (.agg #[(.slice none 0 0),(.slice none 0 0),(.int .i64 0),(.slice none 0 0),(.pointer none)]):=⟨by kernel_rfl⟩
instance:FldC Tryz.prog 39 0 0:=⟨Fld.mk' Tryz.underlying39 (by kernel_rfl)⟩
instance:FldC Tryz.prog 39 1 1:=⟨Fld.mk' Tryz.underlying39 (by kernel_rfl)⟩
instance:FldC Tryz.prog 39 2 2:=⟨Fld.mk' Tryz.underlying39 (by kernel_rfl)⟩
instance:FldC Tryz.prog 39 3 3:=⟨Fld.mk' Tryz.underlying39 (by kernel_rfl)⟩
instance:FldC Tryz.prog 39 4 4:=⟨Fld.mk' Tryz.underlying39 (by kernel_rfl)⟩
instance:PlsC Tryz.prog 39 [(0,1),(1,1),(2,1),(3,1),(4,1)]:=⟨by kernel_rfl⟩
instance:Und Tryz.prog 43 (.slice 5):=⟨Tryz.underlying43⟩
instance:AggC Tryz.prog 43 false:=⟨_,Tryz.underlying43,rfl⟩
instance:Siz Tryz.prog 43 1:=⟨by kernel_rfl⟩
instance:Zro Tryz.prog 43 (.slice none 0 0):=⟨by kernel_rfl⟩
instance:TIc Tryz.prog 43 5 1 1:=⟨TI.mk' Tryz.underlying43 (by kernel_rfl)⟩
instance:AggC Tryz.prog 44 true:=⟨_,Tryz.underlying44,rfl⟩
instance:Siz Tryz.prog 44 5:=⟨by kernel_rfl⟩
instance:Zro Tryz.prog 44 (.agg #[(.slice none 0 0),(.slice none 0 0),(.int .i64 0),(.slice none 0 0),(.slice none 0 0)]):=⟨by kernel_rfl⟩
instance:FldC Tryz.prog 44 0 0:=⟨Fld.mk' Tryz.underlying44 (by kernel_rfl)⟩
instance:FldC Tryz.prog 44 1 1:=⟨Fld.mk' Tryz.underlying44 (by kernel_rfl)⟩
instance:FldC Tryz.prog 44 2 2:=⟨Fld.mk' Tryz.underlying44 (by kernel_rfl)⟩
instance:FldC Tryz.prog 44 3 3:=⟨Fld.mk' Tryz.underlying44 (by kernel_rfl)⟩
instance:FldC Tryz.prog 44 4 4:=⟨Fld.mk' Tryz.underlying44 (by kernel_rfl)⟩
instance:PlsC Tryz.prog 44 [(0,1),(1,1),(2,1),(3,1),(4,1)]:=⟨by kernel_rfl⟩
instance:AggC Tryz.prog 45 true:=⟨_,Tryz.underlying45,rfl⟩
instance:Siz Tryz.prog 45 5:=⟨by kernel_rfl⟩
instance:Zro Tryz.prog 45 (.agg #[(.slice none 0 0),(.slice none 0 0),(.int .i64 0),(.slice none 0 0),(.slice none 0 0)]):=⟨by kernel_rfl⟩
instance:FldC Tryz.prog 45 0 0:=⟨Fld.mk' Tryz.underlying45 (by kernel_rfl)⟩
instance:FldC Tryz.prog 45 1 1:=⟨Fld.mk' Tryz.underlying45 (by kernel_rfl)⟩
instance:FldC Tryz.prog 45 2 2:=⟨Fld.mk' Tryz.underlying45 (by kernel_rfl)⟩
instance:FldC Tryz.prog 45 3 3:=⟨Fld.mk' Tryz.underlying45 (by kernel_rfl)⟩
instance:FldC Tryz.prog 45 4 4:=⟨Fld.mk' Tryz.underlying45 (by kernel_rfl)⟩
instance:PlsC Tryz.prog 45 [(0,1),(1,1),(2,1),(3,1),(4,1)]:=⟨by kernel_rfl⟩
instance:Und Tryz.prog 47 (.slice 4):=⟨Tryz.underlying47⟩
instance:AggC Tryz.prog 47 false:=⟨_,Tryz.underlying47,rfl⟩
instance:Siz Tryz.prog 47 1:=⟨by kernel_rfl⟩
instance:Zro Tryz.prog 47 (.slice none 0 0):=⟨by kernel_rfl⟩
instance:TIc Tryz.prog 47 4 1 1:=⟨TI.mk' Tryz.underlying47 (by kernel_rfl)⟩
instance:Und Tryz.prog 48 (.int .u64):=⟨Tryz.underlying48⟩
instance:AggC Tryz.prog 48 false:=⟨_,Tryz.underlying48,rfl⟩
instance:Siz Tryz.prog 48 1:=⟨by kernel_rfl⟩
instance:Zro Tryz.prog 48 (.int .u64 0):=⟨by kernel_rfl⟩
instance:AggC Tryz.prog 49 true:=⟨_,Tryz.underlying49,rfl⟩
instance:Siz Tryz.prog 49 3:=⟨by kernel_rfl⟩
instance:Zro Tryz.prog 49 (.agg #[(.slice none 0 0),(.int .i64 0),(.int .u64 0)]):=⟨by kernel_rfl⟩
instance:FldC Tryz.prog 49 0 0:=⟨Fld.mk' Tryz.underlying49 (by kernel_rfl)⟩
instance:FldC Tryz.prog 49 1 1:=⟨Fld.mk' Tryz.underlying49 (by kernel_rfl)⟩
instance:FldC Tryz.prog 49 2 2:=⟨Fld.mk' Tryz.underlying49 (by kernel_rfl)⟩
instance:PlsC Tryz.prog 49 [(0,1),(1,1),(2,1)]:=⟨by kernel_rfl⟩
instance:AggC Tryz.prog 50 true:=⟨_,Tryz.underlying50,rfl⟩
instance:Siz Tryz.prog 50 3:=⟨by kernel_rfl⟩
instance:Zro Tryz.prog 50 (.agg #[(.slice none 0 0),(.int .i64 0),(.int .u64 0)]):=⟨by kernel_rfl⟩
instance:FldC Tryz.prog 50 0 0:=⟨Fld.mk' Tryz.underlying50 (by kernel_rfl)⟩
instance:FldC Tryz.prog 50 1 1:=⟨Fld.mk' Tryz.underlying50 (by kernel_rfl)⟩
instance:FldC Tryz.prog 50 2 2:=⟨Fld.mk' Tryz.underlying50 (by kernel_rfl)⟩
instance:PlsC Tryz.prog 50 [(0,1),(1,1),(2,1)]:=⟨by kernel_rfl⟩
instance:AggC Tryz.prog 51 true:=⟨_,Tryz.underlying51,rfl⟩
instance:Siz Tryz.prog 51 7:=⟨by kernel_rfl⟩
instance:Zro Tryz.prog 51 (.agg #[(.slice none 0 0),(.slice none 0 0),(.int .i64 0),(.slice none 0 0),(.slice none 0 0),(.int .i64 0),(.int .u64 0)]):=⟨by kernel_rfl⟩
instance:FldC Tryz.prog 51 0 0:=⟨Fld.mk' Tryz.underlying51 (by kernel_rfl)⟩
instance:FldC Tryz.prog 51 1 1:=⟨Fld.mk' Tryz.underlying51 (by kernel_rfl)⟩
instance:FldC Tryz.prog 51 2 2:=⟨Fld.mk' Tryz.underlying51 (by kernel_rfl)⟩
instance:FldC Tryz.prog 51 3 3:=⟨Fld.mk' Tryz.underlying51 (by kernel_rfl)⟩
instance:FldC Tryz.prog 51 4 4:=⟨Fld.mk' Tryz.underlying51 (by kernel_rfl)⟩
instance:PlsC Tryz.prog 51 [(0,1),(1,1),(2,1),(3,1),(4,3)]:=⟨by kernel_rfl⟩
instance:AggC Tryz.prog 52 true:=⟨_,Tryz.underlying52,rfl⟩
instance:Siz Tryz.prog 52 7:=⟨by kernel_rfl⟩
instance:Zro Tryz.prog 52 (.agg #[(.slice none 0 0),(.slice none 0 0),(.int .i64 0),(.slice none 0 0),(.slice none 0 0),(.int .i64 0),(.int .u64 0)]):=⟨by kernel_rfl⟩
instance:FldC Tryz.prog 52 0 0:=⟨Fld.mk' Tryz.underlying52 (by kernel_rfl)⟩
instance:FldC Tryz.prog 52 1 1:=⟨Fld.mk' Tryz.underlying52 (by kernel_rfl)⟩
instance:FldC Tryz.prog 52 2 2:=⟨Fld.mk' Tryz.underlying52 (by kernel_rfl)⟩
instance:FldC Tryz.prog 52 3 3:=⟨Fld.mk' Tryz.underlying52 (by kernel_rfl)⟩
instance:FldC Tryz.prog 52 4 4:=⟨Fld.mk' Tryz.underlying52 (by kernel_rfl)⟩
instance:PlsC Tryz.prog 52 [(0,1),(1,1),(2,1),(3,1),(4,3)]:=⟨by kernel_rfl⟩
instance:AggC Tryz.prog 58 true:=⟨_,Tryz.underlying58,rfl⟩
instance:Siz Tryz.prog 58 2:=⟨by kernel_rfl⟩
instance:Zro Tryz.prog 58 (.agg #[(.int .i64 0),(.int .i64 0)]):=⟨by kernel_rfl⟩
instance:FldC Tryz.prog 58 0 0:=⟨Fld.mk' Tryz.underlying58 (by kernel_rfl)⟩
instance:FldC Tryz.prog 58 1 1:=⟨Fld.mk' Tryz.underlying58 (by kernel_rfl)⟩
instance:PlsC Tryz.prog 58 [(0,1),(1,1)]:=⟨by kernel_rfl⟩
instance:AggC Tryz.prog 59 true:=⟨_,Tryz.underlying59,rfl⟩
instance:Siz Tryz.prog 59 2:=⟨by kernel_rfl⟩
instance:Zro Tryz.prog 59 (.agg #[(.int .i64 0),(.int .i64 0)]):=⟨by kernel_rfl⟩
instance:FldC Tryz.prog 59 0 0:=⟨Fld.mk' Tryz.underlying59 (by kernel_rfl)⟩
instance:FldC Tryz.prog 59 1 1:=⟨Fld.mk' Tryz.underlying59 (by kernel_rfl)⟩
instance:PlsC Tryz.prog 59 [(0,1),(1,1)]:=⟨by kernel_rfl⟩
instance:AggC Tryz.prog 60 true:=⟨_,Tryz.underlying60,rfl⟩
instance:Siz Tryz.prog 60 7:=⟨by kernel_rfl⟩
instance:Zro Tryz.prog 60 (.agg #[(.string ⟨#[]⟩),(.int .i64 0),(.int .i64 0),(.int .i64 0),(.int .i64 0),(.bool false),(.string ⟨#[]⟩)]):=⟨by kernel_rfl⟩
instance:FldC Tryz.prog 60 0 0:=⟨Fld.mk' Tryz.underlying60 (by kernel_rfl)⟩
instance:FldC Tryz.prog 60 1 1:=⟨Fld.mk' Tryz.underlying60 (by kernel_rfl)⟩
instance:FldC Tryz.prog 60 2 3:=⟨Fld.mk' Tryz.underlying60 (by kernel_rfl)⟩
instance:FldC Tryz.prog 60 3 4:=⟨Fld.mk' Tryz.underlying60 (by kernel_rfl)⟩
instance:FldC Tryz.prog 60 4 5:=⟨Fld.mk' Tryz.underlying60 (by kernel_rfl)⟩
instance:FldC Tryz.prog 60 5 6:=⟨Fld.mk' Tryz.underlying60 (by kernel_rfl)⟩
instance:PlsC Tryz.prog 60 [(0,1),(1,2),(3,1),(4,1),(5,1),(6,1)]:=⟨by kernel_rfl⟩
instance:AggC Tryz.prog 61 true:=⟨_,Tryz.underlying61,rfl⟩
instance:Siz Tryz.prog 61 7:=⟨by kernel_rfl⟩
instance:Zro Tryz.prog 61 (.agg #[(.string ⟨#[]⟩),(.int .i64 0),(.int .i64 0),(.int .i64 0),(.int .i64 0),(.bool false),(.string ⟨#[]⟩)]):=⟨by kernel_rfl⟩
instance:FldC Tryz.prog 61 0 0:=⟨Fld.mk' Tryz.underlying61 (by kernel_rfl)⟩
instance:FldC Tryz.prog 61 1 1:=⟨Fld.mk' Tryz.underlying61 (by kernel_rfl)⟩
instance:FldC Tryz.prog 61 2 3:=⟨Fld.mk' Tryz.underlying61 (by kernel_rfl)⟩
instance:FldC Tryz.prog 61 3 4:=⟨Fld.mk' Tryz.underlying61 (by kernel_rfl)⟩
instance:FldC Tryz.prog 61 4 5:=⟨Fld.mk' Tryz.underlying61 (by kernel_rfl)⟩
instance:FldC Tryz.prog 61 5 6:=⟨Fld.mk' Tryz.underlying61 (by kernel_rfl)⟩
instance:PlsC Tryz.prog 61 [(0,1),(1,2),(3,1),(4,1),(5,1),(6,1)]:=⟨by kernel_rfl⟩
instance:AggC Tryz.prog 81 true:=⟨_,Tryz.underlying81,rfl⟩
instance:Siz Tryz.prog 81 3:=⟨by kernel_rfl⟩
instance:Zro Tryz.prog 81 (.agg #[(.string ⟨#[]⟩),(.string ⟨#[]⟩),(.bool false)]):=⟨by kernel_rfl⟩
instance:FldC Tryz.prog 81 0 0:=⟨Fld.mk' Tryz.underlying81 (by kernel_rfl)⟩
instance:FldC Tryz.prog 81 1 1:=⟨Fld.mk' Tryz.underlying81 (by kernel_rfl)⟩
instance:FldC Tryz.prog 81 2 2:=⟨Fld.mk' Tryz.underlying81 (by kernel_rfl)⟩
instance:PlsC Tryz.prog 81 [(0,1),(1,1),(2,1)]:=⟨by kernel_rfl⟩
instance:AggC Tryz.prog 82 true:=⟨_,Tryz.underlying82,rfl⟩
instance:Siz Tryz.prog 82 3:=⟨by kernel_rfl⟩
instance:Zro Tryz.prog 82 (.agg #[(.string ⟨#[]⟩),(.string ⟨#[]⟩),(.bool false)]):=⟨by kernel_rfl⟩
instance:FldC Tryz.prog 82 0 0:=⟨Fld.mk' Tryz.underlying82 (by kernel_rfl)⟩
instance:FldC Tryz.prog 82 1 1:=⟨Fld.mk' Tryz.underlying82 (by kernel_rfl)⟩
instance:FldC Tryz.prog 82 2 2:=⟨Fld.mk' Tryz.underlying82 (by kernel_rfl)⟩
instance:PlsC Tryz.prog 82 [(0,1),(1,1),(2,1)]:=⟨by kernel_rfl⟩
instance:Und Tryz.prog 108 (.slice 130):=⟨Tryz.underlying108⟩
instance:AggC Tryz.prog 108 false:=⟨_,Tryz.underlying108,rfl⟩
instance:Siz Tryz.prog 108 1:=⟨by kernel_rfl⟩
instance:Zro Tryz.prog 108 (.slice none 0 0):=⟨by kernel_rfl⟩
instance:TIc Tryz.prog 108 130 2 32:=⟨TI.mk' Tryz.underlying108 (by kernel_rfl)⟩
instance:AggC Tryz.prog 109 true:=⟨_,Tryz.underlying109,rfl⟩
instance:Siz Tryz.prog 109 4:=⟨by kernel_rfl⟩
instance:Zro Tryz.prog 109 (.agg #[(.string ⟨#[]⟩),(.string ⟨#[]⟩),(.bool false),(.slice none 0 0)]):=⟨by kernel_rfl⟩
instance:FldC Tryz.prog 109 0 0:=⟨Fld.mk' Tryz.underlying109 (by kernel_rfl)⟩
instance:FldC Tryz.prog 109 1 3:=⟨Fld.mk' Tryz.underlying109 (by kernel_rfl)⟩
instance:PlsC Tryz.prog 109 [(0,3),(3,1)]:=⟨by kernel_rfl⟩
instance:AggC Tryz.prog 110 true:=⟨_,Tryz.underlying110,rfl⟩
instance:Siz Tryz.prog 110 4:=⟨by kernel_rfl⟩
instance:Zro Tryz.prog 110 (.agg #[(.string ⟨#[]⟩),(.string ⟨#[]⟩),(.bool false),(.slice none 0 0)]):=⟨by kernel_rfl⟩
instance:FldC Tryz.prog 110 0 0:=⟨Fld.mk' Tryz.underlying110 (by kernel_rfl)⟩
instance:FldC Tryz.prog 110 1 3:=⟨Fld.mk' Tryz.underlying110 (by kernel_rfl)⟩
instance:PlsC Tryz.prog 110 [(0,3),(3,1)]:=⟨by kernel_rfl⟩
instance:Und Tryz.prog 128 (.slice 132):=⟨Tryz.underlying128⟩
instance:AggC Tryz.prog 128 false:=⟨_,Tryz.underlying128,rfl⟩
instance:Siz Tryz.prog 128 1:=⟨by kernel_rfl⟩
instance:Zro Tryz.prog 128 (.slice none 0 0):=⟨by kernel_rfl⟩
instance:TIc Tryz.prog 128 132 2 16:=⟨TI.mk' Tryz.underlying128 (by kernel_rfl)⟩
instance:AggC Tryz.prog 129 true:=⟨_,Tryz.underlying129,rfl⟩
instance:Siz Tryz.prog 129 2:=⟨by kernel_rfl⟩
instance:Zro Tryz.prog 129 (.agg #[(.int .i64 0),(.slice none 0 0)]):=⟨by kernel_rfl⟩
instance:FldC Tryz.prog 129 0 0:=⟨Fld.mk' Tryz.underlying129 (by kernel_rfl)⟩
instance:FldC Tryz.prog 129 1 1:=⟨Fld.mk' Tryz.underlying129 (by kernel_rfl)⟩
instance:PlsC Tryz.prog 129 [(0,1),(1,1)]:=⟨by kernel_rfl⟩
instance:AggC Tryz.prog 130 true:=⟨_,Tryz.underlying130,rfl⟩
instance:Siz Tryz.prog 130 2:=⟨by kernel_rfl⟩
instance:Zro Tryz.prog 130 (.agg #[(.int .i64 0),(.slice none 0 0)]):=⟨by kernel_rfl⟩
instance:FldC Tryz.prog 130 0 0:=⟨Fld.mk' Tryz.underlying130 (by kernel_rfl)⟩
instance:FldC Tryz.prog 130 1 1:=⟨Fld.mk' Tryz.underlying130 (by kernel_rfl)⟩
instance:PlsC Tryz.prog 130 [(0,1),(1,1)]:=⟨by kernel_rfl⟩
instance:AggC Tryz.prog 131 true:=⟨_,Tryz.underlying131,rfl⟩
instance:Siz Tryz.prog 131 2:=⟨by kernel_rfl⟩
instance:Zro Tryz.prog 131 (.agg #[(.int .i64 0),(.int .i64 0)]):=⟨by kernel_rfl⟩
instance:FldC Tryz.prog 131 0 0:=⟨Fld.mk' Tryz.underlying131 (by kernel_rfl)⟩
instance:FldC Tryz.prog 131 1 1:=⟨Fld.mk' Tryz.underlying131 (by kernel_rfl)⟩
instance:PlsC Tryz.prog 131 [(0,1),(1,1)]:=⟨by kernel_rfl⟩
instance:AggC Tryz.prog 132 true:=⟨_,Tryz.underlying132,rfl⟩
instance:Siz Tryz.prog 132 2:=⟨by kernel_rfl⟩
instance:Zro Tryz.prog 132 (.agg #[(.int .i64 0),(.int .i64 0)]):=⟨by kernel_rfl⟩
instance:FldC Tryz.prog 132 0 0:=⟨Fld.mk' Tryz.underlying132 (by kernel_rfl)⟩
instance:FldC Tryz.prog 132 1 1:=⟨Fld.mk' Tryz.underlying132 (by kernel_rfl)⟩
instance:PlsC Tryz.prog 132 [(0,1),(1,1)]:=⟨by kernel_rfl⟩
instance:Und Tryz.prog 139 (.slice 9):=⟨Tryz.underlying139⟩
instance:AggC Tryz.prog 139 false:=⟨_,Tryz.underlying139,rfl⟩
instance:Siz Tryz.prog 139 1:=⟨by kernel_rfl⟩
instance:Zro Tryz.prog 139 (.slice none 0 0):=⟨by kernel_rfl⟩
instance:TIc Tryz.prog 139 9 1 16:=⟨TI.mk' Tryz.underlying139 (by kernel_rfl)⟩
instance:Und Tryz.prog 146 (.pointer 197):=⟨Tryz.underlying146⟩
instance:AggC Tryz.prog 146 false:=⟨_,Tryz.underlying146,rfl⟩
instance:Siz Tryz.prog 146 1:=⟨by kernel_rfl⟩
instance:Zro Tryz.prog 146 (.pointer none):=⟨by kernel_rfl⟩
instance:AggC Tryz.prog 152 true:=⟨_,Tryz.underlying152,rfl⟩
instance:Siz Tryz.prog 152 4:=⟨by kernel_rfl⟩
instance:Zro Tryz.prog 152 (.agg #[(.int .i64 0),(.int .i64 0),(.int .u64 0),(.slice none 0 0)]):=⟨by kernel_rfl⟩
instance:FldC Tryz.prog 152 0 0:=⟨Fld.mk' Tryz.underlying152 (by kernel_rfl)⟩
instance:FldC Tryz.prog 152 1 1:=⟨Fld.mk' Tryz.underlying152 (by kernel_rfl)⟩
instance:FldC Tryz.prog 152 2 2:=⟨Fld.mk' Tryz.underlying152 (by kernel_rfl)⟩
instance:FldC Tryz.prog 152 3 3:=⟨Fld.mk' Tryz.underlying152 (by kernel_rfl)⟩
instance:PlsC Tryz.prog 152 [(0,1),(1,1),(2,1),(3,1)]:=⟨by kernel_rfl⟩
instance:AggC Tryz.prog 153 true:=⟨_,Tryz.underlying153,rfl⟩
instance:Siz Tryz.prog 153 4:=⟨by kernel_rfl⟩
instance:Zro Tryz.prog 153 (.agg #[(.int .i64 0),(.int .i64 0),(.int .u64 0),(.slice none 0 0)]):=⟨by kernel_rfl⟩
instance:FldC Tryz.prog 153 0 0:=⟨Fld.mk' Tryz.underlying153 (by kernel_rfl)⟩
instance:FldC Tryz.prog 153 1 1:=⟨Fld.mk' Tryz.underlying153 (by kernel_rfl)⟩
instance:FldC Tryz.prog 153 2 2:=⟨Fld.mk' Tryz.underlying153 (by kernel_rfl)⟩
instance:FldC Tryz.prog 153 3 3:=⟨Fld.mk' Tryz.underlying153 (by kernel_rfl)⟩
instance:PlsC Tryz.prog 153 [(0,1),(1,1),(2,1),(3,1)]:=⟨by kernel_rfl⟩
instance:Und Tryz.prog 154 (.pointer 156):=⟨Tryz.underlying154⟩
instance:AggC Tryz.prog 154 false:=⟨_,Tryz.underlying154,rfl⟩
instance:Siz Tryz.prog 154 1:=⟨by kernel_rfl⟩
instance:Zro Tryz.prog 154 (.pointer none):=⟨by kernel_rfl⟩
instance:AggC Tryz.prog 155 true:=⟨_,Tryz.underlying155,rfl⟩
instance:Siz Tryz.prog 155 3:=⟨by kernel_rfl⟩
instance:Zro Tryz.prog 155 (.agg #[(.slice none 0 0),(.int .i64 0),(.int .i64 0)]):=⟨by kernel_rfl⟩
instance:FldC Tryz.prog 155 0 0:=⟨Fld.mk' Tryz.underlying155 (by kernel_rfl)⟩
instance:FldC Tryz.prog 155 1 1:=⟨Fld.mk' Tryz.underlying155 (by kernel_rfl)⟩
instance:FldC Tryz.prog 155 2 2:=⟨Fld.mk' Tryz.underlying155 (by kernel_rfl)⟩
instance:PlsC Tryz.prog 155 [(0,1),(1,1),(2,1)]:=⟨by kernel_rfl⟩
instance:AggC Tryz.prog 156 true:=⟨_,Tryz.underlying156,rfl⟩
instance:Siz Tryz.prog 156 3:=⟨by kernel_rfl⟩
instance:Zro Tryz.prog 156 (.agg #[(.slice none 0 0),(.int .i64 0),(.int .i64 0)]):=⟨by kernel_rfl⟩
instance:FldC Tryz.prog 156 0 0:=⟨Fld.mk' Tryz.underlying156 (by kernel_rfl)⟩
instance:FldC Tryz.prog 156 1 1:=⟨Fld.mk' Tryz.underlying156 (by kernel_rfl)⟩
instance:FldC Tryz.prog 156 2 2:=⟨Fld.mk' Tryz.underlying156 (by kernel_rfl)⟩
instance:PlsC Tryz.prog 156 [(0,1),(1,1),(2,1)]:=⟨by kernel_rfl⟩
instance:Und Tryz.prog 170 (.slice 59):=⟨Tryz.underlying170⟩
instance:AggC Tryz.prog 170 false:=⟨_,Tryz.underlying170,rfl⟩
instance:Siz Tryz.prog 170 1:=⟨by kernel_rfl⟩
instance:Zro Tryz.prog 170 (.slice none 0 0):=⟨by kernel_rfl⟩
instance:TIc Tryz.prog 170 59 2 16:=⟨TI.mk' Tryz.underlying170 (by kernel_rfl)⟩
instance:Und Tryz.prog 172 (.slice 24):=⟨Tryz.underlying172⟩
instance:AggC Tryz.prog 172 false:=⟨_,Tryz.underlying172,rfl⟩
instance:Siz Tryz.prog 172 1:=⟨by kernel_rfl⟩
instance:Zro Tryz.prog 172 (.slice none 0 0):=⟨by kernel_rfl⟩
instance:TIc Tryz.prog 172 24 1 24:=⟨TI.mk' Tryz.underlying172 (by kernel_rfl)⟩
instance:Und Tryz.prog 182 (.slice 185):=⟨Tryz.underlying182⟩
instance:AggC Tryz.prog 182 false:=⟨_,Tryz.underlying182,rfl⟩
instance:Siz Tryz.prog 182 1:=⟨by kernel_rfl⟩
instance:Zro Tryz.prog 182 (.slice none 0 0):=⟨by kernel_rfl⟩
instance:TIc Tryz.prog 182 185 8 80:=⟨TI.mk' Tryz.underlying182 (by kernel_rfl)⟩
instance:AggC Tryz.prog 184 true:=⟨_,Tryz.underlying184,rfl⟩
instance:Siz Tryz.prog 184 8:=⟨by kernel_rfl⟩
instance:Zro Tryz.prog 184 (.agg #[(.string ⟨#[]⟩),(.int .i64 0),(.int .i64 0),(.int .i64 0),(.int .i64 0),(.bool false),(.string ⟨#[]⟩),(.int .i64 0)]):=⟨by kernel_rfl⟩
instance:FldC Tryz.prog 184 0 0:=⟨Fld.mk' Tryz.underlying184 (by kernel_rfl)⟩
instance:FldC Tryz.prog 184 1 7:=⟨Fld.mk' Tryz.underlying184 (by kernel_rfl)⟩
instance:PlsC Tryz.prog 184 [(0,7),(7,1)]:=⟨by kernel_rfl⟩
instance:AggC Tryz.prog 185 true:=⟨_,Tryz.underlying185,rfl⟩
instance:Siz Tryz.prog 185 8:=⟨by kernel_rfl⟩
instance:Zro Tryz.prog 185 (.agg #[(.string ⟨#[]⟩),(.int .i64 0),(.int .i64 0),(.int .i64 0),(.int .i64 0),(.bool false),(.string ⟨#[]⟩),(.int .i64 0)]):=⟨by kernel_rfl⟩
instance:FldC Tryz.prog 185 0 0:=⟨Fld.mk' Tryz.underlying185 (by kernel_rfl)⟩
instance:FldC Tryz.prog 185 1 7:=⟨Fld.mk' Tryz.underlying185 (by kernel_rfl)⟩
instance:PlsC Tryz.prog 185 [(0,7),(7,1)]:=⟨by kernel_rfl⟩
instance:AggC Tryz.prog 194 true:=⟨_,Tryz.underlying194,rfl⟩
instance:Siz Tryz.prog 194 2:=⟨by kernel_rfl⟩
instance:Zro Tryz.prog 194 (.agg #[(.slice none 0 0),(.int .i64 0)]):=⟨by kernel_rfl⟩
instance:FldC Tryz.prog 194 0 0:=⟨Fld.mk' Tryz.underlying194 (by kernel_rfl)⟩
instance:FldC Tryz.prog 194 1 1:=⟨Fld.mk' Tryz.underlying194 (by kernel_rfl)⟩
instance:PlsC Tryz.prog 194 [(0,1),(1,1)]:=⟨by kernel_rfl⟩
instance:AggC Tryz.prog 195 true:=⟨_,Tryz.underlying195,rfl⟩
instance:Siz Tryz.prog 195 2:=⟨by kernel_rfl⟩
instance:Zro Tryz.prog 195 (.agg #[(.slice none 0 0),(.int .i64 0)]):=⟨by kernel_rfl⟩
instance:FldC Tryz.prog 195 0 0:=⟨Fld.mk' Tryz.underlying195 (by kernel_rfl)⟩
instance:FldC Tryz.prog 195 1 1:=⟨Fld.mk' Tryz.underlying195 (by kernel_rfl)⟩
instance:PlsC Tryz.prog 195 [(0,1),(1,1)]:=⟨by kernel_rfl⟩
instance:AggC Tryz.prog 196 true:=⟨_,Tryz.underlying196,rfl⟩
instance:Siz Tryz.prog 196 2:=⟨by kernel_rfl⟩
instance:Zro Tryz.prog 196 (.agg #[(.slice none 0 0),(.int .i64 0)]):=⟨by kernel_rfl⟩
instance:FldC Tryz.prog 196 0 0:=⟨Fld.mk' Tryz.underlying196 (by kernel_rfl)⟩
instance:PlsC Tryz.prog 196 [(0,2)]:=⟨by kernel_rfl⟩
instance:AggC Tryz.prog 197 true:=⟨_,Tryz.underlying197,rfl⟩
instance:Siz Tryz.prog 197 2:=⟨by kernel_rfl⟩
instance:Zro Tryz.prog 197 (.agg #[(.slice none 0 0),(.int .i64 0)]):=⟨by kernel_rfl⟩
instance:FldC Tryz.prog 197 0 0:=⟨Fld.mk' Tryz.underlying197 (by kernel_rfl)⟩
instance:PlsC Tryz.prog 197 [(0,2)]:=⟨by kernel_rfl⟩
instance:Und Tryz.prog 204 (.slice 3):=⟨Tryz.underlying204⟩
instance:AggC Tryz.prog 204 false:=⟨_,Tryz.underlying204,rfl⟩
instance:Siz Tryz.prog 204 1:=⟨by kernel_rfl⟩
instance:Zro Tryz.prog 204 (.slice none 0 0):=⟨by kernel_rfl⟩
instance:TIc Tryz.prog 204 3 1 8:=⟨TI.mk' Tryz.underlying204 (by kernel_rfl)⟩
instance:Und Tryz.prog 213 (.array 16 128):=⟨Tryz.underlying213⟩
instance:AggC Tryz.prog 213 true:=⟨_,Tryz.underlying213,rfl⟩
instance:Siz Tryz.prog 213 16:=⟨by kernel_rfl⟩
instance:Zro Tryz.prog 213 (.agg #[(.slice none 0 0),(.slice none 0 0),(.slice none 0 0),(.slice none 0 0),(.slice none 0 0),(.slice none 0 0),(.slice none 0 0),(.slice none 0 0),(.slice none 0 0),(.slice none 0 0),(.slice none 0 0),(.slice none 0 0),(.slice none 0 0),(.slice none 0 0),(.slice none 0 0),(.slice none 0 0)]):=⟨by kernel_rfl⟩
instance:Und Tryz.prog 214 (.array 16 128):=⟨Tryz.underlying214⟩
instance:AggC Tryz.prog 214 true:=⟨_,Tryz.underlying214,rfl⟩
instance:Siz Tryz.prog 214 16:=⟨by kernel_rfl⟩
instance:Zro Tryz.prog 214 (.agg #[(.slice none 0 0),(.slice none 0 0),(.slice none 0 0),(.slice none 0 0),(.slice none 0 0),(.slice none 0 0),(.slice none 0 0),(.slice none 0 0),(.slice none 0 0),(.slice none 0 0),(.slice none 0 0),(.slice none 0 0),(.slice none 0 0),(.slice none 0 0),(.slice none 0 0),(.slice none 0 0)]):=⟨by kernel_rfl⟩
instance:Und Tryz.prog 231 (.int .u64):=⟨Tryz.underlying231⟩
instance:AggC Tryz.prog 231 false:=⟨_,Tryz.underlying231,rfl⟩
instance:Siz Tryz.prog 231 1:=⟨by kernel_rfl⟩
instance:Zro Tryz.prog 231 (.int .u64 0):=⟨by kernel_rfl⟩
instance:Und Tryz.prog 234 (.pointer 195):=⟨Tryz.underlying234⟩
instance:AggC Tryz.prog 234 false:=⟨_,Tryz.underlying234,rfl⟩
instance:Siz Tryz.prog 234 1:=⟨by kernel_rfl⟩
instance:Zro Tryz.prog 234 (.pointer none):=⟨by kernel_rfl⟩
instance:Und Tryz.prog 253 (.int .i64):=⟨Tryz.underlying253⟩
instance:AggC Tryz.prog 253 false:=⟨_,Tryz.underlying253,rfl⟩
instance:Siz Tryz.prog 253 1:=⟨by kernel_rfl⟩
instance:Zro Tryz.prog 253 (.int .i64 0):=⟨by kernel_rfl⟩
instance:Und Tryz.prog 261 (.int .u32):=⟨Tryz.underlying261⟩
instance:AggC Tryz.prog 261 false:=⟨_,Tryz.underlying261,rfl⟩
instance:Siz Tryz.prog 261 1:=⟨by kernel_rfl⟩
instance:Zro Tryz.prog 261 (.int .u32 0):=⟨by kernel_rfl⟩
instance:Und Tryz.prog 283 (.int .u64):=⟨Tryz.underlying283⟩
instance:AggC Tryz.prog 283 false:=⟨_,Tryz.underlying283,rfl⟩
instance:Siz Tryz.prog 283 1:=⟨by kernel_rfl⟩
instance:Zro Tryz.prog 283 (.int .u64 0):=⟨by kernel_rfl⟩
instance:Und Tryz.prog 287 (.pointer 3):=⟨Tryz.underlying287⟩
instance:AggC Tryz.prog 287 false:=⟨_,Tryz.underlying287,rfl⟩
instance:Siz Tryz.prog 287 1:=⟨by kernel_rfl⟩
instance:Zro Tryz.prog 287 (.pointer none):=⟨by kernel_rfl⟩
instance:Und Tryz.prog 295 (.slice 43):=⟨Tryz.underlying295⟩
instance:AggC Tryz.prog 295 false:=⟨_,Tryz.underlying295,rfl⟩
instance:Siz Tryz.prog 295 1:=⟨by kernel_rfl⟩
instance:Zro Tryz.prog 295 (.slice none 0 0):=⟨by kernel_rfl⟩
instance:TIc Tryz.prog 295 43 1 24:=⟨TI.mk' Tryz.underlying295 (by kernel_rfl)⟩
instance:Und Tryz.prog 296 (.pointer 283):=⟨Tryz.underlying296⟩
instance:AggC Tryz.prog 296 false:=⟨_,Tryz.underlying296,rfl⟩
instance:Siz Tryz.prog 296 1:=⟨by kernel_rfl⟩
instance:Zro Tryz.prog 296 (.pointer none):=⟨by kernel_rfl⟩
instance:AggC Tryz.prog 310 true:=⟨_,Tryz.underlying310,rfl⟩
instance:Siz Tryz.prog 310 4:=⟨by kernel_rfl⟩
instance:Zro Tryz.prog 310 (.agg #[(.pointer none),(.pointer none),(.pointer none),(.string ⟨#[]⟩)]):=⟨by kernel_rfl⟩
instance:Und Tryz.prog 312 (.array 0 16):=⟨Tryz.underlying312⟩
instance:AggC Tryz.prog 312 true:=⟨_,Tryz.underlying312,rfl⟩
instance:Siz Tryz.prog 312 0:=⟨by kernel_rfl⟩
instance:Zro Tryz.prog 312 (.agg #[]):=⟨by kernel_rfl⟩
instance:AggC Tryz.prog 313 true:=⟨_,Tryz.underlying313,rfl⟩
instance:Siz Tryz.prog 313 0:=⟨by kernel_rfl⟩
instance:Zro Tryz.prog 313 (.agg #[]):=⟨by kernel_rfl⟩
instance:Und Tryz.prog 318 (.pointer 5):=⟨Tryz.underlying318⟩
instance:AggC Tryz.prog 318 false:=⟨_,Tryz.underlying318,rfl⟩
instance:Siz Tryz.prog 318 1:=⟨by kernel_rfl⟩
instance:Zro Tryz.prog 318 (.pointer none):=⟨by kernel_rfl⟩
instance:AggC Tryz.prog 321 true:=⟨_,Tryz.underlying321,rfl⟩
instance:Siz Tryz.prog 321 11:=⟨by kernel_rfl⟩
instance:Zro Tryz.prog 321 (.agg #[(.int .u64 0),(.int .u64 0),(.int .u32 0),(.int .u8 0),(.int .u8 0),(.int .u8 0),(.int .u8 0),.nilFunc,(.pointer none),(.int .i32 0),(.int .i32 0)]):=⟨by kernel_rfl⟩
instance:FldC Tryz.prog 321 0 0:=⟨Fld.mk' Tryz.underlying321 (by kernel_rfl)⟩
instance:FldC Tryz.prog 321 1 1:=⟨Fld.mk' Tryz.underlying321 (by kernel_rfl)⟩
instance:FldC Tryz.prog 321 2 2:=⟨Fld.mk' Tryz.underlying321 (by kernel_rfl)⟩
instance:FldC Tryz.prog 321 3 3:=⟨Fld.mk' Tryz.underlying321 (by kernel_rfl)⟩
instance:FldC Tryz.prog 321 4 4:=⟨Fld.mk' Tryz.underlying321 (by kernel_rfl)⟩
instance:FldC Tryz.prog 321 5 5:=⟨Fld.mk' Tryz.underlying321 (by kernel_rfl)⟩
instance:FldC Tryz.prog 321 6 6:=⟨Fld.mk' Tryz.underlying321 (by kernel_rfl)⟩
instance:FldC Tryz.prog 321 7 7:=⟨Fld.mk' Tryz.underlying321 (by kernel_rfl)⟩
instance:FldC Tryz.prog 321 8 8:=⟨Fld.mk' Tryz.underlying321 (by kernel_rfl)⟩
instance:FldC Tryz.prog 321 9 9:=⟨Fld.mk' Tryz.underlying321 (by kernel_rfl)⟩
instance:FldC Tryz.prog 321 10 10:=⟨Fld.mk' Tryz.underlying321 (by kernel_rfl)⟩
instance:PlsC Tryz.prog 321 [(0,1),(1,1),(2,1),(3,1),(4,1),(5,1),(6,1),(7,1),(8,1),(9,1),(10,1)]:=⟨by kernel_rfl⟩
theorem mixed0:Tryz.prog.follows .mixedOrders = true:=by kernel_rfl
end Go.Proofs.YtembiemaiacdfaaGreat
