/- Texts joined: Sq AbsG Tab. -/
import Derived.Test.YtembiemaiacdfaaGreatJ04
import Derived.Test.YtembiemaiacdfaaGreatProg
import Derived.Test.YtembiemaiacdfaaGreatJ03
set_option maxRecDepth 10000
set_option maxHeartbeats 8000000
namespace Go.Proofs.YtembiemaiacdfaaGreat
open Go.RowKit
section
variable {P:Program} {f:FuncId} {fn:Func} {body:Code} {As:List Cnt} {n:Nat} {S:St} {e:Exit} {rv rv':ResultVar} {r r':Ret} {pre post:List (Nat × Blk)} {c:Cnt}
theorem fi (hf:P.funcs[f]? = some fn) (hn:fn.ntmps = n) (h:AW P n body (fun e S=>(e = .ret ∨ e = .normal) ∧ kv P n fn S r) (CD As))
   (hb : fn.body = some body := by rfl) (hm : (fn.name == "runtime.NumGoroutine") = false := by kernel_rfl) (hl : As.length ≤ n := by exact Nat.le_of_ble_eq_true rfl) (h1 : Nat.ble n 1000 = true := by rfl) : Fn P f As r :=
 CE hf hb hm hn hl h h1
theorem eT (hf:P.funcs[f]? = some fn) (hn:fn.ntmps = n) (h:AW P n body (fun e S=>(e = .ret ∨ e = .normal) ∧ u7 P n fn S c post) (C3 As pre))
   (hb : fn.body = some body := by rfl) (hm : (fn.name == "runtime.NumGoroutine") = false := by kernel_rfl) (hl : As.length ≤ n := by exact Nat.le_of_ble_eq_true rfl) (h1 : Nat.ble n 1000 = true := by rfl) : dY P f As pre c post :=
 AH hf hb hm hn hl h h1
theorem aO (h:bA P n S rv r) (hf:fn.results = #[rv]:=by rfl) (he:e = .ret ∨ e = .normal:=by first|exact .inl rfl|exact .inr rfl):(e = .ret ∨ e = .normal) ∧ kv P n fn S r:=⟨he,CU hf h⟩
theorem oO (h:bA P n S rv r) (h':bA P n S rv' r') (hf:fn.results = #[rv,rv']:=by rfl) (he:e = .ret ∨ e = .normal:=by first|exact .inl rfl|exact .inr rfl):(e = .ret ∨ e = .normal) ∧ kv P n fn S (.tup2 r r'):=⟨he,uK hf h h'⟩
end
end Go.Proofs.YtembiemaiacdfaaGreat
namespace Go.Proofs.YtembiemaiacdfaaGreat
open Go.RowKit
variable {P:Program} {n:Nat} {ops:Array Oper} {o:Oper} {F:List Nat} {S T:St} {t:Nat}
theorem ag {j tg:Nat} {want b:Bool} {c:Cnt} {bk:Upd} (hg:o.guard = some (j,want)) (hj:(ops[j]?).bind (·.dst) = some tg) (htg:Nat.blt tg n = true)
   (hb:S.get tg = bC b) (hw:b = want) (h:ak n P ops { o with guard:=none } F c bk S):ak n P ops o (2 * tg :: F) c bk S:=by
 refine ⟨?_⟩
 intro C T hA a w ⟨g,hR⟩
 have hv:a.tmps.getD tg undef = .bool b:=by
   have:=hR.slots tg
   rw [hA.1 tg (by simp),hb] at this;exact this
 have hy:=ib (ops:=ops) hj hv (by rw [hR.tsz];exact Nat.le_of_ble_eq_true htg)
 unfold fG
 rw [if_pos (by simp [Region.wanted,hg,hy,hw,iZ])]
 have hA':cB F T S:=⟨fun t h=>hA.1 t (by simp [h]),fun id h=>hA.2 id (by simp [h])⟩
 have:=h.run C T hA' a w ⟨g,hR⟩
 unfold fG at this
 rw [if_pos (by simp [Region.wanted])] at this
 exact this
theorem JR {j tg:Nat} {want b:Bool} (hg:o.guard = some (j,want)) (hd:o.dst = some t) (ht:Nat.blt t n = true) (hj:(ops[j]?).bind (·.dst) = some tg) (htg:Nat.blt tg n = true)
   (hb:S.get tg = bC b) (hw:b = !want):ak n P ops o [2 * tg] (.per (ao undef)) [] S:=by
 refine ⟨?_⟩
 intro C T hA a w ⟨g,hR⟩
 have hv:a.tmps.getD tg undef = .bool b:=by
   have:=hR.slots tg
   rw [hA.1 tg (by simp),hb] at this;exact this
 have hy:=ib (ops:=ops) hj hv (by rw [hR.tsz];exact Nat.le_of_ble_eq_true htg)
 have hdk:dOk n o.dst:=fun t' e=>by rw [hd] at e;cases e;exact Nat.le_of_ble_eq_true ht
 unfold fG
 rw [if_neg (by simp [Region.wanted,hg,hy,hw,iZ])]
 exact ⟨g,hR.app0 (dB.refl w) hdk rfl⟩
theorem Dl {j tg:Nat} {want:Bool} (hg:o.guard = some (j,want)) (hd:o.dst = some t) (ht:Nat.blt t n = true) (hj:(ops[j]?).bind (·.dst) = some tg) (htg:Nat.blt tg n = true)
   (hb:S.get tg = .per (ao undef)):ak n P ops o [2 * tg] (.per (ao undef)) [] S:=by
 refine ⟨?_⟩
 intro C T hA a w ⟨g,hR⟩
 have hv:a.tmps.getD tg undef = undef:=by
   have:=hR.slots tg
   rw [hA.1 tg (by simp),hb] at this;exact this
 have hy:=ib (ops:=ops) hj hv (by rw [hR.tsz];exact Nat.le_of_ble_eq_true htg)
 have hdk:dOk n o.dst:=fun t' e=>by rw [hd] at e;cases e;exact Nat.le_of_ble_eq_true ht
 unfold fG
 rw [if_neg (by simp [Region.wanted,hg,hy,undef,iZ])]
 exact ⟨g,hR.app0 (dB.refl w) hdk rfl⟩
theorem rR {c x y:Operand} {b p:Bool} (hp:Pl n o t) (ho:o.op = .pick c x y) (hc:S.opd c = bC b) (hb:b = true) (hx:S.opd x = bC p):ak n P ops o (ap c ++ ap x ++ ap y) (bC p) [] S:=by
 subst hb
 exact k4 (p:=p) (q:=p) hp ho hc (fun _=>hx) (fun h=>by cases h)
theorem rS {c x y:Operand} {b p:Bool} (hp:Pl n o t) (ho:o.op = .pick c x y) (hc:S.opd c = bC b) (hb:b = false) (hy:S.opd y = bC p):ak n P ops o (ap c ++ ap x ++ ap y) (bC p) [] S:=by
 subst hb
 exact k4 (p:=p) (q:=p) hp ho hc (fun h=>by cases h) (fun _=>hy)
theorem Dm {ty ty':TypeId} {x y:Operand} {k:IntKind} {u v:Int} (hp:Pl n o t) (ho:o.op = .call { callee:=.builtin .max,args:=#[x,y],argTypes:=#[ty,ty'] }) (hx:S.opd x = iC k u) (hy:S.opd y = iC k v) :
   ak n P ops o (ap x ++ ap y) (iC k (if v > u then v else u)) [] S:=
 aA hp fun C T g a w hA hR=>by
   have h1:=aK (x:=x) hA (fun k h=>by simp [h]) hR hx
   have h2:=aK (x:=y) hA (fun k h=>by simp [h]) hR hy
   refine ⟨.int k (if v > u then v else u),?_,rfl⟩
   simp only [execOp,ho,resolve,invoke,builtin,Sem.run_bind,Sem.run_pure,Result.andThen_ok,List.map_toArray,List.map_cons,List.map_nil,h1,h2,run_max_int2]
theorem JS {ty ty':TypeId} {x y:Operand} {k:IntKind} {u v:Int} (hp:Pl n o t) (ho:o.op = .call { callee:=.builtin .min,args:=#[x,y],argTypes:=#[ty,ty'] }) (hx:S.opd x = iC k u) (hy:S.opd y = iC k v) :
   ak n P ops o (ap x ++ ap y) (iC k (if v < u then v else u)) [] S:=
 aA hp fun C T g a w hA hR=>by
   have h1:=aK (x:=x) hA (fun k h=>by simp [h]) hR hx
   have h2:=aK (x:=y) hA (fun k h=>by simp [h]) hR hy
   refine ⟨.int k (if v < u then v else u),?_,rfl⟩
   simp only [execOp,ho,resolve,invoke,builtin,Sem.run_bind,Sem.run_pure,Result.andThen_ok,List.map_toArray,List.map_cons,List.map_nil,h1,h2,run_min_int2]
end Go.Proofs.YtembiemaiacdfaaGreat
namespace Go.Proofs.YtembiemaiacdfaaGreat
open Go.RowKit
instance:dC Tryz.prog 2 (.int .i64):=⟨Tryz.underlying2⟩
instance:bc Tryz.prog 2 false:=⟨_,Tryz.underlying2,rfl⟩
instance:ct Tryz.prog 2 1:=⟨by kernel_rfl⟩
instance:du Tryz.prog 2 (.int .i64 0):=⟨by kernel_rfl⟩
instance:dC Tryz.prog 3 (.int .i64):=⟨Tryz.underlying3⟩
instance:bc Tryz.prog 3 false:=⟨_,Tryz.underlying3,rfl⟩
instance:ct Tryz.prog 3 1:=⟨by kernel_rfl⟩
instance:du Tryz.prog 3 (.int .i64 0):=⟨by kernel_rfl⟩
instance:dC Tryz.prog 4 .bool:=⟨Tryz.underlying4⟩
instance:bc Tryz.prog 4 false:=⟨_,Tryz.underlying4,rfl⟩
instance:ct Tryz.prog 4 1:=⟨by kernel_rfl⟩
instance:du Tryz.prog 4 (.bool false):=⟨by kernel_rfl⟩
instance:dC Tryz.prog 5 (.int .u8):=⟨Tryz.underlying5⟩
instance:bc Tryz.prog 5 false:=⟨_,Tryz.underlying5,rfl⟩
instance:ct Tryz.prog 5 1:=⟨by kernel_rfl⟩
instance:du Tryz.prog 5 (.int .u8 0):=⟨by kernel_rfl⟩
instance:bc Tryz.prog 7 true:=⟨_,Tryz.underlying7,rfl⟩
instance:ct Tryz.prog 7 4:=⟨by kernel_rfl⟩
instance:du Tryz.prog 7 (.agg #[(.int .i64 0),(.int .i64 0),(.bool false),(.int .u8 0)]):=⟨by kernel_rfl⟩
instance:dC Tryz.prog 9 .string:=⟨Tryz.underlying9⟩
instance:bc Tryz.prog 9 false:=⟨_,Tryz.underlying9,rfl⟩
instance:ct Tryz.prog 9 1:=⟨by kernel_rfl⟩
instance:du Tryz.prog 9 (.string ⟨#[]⟩):=⟨by kernel_rfl⟩
instance:dC Tryz.prog 12 (.int .u64):=⟨Tryz.underlying12⟩
instance:bc Tryz.prog 12 false:=⟨_,Tryz.underlying12,rfl⟩
instance:ct Tryz.prog 12 1:=⟨by kernel_rfl⟩
instance:du Tryz.prog 12 (.int .u64 0):=⟨by kernel_rfl⟩
instance:bc Tryz.prog 13 true:=⟨_,Tryz.underlying13,rfl⟩
instance:ct Tryz.prog 13 2:=⟨by kernel_rfl⟩
instance:du Tryz.prog 13 (.agg #[(.string ⟨#[]⟩),(.int .u64 0)]):=⟨by kernel_rfl⟩
instance:dC Tryz.prog 15 (.pointer 311):=⟨Tryz.underlying15⟩
instance:bc Tryz.prog 15 false:=⟨_,Tryz.underlying15,rfl⟩
instance:ct Tryz.prog 15 1:=⟨by kernel_rfl⟩
instance:du Tryz.prog 15 (.pointer none):=⟨by kernel_rfl⟩
instance:dC Tryz.prog 16 (.pointer 314):=⟨Tryz.underlying16⟩
instance:bc Tryz.prog 16 false:=⟨_,Tryz.underlying16,rfl⟩
instance:ct Tryz.prog 16 1:=⟨by kernel_rfl⟩
instance:du Tryz.prog 16 (.pointer none):=⟨by kernel_rfl⟩
instance:dC Tryz.prog 17 (.pointer 322):=⟨Tryz.underlying17⟩
instance:bc Tryz.prog 17 false:=⟨_,Tryz.underlying17,rfl⟩
instance:ct Tryz.prog 17 1:=⟨by kernel_rfl⟩
instance:du Tryz.prog 17 (.pointer none):=⟨by kernel_rfl⟩
instance:bc Tryz.prog 18 true:=⟨_,Tryz.underlying18,rfl⟩
instance:ct Tryz.prog 18 1:=⟨by kernel_rfl⟩
instance:du Tryz.prog 18 (.agg #[(.pointer none)]):=⟨by kernel_rfl⟩
instance:dC Tryz.prog 21 (.int .i32):=⟨Tryz.underlying21⟩
instance:bc Tryz.prog 21 false:=⟨_,Tryz.underlying21,rfl⟩
instance:ct Tryz.prog 21 1:=⟨by kernel_rfl⟩
instance:du Tryz.prog 21 (.int .i32 0):=⟨by kernel_rfl⟩
instance:dC Tryz.prog 22 (.slice 82):=⟨Tryz.underlying22⟩
instance:bc Tryz.prog 22 false:=⟨_,Tryz.underlying22,rfl⟩
instance:ct Tryz.prog 22 1:=⟨by kernel_rfl⟩
instance:du Tryz.prog 22 (.slice none 0 0):=⟨by kernel_rfl⟩
instance:rm Tryz.prog 22 82 3 40:=⟨TI.mk' Tryz.underlying22 (by kernel_rfl)⟩
instance:dC Tryz.prog 23 (.slice 61):=⟨Tryz.underlying23⟩
instance:bc Tryz.prog 23 false:=⟨_,Tryz.underlying23,rfl⟩
instance:ct Tryz.prog 23 1:=⟨by kernel_rfl⟩
instance:du Tryz.prog 23 (.slice none 0 0):=⟨by kernel_rfl⟩
instance:rm Tryz.prog 23 61 7 72:=⟨TI.mk' Tryz.underlying23 (by kernel_rfl)⟩
instance:dC Tryz.prog 24 (.slice 110):=⟨Tryz.underlying24⟩
instance:bc Tryz.prog 24 false:=⟨_,Tryz.underlying24,rfl⟩
instance:ct Tryz.prog 24 1:=⟨by kernel_rfl⟩
instance:du Tryz.prog 24 (.slice none 0 0):=⟨by kernel_rfl⟩
instance:rm Tryz.prog 24 110 4 64:=⟨TI.mk' Tryz.underlying24 (by kernel_rfl)⟩
instance:bc Tryz.prog 25 true:=⟨_,Tryz.underlying25,rfl⟩
instance:ct Tryz.prog 25 5:=⟨by kernel_rfl⟩
instance:du Tryz.prog 25 (.agg #[(.int .i64 0),(.slice none 0 0),(.slice none 0 0),(.slice none 0 0),(.int .i64 0)]):=⟨by kernel_rfl⟩
instance:aP Tryz.prog 25 0 0:=⟨cg.mk' Tryz.underlying25 (by kernel_rfl)⟩
instance:aP Tryz.prog 25 1 1:=⟨cg.mk' Tryz.underlying25 (by kernel_rfl)⟩
instance:aP Tryz.prog 25 2 2:=⟨cg.mk' Tryz.underlying25 (by kernel_rfl)⟩
instance:aP Tryz.prog 25 3 3:=⟨cg.mk' Tryz.underlying25 (by kernel_rfl)⟩
instance:aP Tryz.prog 25 4 4:=⟨cg.mk' Tryz.underlying25 (by kernel_rfl)⟩
instance:dV Tryz.prog 25 [(0,1),(1,1),(2,1),(3,1),(4,1)]:=⟨by kernel_rfl⟩
instance:bc Tryz.prog 26 true:=⟨_,Tryz.underlying26,rfl⟩
instance:ct Tryz.prog 26 5:=⟨by kernel_rfl⟩
instance:du Tryz.prog 26 (.agg #[(.int .i64 0),(.slice none 0 0),(.slice none 0 0),(.slice none 0 0),(.int .i64 0)]):=⟨by kernel_rfl⟩
instance:aP Tryz.prog 26 0 0:=⟨cg.mk' Tryz.underlying26 (by kernel_rfl)⟩
instance:aP Tryz.prog 26 1 1:=⟨cg.mk' Tryz.underlying26 (by kernel_rfl)⟩
instance:aP Tryz.prog 26 2 2:=⟨cg.mk' Tryz.underlying26 (by kernel_rfl)⟩
instance:aP Tryz.prog 26 3 3:=⟨cg.mk' Tryz.underlying26 (by kernel_rfl)⟩
instance:aP Tryz.prog 26 4 4:=⟨cg.mk' Tryz.underlying26 (by kernel_rfl)⟩
instance:dV Tryz.prog 26 [(0,1),(1,1),(2,1),(3,1),(4,1)]:=⟨by kernel_rfl⟩
instance:dC Tryz.prog 31 (.slice 23):=⟨Tryz.underlying31⟩
instance:bc Tryz.prog 31 false:=⟨_,Tryz.underlying31,rfl⟩
instance:ct Tryz.prog 31 1:=⟨by kernel_rfl⟩
instance:du Tryz.prog 31 (.slice none 0 0):=⟨by kernel_rfl⟩
instance:rm Tryz.prog 31 23 1 24:=⟨TI.mk' Tryz.underlying31 (by kernel_rfl)⟩
instance:bc Tryz.prog 32 true:=⟨_,Tryz.underlying32,rfl⟩
instance:ct Tryz.prog 32 2:=⟨by kernel_rfl⟩
instance:du Tryz.prog 32 (.agg #[(.slice none 0 0),(.slice none 0 0)]):=⟨by kernel_rfl⟩
instance:aP Tryz.prog 32 0 0:=⟨cg.mk' Tryz.underlying32 (by kernel_rfl)⟩
instance:aP Tryz.prog 32 1 1:=⟨cg.mk' Tryz.underlying32 (by kernel_rfl)⟩
instance:dV Tryz.prog 32 [(0,1),(1,1)]:=⟨by kernel_rfl⟩
instance:bc Tryz.prog 33 true:=⟨_,Tryz.underlying33,rfl⟩
instance:ct Tryz.prog 33 2:=⟨by kernel_rfl⟩
instance:du Tryz.prog 33 (.agg #[(.slice none 0 0),(.slice none 0 0)]):=⟨by kernel_rfl⟩
instance:aP Tryz.prog 33 0 0:=⟨cg.mk' Tryz.underlying33 (by kernel_rfl)⟩
instance:aP Tryz.prog 33 1 1:=⟨cg.mk' Tryz.underlying33 (by kernel_rfl)⟩
instance:dV Tryz.prog 33 [(0,1),(1,1)]:=⟨by kernel_rfl⟩
instance:dC Tryz.prog 34 (.int .i64):=⟨Tryz.underlying34⟩
instance:bc Tryz.prog 34 false:=⟨_,Tryz.underlying34,rfl⟩
instance:ct Tryz.prog 34 1:=⟨by kernel_rfl⟩
instance:du Tryz.prog 34 (.int .i64 0):=⟨by kernel_rfl⟩
instance:dC Tryz.prog 37 (.pointer 153):=⟨Tryz.underlying37⟩
instance:bc Tryz.prog 37 false:=⟨_,Tryz.underlying37,rfl⟩
instance:ct Tryz.prog 37 1:=⟨by kernel_rfl⟩
instance:du Tryz.prog 37 (.pointer none):=⟨by kernel_rfl⟩
instance:bc Tryz.prog 38 true:=⟨_,Tryz.underlying38,rfl⟩
instance:ct Tryz.prog 38 5:=⟨by kernel_rfl⟩
instance:du Tryz.prog 38 (.agg #[(.slice none 0 0),(.slice none 0 0),(.int .i64 0),(.slice none 0 0),(.pointer none)]):=⟨by kernel_rfl⟩
instance:aP Tryz.prog 38 0 0:=⟨cg.mk' Tryz.underlying38 (by kernel_rfl)⟩
instance:aP Tryz.prog 38 1 1:=⟨cg.mk' Tryz.underlying38 (by kernel_rfl)⟩
instance:aP Tryz.prog 38 2 2:=⟨cg.mk' Tryz.underlying38 (by kernel_rfl)⟩
instance:aP Tryz.prog 38 3 3:=⟨cg.mk' Tryz.underlying38 (by kernel_rfl)⟩
instance:aP Tryz.prog 38 4 4:=⟨cg.mk' Tryz.underlying38 (by kernel_rfl)⟩
instance:dV Tryz.prog 38 [(0,1),(1,1),(2,1),(3,1),(4,1)]:=⟨by kernel_rfl⟩
instance:bc Tryz.prog 39 true:=⟨_,Tryz.underlying39,rfl⟩
instance:ct Tryz.prog 39 5:=⟨by kernel_rfl⟩
instance:du Tryz.prog 39 (.agg #[(.slice none 0 0),(.slice none 0 0),(.int .i64 0),(.slice none 0 0),(.pointer none)]):=⟨by kernel_rfl⟩
instance:aP Tryz.prog 39 0 0:=⟨cg.mk' Tryz.underlying39 (by kernel_rfl)⟩
instance:aP Tryz.prog 39 1 1:=⟨cg.mk' Tryz.underlying39 (by kernel_rfl)⟩
instance:aP Tryz.prog 39 2 2:=⟨cg.mk' Tryz.underlying39 (by kernel_rfl)⟩
instance:aP Tryz.prog 39 3 3:=⟨cg.mk' Tryz.underlying39 (by kernel_rfl)⟩
instance:aP Tryz.prog 39 4 4:=⟨cg.mk' Tryz.underlying39 (by kernel_rfl)⟩
instance:dV Tryz.prog 39 [(0,1),(1,1),(2,1),(3,1),(4,1)]:=⟨by kernel_rfl⟩
instance:dC Tryz.prog 43 (.slice 5):=⟨Tryz.underlying43⟩
instance:bc Tryz.prog 43 false:=⟨_,Tryz.underlying43,rfl⟩
instance:ct Tryz.prog 43 1:=⟨by kernel_rfl⟩
instance:du Tryz.prog 43 (.slice none 0 0):=⟨by kernel_rfl⟩
instance:rm Tryz.prog 43 5 1 1:=⟨TI.mk' Tryz.underlying43 (by kernel_rfl)⟩
instance:bc Tryz.prog 44 true:=⟨_,Tryz.underlying44,rfl⟩
instance:ct Tryz.prog 44 5:=⟨by kernel_rfl⟩
instance:du Tryz.prog 44 (.agg #[(.slice none 0 0),(.slice none 0 0),(.int .i64 0),(.slice none 0 0),(.slice none 0 0)]):=⟨by kernel_rfl⟩
instance:aP Tryz.prog 44 0 0:=⟨cg.mk' Tryz.underlying44 (by kernel_rfl)⟩
instance:aP Tryz.prog 44 1 1:=⟨cg.mk' Tryz.underlying44 (by kernel_rfl)⟩
instance:aP Tryz.prog 44 2 2:=⟨cg.mk' Tryz.underlying44 (by kernel_rfl)⟩
instance:aP Tryz.prog 44 3 3:=⟨cg.mk' Tryz.underlying44 (by kernel_rfl)⟩
instance:aP Tryz.prog 44 4 4:=⟨cg.mk' Tryz.underlying44 (by kernel_rfl)⟩
instance:dV Tryz.prog 44 [(0,1),(1,1),(2,1),(3,1),(4,1)]:=⟨by kernel_rfl⟩
instance:bc Tryz.prog 45 true:=⟨_,Tryz.underlying45,rfl⟩
instance:ct Tryz.prog 45 5:=⟨by kernel_rfl⟩
instance:du Tryz.prog 45 (.agg #[(.slice none 0 0),(.slice none 0 0),(.int .i64 0),(.slice none 0 0),(.slice none 0 0)]):=⟨by kernel_rfl⟩
instance:aP Tryz.prog 45 0 0:=⟨cg.mk' Tryz.underlying45 (by kernel_rfl)⟩
instance:aP Tryz.prog 45 1 1:=⟨cg.mk' Tryz.underlying45 (by kernel_rfl)⟩
instance:aP Tryz.prog 45 2 2:=⟨cg.mk' Tryz.underlying45 (by kernel_rfl)⟩
instance:aP Tryz.prog 45 3 3:=⟨cg.mk' Tryz.underlying45 (by kernel_rfl)⟩
instance:aP Tryz.prog 45 4 4:=⟨cg.mk' Tryz.underlying45 (by kernel_rfl)⟩
instance:dV Tryz.prog 45 [(0,1),(1,1),(2,1),(3,1),(4,1)]:=⟨by kernel_rfl⟩
instance:dC Tryz.prog 47 (.slice 4):=⟨Tryz.underlying47⟩
instance:bc Tryz.prog 47 false:=⟨_,Tryz.underlying47,rfl⟩
instance:ct Tryz.prog 47 1:=⟨by kernel_rfl⟩
instance:du Tryz.prog 47 (.slice none 0 0):=⟨by kernel_rfl⟩
instance:rm Tryz.prog 47 4 1 1:=⟨TI.mk' Tryz.underlying47 (by kernel_rfl)⟩
instance:dC Tryz.prog 48 (.int .u64):=⟨Tryz.underlying48⟩
instance:bc Tryz.prog 48 false:=⟨_,Tryz.underlying48,rfl⟩
instance:ct Tryz.prog 48 1:=⟨by kernel_rfl⟩
instance:du Tryz.prog 48 (.int .u64 0):=⟨by kernel_rfl⟩
instance:bc Tryz.prog 49 true:=⟨_,Tryz.underlying49,rfl⟩
instance:ct Tryz.prog 49 3:=⟨by kernel_rfl⟩
instance:du Tryz.prog 49 (.agg #[(.slice none 0 0),(.int .i64 0),(.int .u64 0)]):=⟨by kernel_rfl⟩
instance:aP Tryz.prog 49 0 0:=⟨cg.mk' Tryz.underlying49 (by kernel_rfl)⟩
instance:aP Tryz.prog 49 1 1:=⟨cg.mk' Tryz.underlying49 (by kernel_rfl)⟩
instance:aP Tryz.prog 49 2 2:=⟨cg.mk' Tryz.underlying49 (by kernel_rfl)⟩
instance:dV Tryz.prog 49 [(0,1),(1,1),(2,1)]:=⟨by kernel_rfl⟩
instance:bc Tryz.prog 50 true:=⟨_,Tryz.underlying50,rfl⟩
instance:ct Tryz.prog 50 3:=⟨by kernel_rfl⟩
instance:du Tryz.prog 50 (.agg #[(.slice none 0 0),(.int .i64 0),(.int .u64 0)]):=⟨by kernel_rfl⟩
instance:aP Tryz.prog 50 0 0:=⟨cg.mk' Tryz.underlying50 (by kernel_rfl)⟩
instance:aP Tryz.prog 50 1 1:=⟨cg.mk' Tryz.underlying50 (by kernel_rfl)⟩
instance:aP Tryz.prog 50 2 2:=⟨cg.mk' Tryz.underlying50 (by kernel_rfl)⟩
instance:dV Tryz.prog 50 [(0,1),(1,1),(2,1)]:=⟨by kernel_rfl⟩
instance:bc Tryz.prog 51 true:=⟨_,Tryz.underlying51,rfl⟩
instance:ct Tryz.prog 51 7:=⟨by kernel_rfl⟩
instance:du Tryz.prog 51 (.agg #[(.slice none 0 0),(.slice none 0 0),(.int .i64 0),(.slice none 0 0),(.slice none 0 0),(.int .i64 0),(.int .u64 0)]):=⟨by kernel_rfl⟩
instance:aP Tryz.prog 51 0 0:=⟨cg.mk' Tryz.underlying51 (by kernel_rfl)⟩
instance:aP Tryz.prog 51 1 1:=⟨cg.mk' Tryz.underlying51 (by kernel_rfl)⟩
instance:aP Tryz.prog 51 2 2:=⟨cg.mk' Tryz.underlying51 (by kernel_rfl)⟩
instance:aP Tryz.prog 51 3 3:=⟨cg.mk' Tryz.underlying51 (by kernel_rfl)⟩
instance:aP Tryz.prog 51 4 4:=⟨cg.mk' Tryz.underlying51 (by kernel_rfl)⟩
instance:dV Tryz.prog 51 [(0,1),(1,1),(2,1),(3,1),(4,3)]:=⟨by kernel_rfl⟩
instance:bc Tryz.prog 52 true:=⟨_,Tryz.underlying52,rfl⟩
instance:ct Tryz.prog 52 7:=⟨by kernel_rfl⟩
instance:du Tryz.prog 52 (.agg #[(.slice none 0 0),(.slice none 0 0),(.int .i64 0),(.slice none 0 0),(.slice none 0 0),(.int .i64 0),(.int .u64 0)]):=⟨by kernel_rfl⟩
instance:aP Tryz.prog 52 0 0:=⟨cg.mk' Tryz.underlying52 (by kernel_rfl)⟩
instance:aP Tryz.prog 52 1 1:=⟨cg.mk' Tryz.underlying52 (by kernel_rfl)⟩
instance:aP Tryz.prog 52 2 2:=⟨cg.mk' Tryz.underlying52 (by kernel_rfl)⟩
instance:aP Tryz.prog 52 3 3:=⟨cg.mk' Tryz.underlying52 (by kernel_rfl)⟩
instance:aP Tryz.prog 52 4 4:=⟨cg.mk' Tryz.underlying52 (by kernel_rfl)⟩
instance:dV Tryz.prog 52 [(0,1),(1,1),(2,1),(3,1),(4,3)]:=⟨by kernel_rfl⟩
instance:bc Tryz.prog 58 true:=⟨_,Tryz.underlying58,rfl⟩
instance:ct Tryz.prog 58 2:=⟨by kernel_rfl⟩
instance:du Tryz.prog 58 (.agg #[(.int .i64 0),(.int .i64 0)]):=⟨by kernel_rfl⟩
instance:aP Tryz.prog 58 0 0:=⟨cg.mk' Tryz.underlying58 (by kernel_rfl)⟩
instance:aP Tryz.prog 58 1 1:=⟨cg.mk' Tryz.underlying58 (by kernel_rfl)⟩
instance:dV Tryz.prog 58 [(0,1),(1,1)]:=⟨by kernel_rfl⟩
instance:bc Tryz.prog 59 true:=⟨_,Tryz.underlying59,rfl⟩
instance:ct Tryz.prog 59 2:=⟨by kernel_rfl⟩
instance:du Tryz.prog 59 (.agg #[(.int .i64 0),(.int .i64 0)]):=⟨by kernel_rfl⟩
instance:aP Tryz.prog 59 0 0:=⟨cg.mk' Tryz.underlying59 (by kernel_rfl)⟩
instance:aP Tryz.prog 59 1 1:=⟨cg.mk' Tryz.underlying59 (by kernel_rfl)⟩
instance:dV Tryz.prog 59 [(0,1),(1,1)]:=⟨by kernel_rfl⟩
instance:bc Tryz.prog 60 true:=⟨_,Tryz.underlying60,rfl⟩
instance:ct Tryz.prog 60 7:=⟨by kernel_rfl⟩
instance:du Tryz.prog 60 (.agg #[(.string ⟨#[]⟩),(.int .i64 0),(.int .i64 0),(.int .i64 0),(.int .i64 0),(.bool false),(.string ⟨#[]⟩)]):=⟨by kernel_rfl⟩
instance:aP Tryz.prog 60 0 0:=⟨cg.mk' Tryz.underlying60 (by kernel_rfl)⟩
instance:aP Tryz.prog 60 1 1:=⟨cg.mk' Tryz.underlying60 (by kernel_rfl)⟩
instance:aP Tryz.prog 60 2 3:=⟨cg.mk' Tryz.underlying60 (by kernel_rfl)⟩
instance:aP Tryz.prog 60 3 4:=⟨cg.mk' Tryz.underlying60 (by kernel_rfl)⟩
instance:aP Tryz.prog 60 4 5:=⟨cg.mk' Tryz.underlying60 (by kernel_rfl)⟩
instance:aP Tryz.prog 60 5 6:=⟨cg.mk' Tryz.underlying60 (by kernel_rfl)⟩
instance:dV Tryz.prog 60 [(0,1),(1,2),(3,1),(4,1),(5,1),(6,1)]:=⟨by kernel_rfl⟩
instance:bc Tryz.prog 61 true:=⟨_,Tryz.underlying61,rfl⟩
instance:ct Tryz.prog 61 7:=⟨by kernel_rfl⟩
instance:du Tryz.prog 61 (.agg #[(.string ⟨#[]⟩),(.int .i64 0),(.int .i64 0),(.int .i64 0),(.int .i64 0),(.bool false),(.string ⟨#[]⟩)]):=⟨by kernel_rfl⟩
instance:aP Tryz.prog 61 0 0:=⟨cg.mk' Tryz.underlying61 (by kernel_rfl)⟩
instance:aP Tryz.prog 61 1 1:=⟨cg.mk' Tryz.underlying61 (by kernel_rfl)⟩
instance:aP Tryz.prog 61 2 3:=⟨cg.mk' Tryz.underlying61 (by kernel_rfl)⟩
instance:aP Tryz.prog 61 3 4:=⟨cg.mk' Tryz.underlying61 (by kernel_rfl)⟩
instance:aP Tryz.prog 61 4 5:=⟨cg.mk' Tryz.underlying61 (by kernel_rfl)⟩
instance:aP Tryz.prog 61 5 6:=⟨cg.mk' Tryz.underlying61 (by kernel_rfl)⟩
instance:dV Tryz.prog 61 [(0,1),(1,2),(3,1),(4,1),(5,1),(6,1)]:=⟨by kernel_rfl⟩
instance:bc Tryz.prog 81 true:=⟨_,Tryz.underlying81,rfl⟩
instance:ct Tryz.prog 81 3:=⟨by kernel_rfl⟩
instance:du Tryz.prog 81 (.agg #[(.string ⟨#[]⟩),(.string ⟨#[]⟩),(.bool false)]):=⟨by kernel_rfl⟩
instance:aP Tryz.prog 81 0 0:=⟨cg.mk' Tryz.underlying81 (by kernel_rfl)⟩
instance:aP Tryz.prog 81 1 1:=⟨cg.mk' Tryz.underlying81 (by kernel_rfl)⟩
instance:aP Tryz.prog 81 2 2:=⟨cg.mk' Tryz.underlying81 (by kernel_rfl)⟩
instance:dV Tryz.prog 81 [(0,1),(1,1),(2,1)]:=⟨by kernel_rfl⟩
instance:bc Tryz.prog 82 true:=⟨_,Tryz.underlying82,rfl⟩
instance:ct Tryz.prog 82 3:=⟨by kernel_rfl⟩
instance:du Tryz.prog 82 (.agg #[(.string ⟨#[]⟩),(.string ⟨#[]⟩),(.bool false)]):=⟨by kernel_rfl⟩
instance:aP Tryz.prog 82 0 0:=⟨cg.mk' Tryz.underlying82 (by kernel_rfl)⟩
instance:aP Tryz.prog 82 1 1:=⟨cg.mk' Tryz.underlying82 (by kernel_rfl)⟩
instance:aP Tryz.prog 82 2 2:=⟨cg.mk' Tryz.underlying82 (by kernel_rfl)⟩
instance:dV Tryz.prog 82 [(0,1),(1,1),(2,1)]:=⟨by kernel_rfl⟩
instance:dC Tryz.prog 108 (.slice 130):=⟨Tryz.underlying108⟩
instance:bc Tryz.prog 108 false:=⟨_,Tryz.underlying108,rfl⟩
instance:ct Tryz.prog 108 1:=⟨by kernel_rfl⟩
instance:du Tryz.prog 108 (.slice none 0 0):=⟨by kernel_rfl⟩
instance:rm Tryz.prog 108 130 2 32:=⟨TI.mk' Tryz.underlying108 (by kernel_rfl)⟩
instance:bc Tryz.prog 109 true:=⟨_,Tryz.underlying109,rfl⟩
instance:ct Tryz.prog 109 4:=⟨by kernel_rfl⟩
instance:du Tryz.prog 109 (.agg #[(.string ⟨#[]⟩),(.string ⟨#[]⟩),(.bool false),(.slice none 0 0)]):=⟨by kernel_rfl⟩
instance:aP Tryz.prog 109 0 0:=⟨cg.mk' Tryz.underlying109 (by kernel_rfl)⟩
instance:aP Tryz.prog 109 1 3:=⟨cg.mk' Tryz.underlying109 (by kernel_rfl)⟩
instance:dV Tryz.prog 109 [(0,3),(3,1)]:=⟨by kernel_rfl⟩
instance:bc Tryz.prog 110 true:=⟨_,Tryz.underlying110,rfl⟩
instance:ct Tryz.prog 110 4:=⟨by kernel_rfl⟩
instance:du Tryz.prog 110 (.agg #[(.string ⟨#[]⟩),(.string ⟨#[]⟩),(.bool false),(.slice none 0 0)]):=⟨by kernel_rfl⟩
instance:aP Tryz.prog 110 0 0:=⟨cg.mk' Tryz.underlying110 (by kernel_rfl)⟩
instance:aP Tryz.prog 110 1 3:=⟨cg.mk' Tryz.underlying110 (by kernel_rfl)⟩
instance:dV Tryz.prog 110 [(0,3),(3,1)]:=⟨by kernel_rfl⟩
instance:dC Tryz.prog 128 (.slice 132):=⟨Tryz.underlying128⟩
instance:bc Tryz.prog 128 false:=⟨_,Tryz.underlying128,rfl⟩
instance:ct Tryz.prog 128 1:=⟨by kernel_rfl⟩
instance:du Tryz.prog 128 (.slice none 0 0):=⟨by kernel_rfl⟩
instance:rm Tryz.prog 128 132 2 16:=⟨TI.mk' Tryz.underlying128 (by kernel_rfl)⟩
instance:bc Tryz.prog 129 true:=⟨_,Tryz.underlying129,rfl⟩
instance:ct Tryz.prog 129 2:=⟨by kernel_rfl⟩
instance:du Tryz.prog 129 (.agg #[(.int .i64 0),(.slice none 0 0)]):=⟨by kernel_rfl⟩
instance:aP Tryz.prog 129 0 0:=⟨cg.mk' Tryz.underlying129 (by kernel_rfl)⟩
instance:aP Tryz.prog 129 1 1:=⟨cg.mk' Tryz.underlying129 (by kernel_rfl)⟩
instance:dV Tryz.prog 129 [(0,1),(1,1)]:=⟨by kernel_rfl⟩
instance:bc Tryz.prog 130 true:=⟨_,Tryz.underlying130,rfl⟩
instance:ct Tryz.prog 130 2:=⟨by kernel_rfl⟩
instance:du Tryz.prog 130 (.agg #[(.int .i64 0),(.slice none 0 0)]):=⟨by kernel_rfl⟩
instance:aP Tryz.prog 130 0 0:=⟨cg.mk' Tryz.underlying130 (by kernel_rfl)⟩
instance:aP Tryz.prog 130 1 1:=⟨cg.mk' Tryz.underlying130 (by kernel_rfl)⟩
instance:dV Tryz.prog 130 [(0,1),(1,1)]:=⟨by kernel_rfl⟩
instance:bc Tryz.prog 131 true:=⟨_,Tryz.underlying131,rfl⟩
instance:ct Tryz.prog 131 2:=⟨by kernel_rfl⟩
instance:du Tryz.prog 131 (.agg #[(.int .i64 0),(.int .i64 0)]):=⟨by kernel_rfl⟩
instance:aP Tryz.prog 131 0 0:=⟨cg.mk' Tryz.underlying131 (by kernel_rfl)⟩
instance:aP Tryz.prog 131 1 1:=⟨cg.mk' Tryz.underlying131 (by kernel_rfl)⟩
instance:dV Tryz.prog 131 [(0,1),(1,1)]:=⟨by kernel_rfl⟩
instance:bc Tryz.prog 132 true:=⟨_,Tryz.underlying132,rfl⟩
instance:ct Tryz.prog 132 2:=⟨by kernel_rfl⟩
instance:du Tryz.prog 132 (.agg #[(.int .i64 0),(.int .i64 0)]):=⟨by kernel_rfl⟩
instance:aP Tryz.prog 132 0 0:=⟨cg.mk' Tryz.underlying132 (by kernel_rfl)⟩
instance:aP Tryz.prog 132 1 1:=⟨cg.mk' Tryz.underlying132 (by kernel_rfl)⟩
instance:dV Tryz.prog 132 [(0,1),(1,1)]:=⟨by kernel_rfl⟩
instance:dC Tryz.prog 139 (.slice 9):=⟨Tryz.underlying139⟩
instance:bc Tryz.prog 139 false:=⟨_,Tryz.underlying139,rfl⟩
instance:ct Tryz.prog 139 1:=⟨by kernel_rfl⟩
instance:du Tryz.prog 139 (.slice none 0 0):=⟨by kernel_rfl⟩
instance:rm Tryz.prog 139 9 1 16:=⟨TI.mk' Tryz.underlying139 (by kernel_rfl)⟩
instance:dC Tryz.prog 146 (.pointer 197):=⟨Tryz.underlying146⟩
instance:bc Tryz.prog 146 false:=⟨_,Tryz.underlying146,rfl⟩
instance:ct Tryz.prog 146 1:=⟨by kernel_rfl⟩
instance:du Tryz.prog 146 (.pointer none):=⟨by kernel_rfl⟩
instance:bc Tryz.prog 152 true:=⟨_,Tryz.underlying152,rfl⟩
instance:ct Tryz.prog 152 4:=⟨by kernel_rfl⟩
instance:du Tryz.prog 152 (.agg #[(.int .i64 0),(.int .i64 0),(.int .u64 0),(.slice none 0 0)]):=⟨by kernel_rfl⟩
instance:aP Tryz.prog 152 0 0:=⟨cg.mk' Tryz.underlying152 (by kernel_rfl)⟩
instance:aP Tryz.prog 152 1 1:=⟨cg.mk' Tryz.underlying152 (by kernel_rfl)⟩
instance:aP Tryz.prog 152 2 2:=⟨cg.mk' Tryz.underlying152 (by kernel_rfl)⟩
instance:aP Tryz.prog 152 3 3:=⟨cg.mk' Tryz.underlying152 (by kernel_rfl)⟩
instance:dV Tryz.prog 152 [(0,1),(1,1),(2,1),(3,1)]:=⟨by kernel_rfl⟩
instance:bc Tryz.prog 153 true:=⟨_,Tryz.underlying153,rfl⟩
instance:ct Tryz.prog 153 4:=⟨by kernel_rfl⟩
instance:du Tryz.prog 153 (.agg #[(.int .i64 0),(.int .i64 0),(.int .u64 0),(.slice none 0 0)]):=⟨by kernel_rfl⟩
instance:aP Tryz.prog 153 0 0:=⟨cg.mk' Tryz.underlying153 (by kernel_rfl)⟩
instance:aP Tryz.prog 153 1 1:=⟨cg.mk' Tryz.underlying153 (by kernel_rfl)⟩
instance:aP Tryz.prog 153 2 2:=⟨cg.mk' Tryz.underlying153 (by kernel_rfl)⟩
instance:aP Tryz.prog 153 3 3:=⟨cg.mk' Tryz.underlying153 (by kernel_rfl)⟩
instance:dV Tryz.prog 153 [(0,1),(1,1),(2,1),(3,1)]:=⟨by kernel_rfl⟩
instance:dC Tryz.prog 154 (.pointer 156):=⟨Tryz.underlying154⟩
instance:bc Tryz.prog 154 false:=⟨_,Tryz.underlying154,rfl⟩
instance:ct Tryz.prog 154 1:=⟨by kernel_rfl⟩
instance:du Tryz.prog 154 (.pointer none):=⟨by kernel_rfl⟩
instance:bc Tryz.prog 155 true:=⟨_,Tryz.underlying155,rfl⟩
instance:ct Tryz.prog 155 3:=⟨by kernel_rfl⟩
instance:du Tryz.prog 155 (.agg #[(.slice none 0 0),(.int .i64 0),(.int .i64 0)]):=⟨by kernel_rfl⟩
instance:aP Tryz.prog 155 0 0:=⟨cg.mk' Tryz.underlying155 (by kernel_rfl)⟩
instance:aP Tryz.prog 155 1 1:=⟨cg.mk' Tryz.underlying155 (by kernel_rfl)⟩
instance:aP Tryz.prog 155 2 2:=⟨cg.mk' Tryz.underlying155 (by kernel_rfl)⟩
instance:dV Tryz.prog 155 [(0,1),(1,1),(2,1)]:=⟨by kernel_rfl⟩
instance:bc Tryz.prog 156 true:=⟨_,Tryz.underlying156,rfl⟩
instance:ct Tryz.prog 156 3:=⟨by kernel_rfl⟩
instance:du Tryz.prog 156 (.agg #[(.slice none 0 0),(.int .i64 0),(.int .i64 0)]):=⟨by kernel_rfl⟩
instance:aP Tryz.prog 156 0 0:=⟨cg.mk' Tryz.underlying156 (by kernel_rfl)⟩
instance:aP Tryz.prog 156 1 1:=⟨cg.mk' Tryz.underlying156 (by kernel_rfl)⟩
instance:aP Tryz.prog 156 2 2:=⟨cg.mk' Tryz.underlying156 (by kernel_rfl)⟩
instance:dV Tryz.prog 156 [(0,1),(1,1),(2,1)]:=⟨by kernel_rfl⟩
instance:dC Tryz.prog 170 (.slice 59):=⟨Tryz.underlying170⟩
instance:bc Tryz.prog 170 false:=⟨_,Tryz.underlying170,rfl⟩
instance:ct Tryz.prog 170 1:=⟨by kernel_rfl⟩
instance:du Tryz.prog 170 (.slice none 0 0):=⟨by kernel_rfl⟩
instance:rm Tryz.prog 170 59 2 16:=⟨TI.mk' Tryz.underlying170 (by kernel_rfl)⟩
instance:dC Tryz.prog 172 (.slice 24):=⟨Tryz.underlying172⟩
instance:bc Tryz.prog 172 false:=⟨_,Tryz.underlying172,rfl⟩
instance:ct Tryz.prog 172 1:=⟨by kernel_rfl⟩
instance:du Tryz.prog 172 (.slice none 0 0):=⟨by kernel_rfl⟩
instance:rm Tryz.prog 172 24 1 24:=⟨TI.mk' Tryz.underlying172 (by kernel_rfl)⟩
instance:dC Tryz.prog 182 (.slice 185):=⟨Tryz.underlying182⟩
instance:bc Tryz.prog 182 false:=⟨_,Tryz.underlying182,rfl⟩
instance:ct Tryz.prog 182 1:=⟨by kernel_rfl⟩
instance:du Tryz.prog 182 (.slice none 0 0):=⟨by kernel_rfl⟩
instance:rm Tryz.prog 182 185 8 80:=⟨TI.mk' Tryz.underlying182 (by kernel_rfl)⟩
instance:bc Tryz.prog 184 true:=⟨_,Tryz.underlying184,rfl⟩
instance:ct Tryz.prog 184 8:=⟨by kernel_rfl⟩
instance:du Tryz.prog 184 (.agg #[(.string ⟨#[]⟩),(.int .i64 0),(.int .i64 0),(.int .i64 0),(.int .i64 0),(.bool false),(.string ⟨#[]⟩),(.int .i64 0)]):=⟨by kernel_rfl⟩
instance:aP Tryz.prog 184 0 0:=⟨cg.mk' Tryz.underlying184 (by kernel_rfl)⟩
instance:aP Tryz.prog 184 1 7:=⟨cg.mk' Tryz.underlying184 (by kernel_rfl)⟩
instance:dV Tryz.prog 184 [(0,7),(7,1)]:=⟨by kernel_rfl⟩
instance:bc Tryz.prog 185 true:=⟨_,Tryz.underlying185,rfl⟩
instance:ct Tryz.prog 185 8:=⟨by kernel_rfl⟩
instance:du Tryz.prog 185 (.agg #[(.string ⟨#[]⟩),(.int .i64 0),(.int .i64 0),(.int .i64 0),(.int .i64 0),(.bool false),(.string ⟨#[]⟩),(.int .i64 0)]):=⟨by kernel_rfl⟩
instance:aP Tryz.prog 185 0 0:=⟨cg.mk' Tryz.underlying185 (by kernel_rfl)⟩
instance:aP Tryz.prog 185 1 7:=⟨cg.mk' Tryz.underlying185 (by kernel_rfl)⟩
instance:dV Tryz.prog 185 [(0,7),(7,1)]:=⟨by kernel_rfl⟩
instance:bc Tryz.prog 194 true:=⟨_,Tryz.underlying194,rfl⟩
instance:ct Tryz.prog 194 2:=⟨by kernel_rfl⟩
instance:du Tryz.prog 194 (.agg #[(.slice none 0 0),(.int .i64 0)]):=⟨by kernel_rfl⟩
instance:aP Tryz.prog 194 0 0:=⟨cg.mk' Tryz.underlying194 (by kernel_rfl)⟩
instance:aP Tryz.prog 194 1 1:=⟨cg.mk' Tryz.underlying194 (by kernel_rfl)⟩
instance:dV Tryz.prog 194 [(0,1),(1,1)]:=⟨by kernel_rfl⟩
instance:bc Tryz.prog 195 true:=⟨_,Tryz.underlying195,rfl⟩
instance:ct Tryz.prog 195 2:=⟨by kernel_rfl⟩
instance:du Tryz.prog 195 (.agg #[(.slice none 0 0),(.int .i64 0)]):=⟨by kernel_rfl⟩
instance:aP Tryz.prog 195 0 0:=⟨cg.mk' Tryz.underlying195 (by kernel_rfl)⟩
instance:aP Tryz.prog 195 1 1:=⟨cg.mk' Tryz.underlying195 (by kernel_rfl)⟩
instance:dV Tryz.prog 195 [(0,1),(1,1)]:=⟨by kernel_rfl⟩
instance:bc Tryz.prog 196 true:=⟨_,Tryz.underlying196,rfl⟩
instance:ct Tryz.prog 196 2:=⟨by kernel_rfl⟩
instance:du Tryz.prog 196 (.agg #[(.slice none 0 0),(.int .i64 0)]):=⟨by kernel_rfl⟩
instance:aP Tryz.prog 196 0 0:=⟨cg.mk' Tryz.underlying196 (by kernel_rfl)⟩
instance:dV Tryz.prog 196 [(0,2)]:=⟨by kernel_rfl⟩
instance:bc Tryz.prog 197 true:=⟨_,Tryz.underlying197,rfl⟩
instance:ct Tryz.prog 197 2:=⟨by kernel_rfl⟩
instance:du Tryz.prog 197 (.agg #[(.slice none 0 0),(.int .i64 0)]):=⟨by kernel_rfl⟩
instance:aP Tryz.prog 197 0 0:=⟨cg.mk' Tryz.underlying197 (by kernel_rfl)⟩
instance:dV Tryz.prog 197 [(0,2)]:=⟨by kernel_rfl⟩
instance:dC Tryz.prog 204 (.slice 3):=⟨Tryz.underlying204⟩
instance:bc Tryz.prog 204 false:=⟨_,Tryz.underlying204,rfl⟩
instance:ct Tryz.prog 204 1:=⟨by kernel_rfl⟩
instance:du Tryz.prog 204 (.slice none 0 0):=⟨by kernel_rfl⟩
instance:rm Tryz.prog 204 3 1 8:=⟨TI.mk' Tryz.underlying204 (by kernel_rfl)⟩
instance:dC Tryz.prog 213 (.array 16 128):=⟨Tryz.underlying213⟩
instance:bc Tryz.prog 213 true:=⟨_,Tryz.underlying213,rfl⟩
instance:ct Tryz.prog 213 16:=⟨by kernel_rfl⟩
instance:du Tryz.prog 213 (.agg #[(.slice none 0 0),(.slice none 0 0),(.slice none 0 0),(.slice none 0 0),(.slice none 0 0),(.slice none 0 0),(.slice none 0 0),(.slice none 0 0),(.slice none 0 0),(.slice none 0 0),(.slice none 0 0),(.slice none 0 0),(.slice none 0 0),(.slice none 0 0),(.slice none 0 0),(.slice none 0 0)]):=⟨by kernel_rfl⟩
instance:dC Tryz.prog 214 (.array 16 128):=⟨Tryz.underlying214⟩
instance:bc Tryz.prog 214 true:=⟨_,Tryz.underlying214,rfl⟩
instance:ct Tryz.prog 214 16:=⟨by kernel_rfl⟩
instance:du Tryz.prog 214 (.agg #[(.slice none 0 0),(.slice none 0 0),(.slice none 0 0),(.slice none 0 0),(.slice none 0 0),(.slice none 0 0),(.slice none 0 0),(.slice none 0 0),(.slice none 0 0),(.slice none 0 0),(.slice none 0 0),(.slice none 0 0),(.slice none 0 0),(.slice none 0 0),(.slice none 0 0),(.slice none 0 0)]):=⟨by kernel_rfl⟩
instance:dC Tryz.prog 231 (.int .u64):=⟨Tryz.underlying231⟩
instance:bc Tryz.prog 231 false:=⟨_,Tryz.underlying231,rfl⟩
instance:ct Tryz.prog 231 1:=⟨by kernel_rfl⟩
instance:du Tryz.prog 231 (.int .u64 0):=⟨by kernel_rfl⟩
instance:dC Tryz.prog 234 (.pointer 195):=⟨Tryz.underlying234⟩
instance:bc Tryz.prog 234 false:=⟨_,Tryz.underlying234,rfl⟩
instance:ct Tryz.prog 234 1:=⟨by kernel_rfl⟩
instance:du Tryz.prog 234 (.pointer none):=⟨by kernel_rfl⟩
instance:dC Tryz.prog 253 (.int .i64):=⟨Tryz.underlying253⟩
instance:bc Tryz.prog 253 false:=⟨_,Tryz.underlying253,rfl⟩
instance:ct Tryz.prog 253 1:=⟨by kernel_rfl⟩
instance:du Tryz.prog 253 (.int .i64 0):=⟨by kernel_rfl⟩
instance:dC Tryz.prog 261 (.int .u32):=⟨Tryz.underlying261⟩
instance:bc Tryz.prog 261 false:=⟨_,Tryz.underlying261,rfl⟩
instance:ct Tryz.prog 261 1:=⟨by kernel_rfl⟩
instance:du Tryz.prog 261 (.int .u32 0):=⟨by kernel_rfl⟩
instance:dC Tryz.prog 283 (.int .u64):=⟨Tryz.underlying283⟩
instance:bc Tryz.prog 283 false:=⟨_,Tryz.underlying283,rfl⟩
instance:ct Tryz.prog 283 1:=⟨by kernel_rfl⟩
instance:du Tryz.prog 283 (.int .u64 0):=⟨by kernel_rfl⟩
instance:dC Tryz.prog 287 (.pointer 3):=⟨Tryz.underlying287⟩
instance:bc Tryz.prog 287 false:=⟨_,Tryz.underlying287,rfl⟩
instance:ct Tryz.prog 287 1:=⟨by kernel_rfl⟩
instance:du Tryz.prog 287 (.pointer none):=⟨by kernel_rfl⟩
instance:dC Tryz.prog 295 (.slice 43):=⟨Tryz.underlying295⟩
instance:bc Tryz.prog 295 false:=⟨_,Tryz.underlying295,rfl⟩
instance:ct Tryz.prog 295 1:=⟨by kernel_rfl⟩
instance:du Tryz.prog 295 (.slice none 0 0):=⟨by kernel_rfl⟩
instance:rm Tryz.prog 295 43 1 24:=⟨TI.mk' Tryz.underlying295 (by kernel_rfl)⟩
instance:dC Tryz.prog 296 (.pointer 283):=⟨Tryz.underlying296⟩
instance:bc Tryz.prog 296 false:=⟨_,Tryz.underlying296,rfl⟩
instance:ct Tryz.prog 296 1:=⟨by kernel_rfl⟩
instance:du Tryz.prog 296 (.pointer none):=⟨by kernel_rfl⟩
instance:bc Tryz.prog 310 true:=⟨_,Tryz.underlying310,rfl⟩
instance:ct Tryz.prog 310 4:=⟨by kernel_rfl⟩
instance:du Tryz.prog 310 (.agg #[(.pointer none),(.pointer none),(.pointer none),(.string ⟨#[]⟩)]):=⟨by kernel_rfl⟩
instance:dC Tryz.prog 312 (.array 0 16):=⟨Tryz.underlying312⟩
instance:bc Tryz.prog 312 true:=⟨_,Tryz.underlying312,rfl⟩
instance:ct Tryz.prog 312 0:=⟨by kernel_rfl⟩
instance:du Tryz.prog 312 (.agg #[]):=⟨by kernel_rfl⟩
instance:bc Tryz.prog 313 true:=⟨_,Tryz.underlying313,rfl⟩
instance:ct Tryz.prog 313 0:=⟨by kernel_rfl⟩
instance:du Tryz.prog 313 (.agg #[]):=⟨by kernel_rfl⟩
instance:dC Tryz.prog 318 (.pointer 5):=⟨Tryz.underlying318⟩
instance:bc Tryz.prog 318 false:=⟨_,Tryz.underlying318,rfl⟩
instance:ct Tryz.prog 318 1:=⟨by kernel_rfl⟩
instance:du Tryz.prog 318 (.pointer none):=⟨by kernel_rfl⟩
instance:bc Tryz.prog 321 true:=⟨_,Tryz.underlying321,rfl⟩
instance:ct Tryz.prog 321 11:=⟨by kernel_rfl⟩
instance:du Tryz.prog 321 (.agg #[(.int .u64 0),(.int .u64 0),(.int .u32 0),(.int .u8 0),(.int .u8 0),(.int .u8 0),(.int .u8 0),.nilFunc,(.pointer none),(.int .i32 0),(.int .i32 0)]):=⟨by kernel_rfl⟩
instance:aP Tryz.prog 321 0 0:=⟨cg.mk' Tryz.underlying321 (by kernel_rfl)⟩
instance:aP Tryz.prog 321 1 1:=⟨cg.mk' Tryz.underlying321 (by kernel_rfl)⟩
instance:aP Tryz.prog 321 2 2:=⟨cg.mk' Tryz.underlying321 (by kernel_rfl)⟩
instance:aP Tryz.prog 321 3 3:=⟨cg.mk' Tryz.underlying321 (by kernel_rfl)⟩
instance:aP Tryz.prog 321 4 4:=⟨cg.mk' Tryz.underlying321 (by kernel_rfl)⟩
instance:aP Tryz.prog 321 5 5:=⟨cg.mk' Tryz.underlying321 (by kernel_rfl)⟩
instance:aP Tryz.prog 321 6 6:=⟨cg.mk' Tryz.underlying321 (by kernel_rfl)⟩
instance:aP Tryz.prog 321 7 7:=⟨cg.mk' Tryz.underlying321 (by kernel_rfl)⟩
instance:aP Tryz.prog 321 8 8:=⟨cg.mk' Tryz.underlying321 (by kernel_rfl)⟩
instance:aP Tryz.prog 321 9 9:=⟨cg.mk' Tryz.underlying321 (by kernel_rfl)⟩
instance:aP Tryz.prog 321 10 10:=⟨cg.mk' Tryz.underlying321 (by kernel_rfl)⟩
instance:dV Tryz.prog 321 [(0,1),(1,1),(2,1),(3,1),(4,1),(5,1),(6,1),(7,1),(8,1),(9,1),(10,1)]:=⟨by kernel_rfl⟩
theorem dm:Tryz.prog.follows .mixedOrders = true:=by kernel_rfl
end Go.Proofs.YtembiemaiacdfaaGreat
