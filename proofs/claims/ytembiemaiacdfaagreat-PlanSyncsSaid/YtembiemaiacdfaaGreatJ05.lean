/- Texts joined: Sq AbsG Tab. -/
import Derived.Test.YtembiemaiacdfaaGreatJ04
import Derived.Test.YtembiemaiacdfaaGreatProg
import Derived.Test.YtembiemaiacdfaaGreatJ03
set_option maxRecDepth 10000
set_option maxHeartbeats 8000000
namespace Go.Proofs.YtembiemaiacdfaaGreat
open Go.RowKit
section
variable {P:Program} {f:FuncId} {fn:Func} {body:Code} {As:List Cnt} {n:Nat} {S:St} {e:Exit} {rv rv':ResultVar} {r r':Ret} {pre post:List (Nat × Blk)} {c:Cnt}
theorem fi (hf:P.funcs[f]? = some fn) (hn:fn.ntmps = n) (h:AW P n body (fun e S=>(e = .ret ∨ e = .normal) ∧ kH P n fn S r) (DC As))
   (hb : fn.body = some body := by rfl) (hm : (fn.name == "runtime.NumGoroutine") = false := by kernel_rfl) (hl : As.length ≤ n := by exact Nat.le_of_ble_eq_true rfl) (h1 : Nat.ble n 1000 = true := by rfl) : Fn P f As r :=
 DD hf hb hm hn hl h h1
theorem fm (hf:P.funcs[f]? = some fn) (hn:fn.ntmps = n) (h:AW P n body (fun e S=>(e = .ret ∨ e = .normal) ∧ vB P n fn S c post) (D7 As pre))
   (hb : fn.body = some body := by rfl) (hm : (fn.name == "runtime.NumGoroutine") = false := by kernel_rfl) (hl : As.length ≤ n := by exact Nat.le_of_ble_eq_true rfl) (h1 : Nat.ble n 1000 = true := by rfl) : el P f As pre c post :=
 BJ hf hb hm hn hl h h1
theorem aQ (h:bQ P n S rv r) (hf:fn.results = #[rv]:=by rfl) (he:e = .ret ∨ e = .normal:=by first|exact .inl rfl|exact .inr rfl):(e = .ret ∨ e = .normal) ∧ kH P n fn S r:=⟨he,DW hf h⟩
theorem j8 (h:bQ P n S rv r) (h':bQ P n S rv' r') (hf:fn.results = #[rv,rv']:=by rfl) (he:e = .ret ∨ e = .normal:=by first|exact .inl rfl|exact .inr rfl):(e = .ret ∨ e = .normal) ∧ kH P n fn S (.tup2 r r'):=⟨he,ve hf h h'⟩
end
end Go.Proofs.YtembiemaiacdfaaGreat
namespace Go.Proofs.YtembiemaiacdfaaGreat
open Go.RowKit
variable {P:Program} {n:Nat} {ops:Array Oper} {o:Oper} {F:List Nat} {S T:St} {t:Nat}
theorem ag {j tg:Nat} {want b:Bool} {c:Cnt} {bk:Upd} (hg:o.guard = some (j,want)) (hj:(ops[j]?).bind (·.dst) = some tg) (htg:Nat.blt tg n = true)
   (hb:S.get tg = bC b) (hw:b = want) (h:an n P ops { o with guard:=none } F c bk S):an n P ops o (2 * tg :: F) c bk S:=by
 refine ⟨?_⟩
 intro C T hA a w ⟨g,hR⟩
 have hv:a.tmps.getD tg undef = .bool b:=by
   have:=hR.slots tg
   rw [hA.1 tg (by simp),hb] at this;exact this
 have hy:=ip (ops:=ops) hj hv (by rw [hR.tsz];exact Nat.le_of_ble_eq_true htg)
 unfold gj
 rw [if_pos (by simp [Region.wanted,hg,hy,hw,jj])]
 have hA':cE F T S:=⟨fun t h=>hA.1 t (by simp [h]),fun id h=>hA.2 id (by simp [h])⟩
 have:=h.run C T hA' a w ⟨g,hR⟩
 unfold gj at this
 rw [if_pos (by simp [Region.wanted])] at this
 exact this
theorem Kt {j tg:Nat} {want b:Bool} (hg:o.guard = some (j,want)) (hd:o.dst = some t) (ht:Nat.blt t n = true) (hj:(ops[j]?).bind (·.dst) = some tg) (htg:Nat.blt tg n = true)
   (hb:S.get tg = bC b) (hw:b = !want):an n P ops o [2 * tg] (.per (aq undef)) [] S:=by
 refine ⟨?_⟩
 intro C T hA a w ⟨g,hR⟩
 have hv:a.tmps.getD tg undef = .bool b:=by
   have:=hR.slots tg
   rw [hA.1 tg (by simp),hb] at this;exact this
 have hy:=ip (ops:=ops) hj hv (by rw [hR.tsz];exact Nat.le_of_ble_eq_true htg)
 have hdk:dOk n o.dst:=fun t' e=>by rw [hd] at e;cases e;exact Nat.le_of_ble_eq_true ht
 unfold gj
 rw [if_neg (by simp [Region.wanted,hg,hy,hw,jj])]
 exact ⟨g,hR.app0 (dJ.refl w) hdk rfl⟩
theorem El {j tg:Nat} {want:Bool} (hg:o.guard = some (j,want)) (hd:o.dst = some t) (ht:Nat.blt t n = true) (hj:(ops[j]?).bind (·.dst) = some tg) (htg:Nat.blt tg n = true)
   (hb:S.get tg = .per (aq undef)):an n P ops o [2 * tg] (.per (aq undef)) [] S:=by
 refine ⟨?_⟩
 intro C T hA a w ⟨g,hR⟩
 have hv:a.tmps.getD tg undef = undef:=by
   have:=hR.slots tg
   rw [hA.1 tg (by simp),hb] at this;exact this
 have hy:=ip (ops:=ops) hj hv (by rw [hR.tsz];exact Nat.le_of_ble_eq_true htg)
 have hdk:dOk n o.dst:=fun t' e=>by rw [hd] at e;cases e;exact Nat.le_of_ble_eq_true ht
 unfold gj
 rw [if_neg (by simp [Region.wanted,hg,hy,undef,jj])]
 exact ⟨g,hR.app0 (dJ.refl w) hdk rfl⟩
theorem sa {c x y:Operand} {b p:Bool} (hp:Pl n o t) (ho:o.op = .pick c x y) (hc:S.opd c = bC b) (hb:b = true) (hx:S.opd x = bC p):an n P ops o (ax c ++ ax x ++ ax y) (bC p) [] S:=by
 subst hb
 exact lu (p:=p) (q:=p) hp ho hc (fun _=>hx) (fun h=>by cases h)
theorem sb {c x y:Operand} {b p:Bool} (hp:Pl n o t) (ho:o.op = .pick c x y) (hc:S.opd c = bC b) (hb:b = false) (hy:S.opd y = bC p):an n P ops o (ax c ++ ax x ++ ax y) (bC p) [] S:=by
 subst hb
 exact lu (p:=p) (q:=p) hp ho hc (fun h=>by cases h) (fun _=>hy)
theorem Em {ty ty':TypeId} {x y:Operand} {k:IntKind} {u v:Int} (hp:Pl n o t) (ho:o.op = .call { callee:=.builtin .max,args:=#[x,y],argTypes:=#[ty,ty'] }) (hx:S.opd x = iC k u) (hy:S.opd y = iC k v) :
   an n P ops o (ax x ++ ax y) (iC k (if v > u then v else u)) [] S:=
 aP hp fun C T g a w hA hR=>by
   have h1:=aW (x:=x) hA (fun k h=>by simp [h]) hR hx
   have h2:=aW (x:=y) hA (fun k h=>by simp [h]) hR hy
   refine ⟨.int k (if v > u then v else u),?_,rfl⟩
   simp only [execOp,ho,resolve,invoke,builtin,Sem.run_bind,Sem.run_pure,Result.andThen_ok,List.map_toArray,List.map_cons,List.map_nil,h1,h2,run_max_int2]
theorem Ku {ty ty':TypeId} {x y:Operand} {k:IntKind} {u v:Int} (hp:Pl n o t) (ho:o.op = .call { callee:=.builtin .min,args:=#[x,y],argTypes:=#[ty,ty'] }) (hx:S.opd x = iC k u) (hy:S.opd y = iC k v) :
   an n P ops o (ax x ++ ax y) (iC k (if v < u then v else u)) [] S:=
 aP hp fun C T g a w hA hR=>by
   have h1:=aW (x:=x) hA (fun k h=>by simp [h]) hR hx
   have h2:=aW (x:=y) hA (fun k h=>by simp [h]) hR hy
   refine ⟨.int k (if v < u then v else u),?_,rfl⟩
   simp only [execOp,ho,resolve,invoke,builtin,Sem.run_bind,Sem.run_pure,Result.andThen_ok,List.map_toArray,List.map_cons,List.map_nil,h1,h2,run_min_int2]
end Go.Proofs.YtembiemaiacdfaaGreat
namespace Go.Proofs.YtembiemaiacdfaaGreat
open Go.RowKit
instance:fK Tryz.prog 3 (.int .i64):=⟨Tryz.underlying3⟩
instance:dx Tryz.prog 3 false:=⟨_,Tryz.underlying3,rfl⟩
instance:gI Tryz.prog 3 1:=⟨by kernel_rfl⟩
instance:lW Tryz.prog 3 (.int .i64 0):=⟨by kernel_rfl⟩
instance:dx Tryz.prog 4 false:=⟨_,Tryz.underlying4,rfl⟩
instance:gI Tryz.prog 4 1:=⟨by kernel_rfl⟩
instance:lW Tryz.prog 4 (.bool false):=⟨by kernel_rfl⟩
instance:fK Tryz.prog 5 (.int .u8):=⟨Tryz.underlying5⟩
instance:dx Tryz.prog 5 false:=⟨_,Tryz.underlying5,rfl⟩
instance:gI Tryz.prog 5 1:=⟨by kernel_rfl⟩
instance:lW Tryz.prog 5 (.int .u8 0):=⟨by kernel_rfl⟩
instance:fK Tryz.prog 9 .string:=⟨Tryz.underlying9⟩
instance:dx Tryz.prog 9 false:=⟨_,Tryz.underlying9,rfl⟩
instance:gI Tryz.prog 9 1:=⟨by kernel_rfl⟩
instance:lW Tryz.prog 9 (.string ⟨#[]⟩):=⟨by kernel_rfl⟩
instance:fK Tryz.prog 22 (.slice 82):=⟨Tryz.underlying22⟩
instance:dx Tryz.prog 22 false:=⟨_,Tryz.underlying22,rfl⟩
instance:gI Tryz.prog 22 1:=⟨by kernel_rfl⟩
instance:lW Tryz.prog 22 (.slice none 0 0):=⟨by kernel_rfl⟩
instance:rZ Tryz.prog 22 82 3 40:=⟨TI.mk' Tryz.underlying22 (by kernel_rfl)⟩
instance:fK Tryz.prog 23 (.slice 61):=⟨Tryz.underlying23⟩
instance:dx Tryz.prog 23 false:=⟨_,Tryz.underlying23,rfl⟩
instance:gI Tryz.prog 23 1:=⟨by kernel_rfl⟩
instance:lW Tryz.prog 23 (.slice none 0 0):=⟨by kernel_rfl⟩
instance:rZ Tryz.prog 23 61 7 72:=⟨TI.mk' Tryz.underlying23 (by kernel_rfl)⟩
instance:fK Tryz.prog 24 (.slice 110):=⟨Tryz.underlying24⟩
instance:dx Tryz.prog 24 false:=⟨_,Tryz.underlying24,rfl⟩
instance:gI Tryz.prog 24 1:=⟨by kernel_rfl⟩
instance:lW Tryz.prog 24 (.slice none 0 0):=⟨by kernel_rfl⟩
instance:rZ Tryz.prog 24 110 4 64:=⟨TI.mk' Tryz.underlying24 (by kernel_rfl)⟩
instance:dx Tryz.prog 26 true:=⟨_,Tryz.underlying26,rfl⟩
instance:gI Tryz.prog 26 5:=⟨by kernel_rfl⟩
instance:lW Tryz.prog 26 (.agg #[(.int .i64 0),(.slice none 0 0),(.slice none 0 0),(.slice none 0 0),(.int .i64 0)]):=⟨by kernel_rfl⟩
instance:cF Tryz.prog 26 0 0:=⟨fO.mk' Tryz.underlying26 (by kernel_rfl)⟩
instance:cF Tryz.prog 26 1 1:=⟨fO.mk' Tryz.underlying26 (by kernel_rfl)⟩
instance:cF Tryz.prog 26 2 2:=⟨fO.mk' Tryz.underlying26 (by kernel_rfl)⟩
instance:cF Tryz.prog 26 3 3:=⟨fO.mk' Tryz.underlying26 (by kernel_rfl)⟩
instance:cF Tryz.prog 26 4 4:=⟨fO.mk' Tryz.underlying26 (by kernel_rfl)⟩
instance:kz Tryz.prog 26 [(0,1),(1,1),(2,1),(3,1),(4,1)]:=⟨by kernel_rfl⟩
instance:fK Tryz.prog 31 (.slice 23):=⟨Tryz.underlying31⟩
instance:dx Tryz.prog 31 false:=⟨_,Tryz.underlying31,rfl⟩
instance:rZ Tryz.prog 31 23 1 24:=⟨TI.mk' Tryz.underlying31 (by kernel_rfl)⟩
instance:dx Tryz.prog 33 true:=⟨_,Tryz.underlying33,rfl⟩
instance:gI Tryz.prog 33 2:=⟨by kernel_rfl⟩
instance:lW Tryz.prog 33 (.agg #[(.slice none 0 0),(.slice none 0 0)]):=⟨by kernel_rfl⟩
instance:cF Tryz.prog 33 0 0:=⟨fO.mk' Tryz.underlying33 (by kernel_rfl)⟩
instance:cF Tryz.prog 33 1 1:=⟨fO.mk' Tryz.underlying33 (by kernel_rfl)⟩
instance:kz Tryz.prog 33 [(0,1),(1,1)]:=⟨by kernel_rfl⟩
instance:dx Tryz.prog 34 false:=⟨_,Tryz.underlying34,rfl⟩
instance:gI Tryz.prog 34 1:=⟨by kernel_rfl⟩
instance:fK Tryz.prog 37 (.pointer 153):=⟨Tryz.underlying37⟩
instance:dx Tryz.prog 37 false:=⟨_,Tryz.underlying37,rfl⟩
instance:dx Tryz.prog 39 true:=⟨_,Tryz.underlying39,rfl⟩
instance:gI Tryz.prog 39 5:=⟨by kernel_rfl⟩
instance:lW Tryz.prog 39 (.agg #[(.slice none 0 0),(.slice none 0 0),(.int .i64 0),(.slice none 0 0),(.pointer none)]):=⟨by kernel_rfl⟩
instance:cF Tryz.prog 39 0 0:=⟨fO.mk' Tryz.underlying39 (by kernel_rfl)⟩
instance:cF Tryz.prog 39 1 1:=⟨fO.mk' Tryz.underlying39 (by kernel_rfl)⟩
instance:cF Tryz.prog 39 2 2:=⟨fO.mk' Tryz.underlying39 (by kernel_rfl)⟩
instance:cF Tryz.prog 39 3 3:=⟨fO.mk' Tryz.underlying39 (by kernel_rfl)⟩
instance:cF Tryz.prog 39 4 4:=⟨fO.mk' Tryz.underlying39 (by kernel_rfl)⟩
instance:kz Tryz.prog 39 [(0,1),(1,1),(2,1),(3,1),(4,1)]:=⟨by kernel_rfl⟩
instance:fK Tryz.prog 43 (.slice 5):=⟨Tryz.underlying43⟩
instance:dx Tryz.prog 43 false:=⟨_,Tryz.underlying43,rfl⟩
instance:gI Tryz.prog 43 1:=⟨by kernel_rfl⟩
instance:lW Tryz.prog 43 (.slice none 0 0):=⟨by kernel_rfl⟩
instance:rZ Tryz.prog 43 5 1 1:=⟨TI.mk' Tryz.underlying43 (by kernel_rfl)⟩
instance:dx Tryz.prog 45 true:=⟨_,Tryz.underlying45,rfl⟩
instance:gI Tryz.prog 45 5:=⟨by kernel_rfl⟩
instance:cF Tryz.prog 45 0 0:=⟨fO.mk' Tryz.underlying45 (by kernel_rfl)⟩
instance:cF Tryz.prog 45 1 1:=⟨fO.mk' Tryz.underlying45 (by kernel_rfl)⟩
instance:cF Tryz.prog 45 2 2:=⟨fO.mk' Tryz.underlying45 (by kernel_rfl)⟩
instance:cF Tryz.prog 45 3 3:=⟨fO.mk' Tryz.underlying45 (by kernel_rfl)⟩
instance:cF Tryz.prog 45 4 4:=⟨fO.mk' Tryz.underlying45 (by kernel_rfl)⟩
instance:fK Tryz.prog 47 (.slice 4):=⟨Tryz.underlying47⟩
instance:dx Tryz.prog 47 false:=⟨_,Tryz.underlying47,rfl⟩
instance:rZ Tryz.prog 47 4 1 1:=⟨TI.mk' Tryz.underlying47 (by kernel_rfl)⟩
instance:fK Tryz.prog 48 (.int .u64):=⟨Tryz.underlying48⟩
instance:dx Tryz.prog 48 false:=⟨_,Tryz.underlying48,rfl⟩
instance:dx Tryz.prog 50 true:=⟨_,Tryz.underlying50,rfl⟩
instance:gI Tryz.prog 50 3:=⟨by kernel_rfl⟩
instance:lW Tryz.prog 50 (.agg #[(.slice none 0 0),(.int .i64 0),(.int .u64 0)]):=⟨by kernel_rfl⟩
instance:cF Tryz.prog 50 0 0:=⟨fO.mk' Tryz.underlying50 (by kernel_rfl)⟩
instance:cF Tryz.prog 50 1 1:=⟨fO.mk' Tryz.underlying50 (by kernel_rfl)⟩
instance:cF Tryz.prog 50 2 2:=⟨fO.mk' Tryz.underlying50 (by kernel_rfl)⟩
instance:kz Tryz.prog 50 [(0,1),(1,1),(2,1)]:=⟨by kernel_rfl⟩
instance:dx Tryz.prog 52 true:=⟨_,Tryz.underlying52,rfl⟩
instance:gI Tryz.prog 52 7:=⟨by kernel_rfl⟩
instance:lW Tryz.prog 52 (.agg #[(.slice none 0 0),(.slice none 0 0),(.int .i64 0),(.slice none 0 0),(.slice none 0 0),(.int .i64 0),(.int .u64 0)]):=⟨by kernel_rfl⟩
instance:kz Tryz.prog 52 [(0,1),(1,1),(2,1),(3,1),(4,3)]:=⟨by kernel_rfl⟩
instance:dx Tryz.prog 59 true:=⟨_,Tryz.underlying59,rfl⟩
instance:gI Tryz.prog 59 2:=⟨by kernel_rfl⟩
instance:lW Tryz.prog 59 (.agg #[(.int .i64 0),(.int .i64 0)]):=⟨by kernel_rfl⟩
instance:cF Tryz.prog 59 0 0:=⟨fO.mk' Tryz.underlying59 (by kernel_rfl)⟩
instance:cF Tryz.prog 59 1 1:=⟨fO.mk' Tryz.underlying59 (by kernel_rfl)⟩
instance:kz Tryz.prog 59 [(0,1),(1,1)]:=⟨by kernel_rfl⟩
instance:dx Tryz.prog 61 true:=⟨_,Tryz.underlying61,rfl⟩
instance:gI Tryz.prog 61 7:=⟨by kernel_rfl⟩
instance:lW Tryz.prog 61 (.agg #[(.string ⟨#[]⟩),(.int .i64 0),(.int .i64 0),(.int .i64 0),(.int .i64 0),(.bool false),(.string ⟨#[]⟩)]):=⟨by kernel_rfl⟩
instance:cF Tryz.prog 61 0 0:=⟨fO.mk' Tryz.underlying61 (by kernel_rfl)⟩
instance:cF Tryz.prog 61 1 1:=⟨fO.mk' Tryz.underlying61 (by kernel_rfl)⟩
instance:cF Tryz.prog 61 2 3:=⟨fO.mk' Tryz.underlying61 (by kernel_rfl)⟩
instance:cF Tryz.prog 61 3 4:=⟨fO.mk' Tryz.underlying61 (by kernel_rfl)⟩
instance:cF Tryz.prog 61 4 5:=⟨fO.mk' Tryz.underlying61 (by kernel_rfl)⟩
instance:cF Tryz.prog 61 5 6:=⟨fO.mk' Tryz.underlying61 (by kernel_rfl)⟩
instance:kz Tryz.prog 61 [(0,1),(1,2),(3,1),(4,1),(5,1),(6,1)]:=⟨by kernel_rfl⟩
instance:dx Tryz.prog 82 true:=⟨_,Tryz.underlying82,rfl⟩
instance:gI Tryz.prog 82 3:=⟨by kernel_rfl⟩
instance:lW Tryz.prog 82 (.agg #[(.string ⟨#[]⟩),(.string ⟨#[]⟩),(.bool false)]):=⟨by kernel_rfl⟩
instance:cF Tryz.prog 82 0 0:=⟨fO.mk' Tryz.underlying82 (by kernel_rfl)⟩
instance:cF Tryz.prog 82 1 1:=⟨fO.mk' Tryz.underlying82 (by kernel_rfl)⟩
instance:cF Tryz.prog 82 2 2:=⟨fO.mk' Tryz.underlying82 (by kernel_rfl)⟩
instance:kz Tryz.prog 82 [(0,1),(1,1),(2,1)]:=⟨by kernel_rfl⟩
instance:fK Tryz.prog 108 (.slice 130):=⟨Tryz.underlying108⟩
instance:dx Tryz.prog 108 false:=⟨_,Tryz.underlying108,rfl⟩
instance:rZ Tryz.prog 108 130 2 32:=⟨TI.mk' Tryz.underlying108 (by kernel_rfl)⟩
instance:dx Tryz.prog 110 true:=⟨_,Tryz.underlying110,rfl⟩
instance:gI Tryz.prog 110 4:=⟨by kernel_rfl⟩
instance:lW Tryz.prog 110 (.agg #[(.string ⟨#[]⟩),(.string ⟨#[]⟩),(.bool false),(.slice none 0 0)]):=⟨by kernel_rfl⟩
instance:cF Tryz.prog 110 0 0:=⟨fO.mk' Tryz.underlying110 (by kernel_rfl)⟩
instance:cF Tryz.prog 110 1 3:=⟨fO.mk' Tryz.underlying110 (by kernel_rfl)⟩
instance:kz Tryz.prog 110 [(0,3),(3,1)]:=⟨by kernel_rfl⟩
instance:fK Tryz.prog 128 (.slice 132):=⟨Tryz.underlying128⟩
instance:dx Tryz.prog 128 false:=⟨_,Tryz.underlying128,rfl⟩
instance:gI Tryz.prog 128 1:=⟨by kernel_rfl⟩
instance:rZ Tryz.prog 128 132 2 16:=⟨TI.mk' Tryz.underlying128 (by kernel_rfl)⟩
instance:dx Tryz.prog 130 true:=⟨_,Tryz.underlying130,rfl⟩
instance:gI Tryz.prog 130 2:=⟨by kernel_rfl⟩
instance:lW Tryz.prog 130 (.agg #[(.int .i64 0),(.slice none 0 0)]):=⟨by kernel_rfl⟩
instance:cF Tryz.prog 130 0 0:=⟨fO.mk' Tryz.underlying130 (by kernel_rfl)⟩
instance:cF Tryz.prog 130 1 1:=⟨fO.mk' Tryz.underlying130 (by kernel_rfl)⟩
instance:kz Tryz.prog 130 [(0,1),(1,1)]:=⟨by kernel_rfl⟩
instance:dx Tryz.prog 132 true:=⟨_,Tryz.underlying132,rfl⟩
instance:gI Tryz.prog 132 2:=⟨by kernel_rfl⟩
instance:lW Tryz.prog 132 (.agg #[(.int .i64 0),(.int .i64 0)]):=⟨by kernel_rfl⟩
instance:cF Tryz.prog 132 0 0:=⟨fO.mk' Tryz.underlying132 (by kernel_rfl)⟩
instance:cF Tryz.prog 132 1 1:=⟨fO.mk' Tryz.underlying132 (by kernel_rfl)⟩
instance:kz Tryz.prog 132 [(0,1),(1,1)]:=⟨by kernel_rfl⟩
instance:fK Tryz.prog 139 (.slice 9):=⟨Tryz.underlying139⟩
instance:rZ Tryz.prog 139 9 1 16:=⟨TI.mk' Tryz.underlying139 (by kernel_rfl)⟩
instance:fK Tryz.prog 146 (.pointer 197):=⟨Tryz.underlying146⟩
instance:lW Tryz.prog 153 (.agg #[(.int .i64 0),(.int .i64 0),(.int .u64 0),(.slice none 0 0)]):=⟨by kernel_rfl⟩
instance:cF Tryz.prog 153 0 0:=⟨fO.mk' Tryz.underlying153 (by kernel_rfl)⟩
instance:cF Tryz.prog 153 1 1:=⟨fO.mk' Tryz.underlying153 (by kernel_rfl)⟩
instance:cF Tryz.prog 153 2 2:=⟨fO.mk' Tryz.underlying153 (by kernel_rfl)⟩
instance:cF Tryz.prog 153 3 3:=⟨fO.mk' Tryz.underlying153 (by kernel_rfl)⟩
instance:kz Tryz.prog 153 [(0,1),(1,1),(2,1),(3,1)]:=⟨by kernel_rfl⟩
instance:lW Tryz.prog 156 (.agg #[(.slice none 0 0),(.int .i64 0),(.int .i64 0)]):=⟨by kernel_rfl⟩
instance:cF Tryz.prog 156 0 0:=⟨fO.mk' Tryz.underlying156 (by kernel_rfl)⟩
instance:cF Tryz.prog 156 1 1:=⟨fO.mk' Tryz.underlying156 (by kernel_rfl)⟩
instance:cF Tryz.prog 156 2 2:=⟨fO.mk' Tryz.underlying156 (by kernel_rfl)⟩
instance:kz Tryz.prog 156 [(0,1),(1,1),(2,1)]:=⟨by kernel_rfl⟩
instance:fK Tryz.prog 170 (.slice 59):=⟨Tryz.underlying170⟩
instance:rZ Tryz.prog 170 59 2 16:=⟨TI.mk' Tryz.underlying170 (by kernel_rfl)⟩
instance:fK Tryz.prog 172 (.slice 24):=⟨Tryz.underlying172⟩
instance:rZ Tryz.prog 172 24 1 24:=⟨TI.mk' Tryz.underlying172 (by kernel_rfl)⟩
instance:fK Tryz.prog 182 (.slice 185):=⟨Tryz.underlying182⟩
instance:rZ Tryz.prog 182 185 8 80:=⟨TI.mk' Tryz.underlying182 (by kernel_rfl)⟩
instance:dx Tryz.prog 185 true:=⟨_,Tryz.underlying185,rfl⟩
instance:gI Tryz.prog 185 8:=⟨by kernel_rfl⟩
instance:lW Tryz.prog 185 (.agg #[(.string ⟨#[]⟩),(.int .i64 0),(.int .i64 0),(.int .i64 0),(.int .i64 0),(.bool false),(.string ⟨#[]⟩),(.int .i64 0)]):=⟨by kernel_rfl⟩
instance:cF Tryz.prog 185 0 0:=⟨fO.mk' Tryz.underlying185 (by kernel_rfl)⟩
instance:cF Tryz.prog 185 1 7:=⟨fO.mk' Tryz.underlying185 (by kernel_rfl)⟩
instance:kz Tryz.prog 185 [(0,7),(7,1)]:=⟨by kernel_rfl⟩
instance:lW Tryz.prog 195 (.agg #[(.slice none 0 0),(.int .i64 0)]):=⟨by kernel_rfl⟩
instance:cF Tryz.prog 195 0 0:=⟨fO.mk' Tryz.underlying195 (by kernel_rfl)⟩
instance:cF Tryz.prog 195 1 1:=⟨fO.mk' Tryz.underlying195 (by kernel_rfl)⟩
instance:kz Tryz.prog 195 [(0,1),(1,1)]:=⟨by kernel_rfl⟩
instance:lW Tryz.prog 197 (.agg #[(.slice none 0 0),(.int .i64 0)]):=⟨by kernel_rfl⟩
instance:cF Tryz.prog 197 0 0:=⟨fO.mk' Tryz.underlying197 (by kernel_rfl)⟩
instance:kz Tryz.prog 197 [(0,2)]:=⟨by kernel_rfl⟩
instance:fK Tryz.prog 204 (.slice 3):=⟨Tryz.underlying204⟩
instance:rZ Tryz.prog 204 3 1 8:=⟨TI.mk' Tryz.underlying204 (by kernel_rfl)⟩
instance:fK Tryz.prog 214 (.array 16 128):=⟨Tryz.underlying214⟩
instance:dx Tryz.prog 214 true:=⟨_,Tryz.underlying214,rfl⟩
instance:gI Tryz.prog 214 16:=⟨by kernel_rfl⟩
instance:lW Tryz.prog 214 (.agg #[(.slice none 0 0),(.slice none 0 0),(.slice none 0 0),(.slice none 0 0),(.slice none 0 0),(.slice none 0 0),(.slice none 0 0),(.slice none 0 0),(.slice none 0 0),(.slice none 0 0),(.slice none 0 0),(.slice none 0 0),(.slice none 0 0),(.slice none 0 0),(.slice none 0 0),(.slice none 0 0)]):=⟨by kernel_rfl⟩
instance:fK Tryz.prog 231 (.int .u64):=⟨Tryz.underlying231⟩
instance:fK Tryz.prog 234 (.pointer 195):=⟨Tryz.underlying234⟩
instance:rZ Tryz.prog 295 43 1 24:=⟨TI.mk' Tryz.underlying295 (by kernel_rfl)⟩
theorem dX:Tryz.prog.follows .mixedOrders = true:=by kernel_rfl
end Go.Proofs.YtembiemaiacdfaaGreat
