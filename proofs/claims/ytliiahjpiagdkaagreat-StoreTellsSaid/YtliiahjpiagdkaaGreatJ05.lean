/- Texts joined: Sq AbsG Tab AbsT. -/
import Derived.Test.YtliiahjpiagdkaaGreatJ04
import Derived.Test.YtliiahjpiagdkaaGreatProg
import Derived.Test.YtliiahjpiagdkaaGreatJ03
set_option maxRecDepth 10000
set_option maxHeartbeats 8000000
namespace Go.Proofs.YtliiahjpiagdkaaGreat
open Go.RowKit
section
variable {P:Program} {f:FuncId} {fn:Func} {body:Code} {As:List Cnt} {n:Nat} {S:St} {e:Exit} {rv rv':ResultVar} {r r':Ret} {pre post:List (Nat × Blk)} {c:Cnt}
theorem fi (hf:P.funcs[f]? = some fn) (hn:fn.ntmps = n) (h:AW P n body (fun e S=>(e = .ret ∨ e = .normal) ∧ ql P n fn S r) (FR As))
 (hb : fn.body = some body := by rfl) (hm : (fn.name == "runtime.NumGoroutine") = false := by kernel_rfl) (hl : As.length ≤ n := by exact Nat.le_of_ble_eq_true rfl) (h1 : Nat.ble n 1000 = true := by rfl) : Fn P f As r :=
 FS hf hb hm hn hl h h1
theorem eR (hf:P.funcs[f]? = some fn) (hn:fn.ntmps = n) (h:AW P n body (fun e S=>(e = .ret ∨ e = .normal) ∧ rL P n fn S c post) (Gk As pre))
 (hb : fn.body = some body := by rfl) (hm : (fn.name == "runtime.NumGoroutine") = false := by kernel_rfl) (hl : As.length ≤ n := by exact Nat.le_of_ble_eq_true rfl) (h1 : Nat.ble n 1000 = true := by rfl) : de P f As pre c post :=
 DN hf hb hm hn hl h h1
theorem aU (h:cM P n S rv r) (hf:fn.results = #[rv]:=by rfl) (he:e = .ret ∨ e = .normal:=by first|exact .inl rfl|exact .inr rfl):(e = .ret ∨ e = .normal) ∧ ql P n fn S r:=⟨he,Ah hf h⟩
theorem im (h:cM P n S rv r) (h':cM P n S rv' r') (hf:fn.results = #[rv,rv']:=by rfl) (he:e = .ret ∨ e = .normal:=by first|exact .inl rfl|exact .inr rfl):(e = .ret ∨ e = .normal) ∧ ql P n fn S (.tup2 r r'):=⟨he,P3 hf h h'⟩
variable {c' c'':Cnt} {rv'':ResultVar}
theorem qn (hf:fn.results = #[]:=by rfl) (he:e = .ret ∨ e = .normal:=by first|exact .inl rfl|exact .inr rfl) (hp:aW S [(1000,1000)] post:=by repeat (first|exact aW.nil|refine aW.cons rfl (by rfl) ?_)):(e = .ret ∨ e = .normal) ∧ rL P n fn S .any post:=⟨he,Cp [(1000,1000)] hf rfl hp⟩
theorem P5 (h:Al P n S [(1000,1000)] rv c) (h':Al P n S [(1000,1000)] rv' c') (hf:fn.results = #[rv,rv']:=by rfl) (he:e = .ret ∨ e = .normal:=by first|exact .inl rfl|exact .inr rfl) (hp:aW S [(1000,1000)] post:=by repeat (first|exact aW.nil|refine aW.cons rfl (by rfl) ?_)):(e = .ret ∨ e = .normal) ∧ rL P n fn S (.tup2 c c') post:=⟨he,oy [(1000,1000)] hf rfl hp h h'⟩
end
end Go.Proofs.YtliiahjpiagdkaaGreat
namespace Go.Proofs.YtliiahjpiagdkaaGreat
open Go.RowKit
variable {P:Program} {n:Nat} {ops:Array Oper} {o:Oper} {F:List Nat} {S T:St} {t:Nat}
theorem ah {j tg:Nat} {want b:Bool} {c:Cnt} {bk:Upd} (hg:o.guard = some (j,want)) (hj:(ops[j]?).bind (·.dst) = some tg) (htg:Nat.blt tg n = true)
 (hb:S.get tg = bC b) (hw:b = want) (h:aw n P ops { o with guard:=none } F c bk S):aw n P ops o (2 * tg :: F) c bk S:=by
 refine ⟨?_⟩
 intro C T hA a w ⟨g,hR⟩
 have hv:a.tmps.getD tg undef = .bool b:=by
  have:=hR.slots tg
  rw [hA.1 tg (by simp),hb] at this;exact this
 have hy:=ja (ops:=ops) hj hv (by rw [hR.tsz];exact Nat.le_of_ble_eq_true htg)
 unfold ia
 rw [if_pos (by simp [Region.wanted,hg,hy,hw,jD])]
 have hA':dd F T S:=⟨fun t h=>hA.1 t (by simp [h]),fun id h=>hA.2 id (by simp [h])⟩
 have:=h.run C T hA' a w ⟨g,hR⟩
 unfold ia at this
 rw [if_pos (by simp [Region.wanted])] at this
 exact this
theorem Nt {j tg:Nat} {want b:Bool} (hg:o.guard = some (j,want)) (hd:o.dst = some t) (ht:Nat.blt t n = true) (hj:(ops[j]?).bind (·.dst) = some tg) (htg:Nat.blt tg n = true)
 (hb:S.get tg = bC b) (hw:b = !want):aw n P ops o [2 * tg] (.per (av undef)) [] S:=by
 refine ⟨?_⟩
 intro C T hA a w ⟨g,hR⟩
 have hv:a.tmps.getD tg undef = .bool b:=by
  have:=hR.slots tg
  rw [hA.1 tg (by simp),hb] at this;exact this
 have hy:=ja (ops:=ops) hj hv (by rw [hR.tsz];exact Nat.le_of_ble_eq_true htg)
 have hdk:dOk n o.dst:=fun t' e=>by rw [hd] at e;cases e;exact Nat.le_of_ble_eq_true ht
 unfold ia
 rw [if_neg (by simp [Region.wanted,hg,hy,hw,jD])]
 exact ⟨g,hR.app0 (bw.refl w) hdk rfl⟩
theorem GG {j tg:Nat} {want:Bool} (hg:o.guard = some (j,want)) (hd:o.dst = some t) (ht:Nat.blt t n = true) (hj:(ops[j]?).bind (·.dst) = some tg) (htg:Nat.blt tg n = true)
 (hb:S.get tg = .per (av undef)):aw n P ops o [2 * tg] (.per (av undef)) [] S:=by
 refine ⟨?_⟩
 intro C T hA a w ⟨g,hR⟩
 have hv:a.tmps.getD tg undef = undef:=by
  have:=hR.slots tg
  rw [hA.1 tg (by simp),hb] at this;exact this
 have hy:=ja (ops:=ops) hj hv (by rw [hR.tsz];exact Nat.le_of_ble_eq_true htg)
 have hdk:dOk n o.dst:=fun t' e=>by rw [hd] at e;cases e;exact Nat.le_of_ble_eq_true ht
 unfold ia
 rw [if_neg (by simp [Region.wanted,hg,hy,undef,jD])]
 exact ⟨g,hR.app0 (bw.refl w) hdk rfl⟩
theorem ur {c x y:Operand} {b p:Bool} (hp:Pl n o t) (ho:o.op = .pick c x y) (hc:S.opd c = bC b) (hb:b = true) (hx:S.opd x = bC p):aw n P ops o (aA c ++ aA x ++ aA y) (bC p) [] S:=by
 subst hb
 exact mC (p:=p) (q:=p) hp ho hc (fun _=>hx) (fun h=>by cases h)
theorem ut {c x y:Operand} {b p:Bool} (hp:Pl n o t) (ho:o.op = .pick c x y) (hc:S.opd c = bC b) (hb:b = false) (hy:S.opd y = bC p):aw n P ops o (aA c ++ aA x ++ aA y) (bC p) [] S:=by
 subst hb
 exact mC (p:=p) (q:=p) hp ho hc (fun h=>by cases h) (fun _=>hy)
theorem GH {ty ty':TypeId} {x y:Operand} {k:IntKind} {u v:Int} (hp:Pl n o t) (ho:o.op = .call { callee:=.builtin .max,args:=#[x,y],argTypes:=#[ty,ty'] }) (hx:S.opd x = iC k u) (hy:S.opd y = iC k v) :
 aw n P ops o (aA x ++ aA y) (iC k (if v > u then v else u)) [] S:=
 aM hp fun C T g a w hA hR=>by
  have h1:=aV (x:=x) hA (fun k h=>by simp [h]) hR hx
  have h2:=aV (x:=y) hA (fun k h=>by simp [h]) hR hy
  refine ⟨.int k (if v > u then v else u),?_,rfl⟩
  simp only [execOp,ho,resolve,invoke,builtin,Sem.run_bind,Sem.run_pure,Result.andThen_ok,List.map_toArray,List.map_cons,List.map_nil,h1,h2,run_max_int2]
theorem Nu {ty ty':TypeId} {x y:Operand} {k:IntKind} {u v:Int} (hp:Pl n o t) (ho:o.op = .call { callee:=.builtin .min,args:=#[x,y],argTypes:=#[ty,ty'] }) (hx:S.opd x = iC k u) (hy:S.opd y = iC k v) :
 aw n P ops o (aA x ++ aA y) (iC k (if v < u then v else u)) [] S:=
 aM hp fun C T g a w hA hR=>by
  have h1:=aV (x:=x) hA (fun k h=>by simp [h]) hR hx
  have h2:=aV (x:=y) hA (fun k h=>by simp [h]) hR hy
  refine ⟨.int k (if v < u then v else u),?_,rfl⟩
  simp only [execOp,ho,resolve,invoke,builtin,Sem.run_bind,Sem.run_pure,Result.andThen_ok,List.map_toArray,List.map_cons,List.map_nil,h1,h2,run_min_int2]
end Go.Proofs.YtliiahjpiagdkaaGreat
namespace Go.Proofs.YtliiahjpiagdkaaGreat
open Go.RowKit
instance:dQ Tryz.prog 2 (.int .i64):=⟨Tryz.underlying2⟩
instance:bD Tryz.prog 2 false:=⟨_,Tryz.underlying2,rfl⟩
instance:cT Tryz.prog 2 1:=⟨by kernel_rfl⟩
instance:dY Tryz.prog 2 (.int .i64 0):=⟨by kernel_rfl⟩
instance:dQ Tryz.prog 3 (.int .i64):=⟨Tryz.underlying3⟩
instance:bD Tryz.prog 3 false:=⟨_,Tryz.underlying3,rfl⟩
instance:cT Tryz.prog 3 1:=⟨by kernel_rfl⟩
instance:dY Tryz.prog 3 (.int .i64 0):=⟨by kernel_rfl⟩
instance:dQ Tryz.prog 4 .bool:=⟨Tryz.underlying4⟩
instance:bD Tryz.prog 4 false:=⟨_,Tryz.underlying4,rfl⟩
instance:cT Tryz.prog 4 1:=⟨by kernel_rfl⟩
instance:dY Tryz.prog 4 (.bool false):=⟨by kernel_rfl⟩
instance:dQ Tryz.prog 5 (.int .u8):=⟨Tryz.underlying5⟩
instance:bD Tryz.prog 5 false:=⟨_,Tryz.underlying5,rfl⟩
instance:cT Tryz.prog 5 1:=⟨by kernel_rfl⟩
instance:dY Tryz.prog 5 (.int .u8 0):=⟨by kernel_rfl⟩
instance:bD Tryz.prog 7 true:=⟨_,Tryz.underlying7,rfl⟩
instance:cT Tryz.prog 7 4:=⟨by kernel_rfl⟩
instance:dY Tryz.prog 7 (.agg #[(.int .i64 0),(.int .i64 0),(.bool false),(.int .u8 0)]):=⟨by kernel_rfl⟩
instance:dQ Tryz.prog 9 .string:=⟨Tryz.underlying9⟩
instance:bD Tryz.prog 9 false:=⟨_,Tryz.underlying9,rfl⟩
instance:cT Tryz.prog 9 1:=⟨by kernel_rfl⟩
instance:dY Tryz.prog 9 (.string ⟨#[]⟩):=⟨by kernel_rfl⟩
instance:dQ Tryz.prog 12 (.int .u64):=⟨Tryz.underlying12⟩
instance:bD Tryz.prog 12 false:=⟨_,Tryz.underlying12,rfl⟩
instance:cT Tryz.prog 12 1:=⟨by kernel_rfl⟩
instance:dY Tryz.prog 12 (.int .u64 0):=⟨by kernel_rfl⟩
instance:bD Tryz.prog 13 true:=⟨_,Tryz.underlying13,rfl⟩
instance:cT Tryz.prog 13 2:=⟨by kernel_rfl⟩
instance:dY Tryz.prog 13 (.agg #[(.string ⟨#[]⟩),(.int .u64 0)]):=⟨by kernel_rfl⟩
instance:dQ Tryz.prog 15 (.pointer 292):=⟨Tryz.underlying15⟩
instance:bD Tryz.prog 15 false:=⟨_,Tryz.underlying15,rfl⟩
instance:cT Tryz.prog 15 1:=⟨by kernel_rfl⟩
instance:dY Tryz.prog 15 (.pointer none):=⟨by kernel_rfl⟩
instance:dQ Tryz.prog 16 (.pointer 295):=⟨Tryz.underlying16⟩
instance:bD Tryz.prog 16 false:=⟨_,Tryz.underlying16,rfl⟩
instance:cT Tryz.prog 16 1:=⟨by kernel_rfl⟩
instance:dY Tryz.prog 16 (.pointer none):=⟨by kernel_rfl⟩
instance:dQ Tryz.prog 17 (.pointer 303):=⟨Tryz.underlying17⟩
instance:bD Tryz.prog 17 false:=⟨_,Tryz.underlying17,rfl⟩
instance:cT Tryz.prog 17 1:=⟨by kernel_rfl⟩
instance:dY Tryz.prog 17 (.pointer none):=⟨by kernel_rfl⟩
instance:bD Tryz.prog 18 true:=⟨_,Tryz.underlying18,rfl⟩
instance:cT Tryz.prog 18 1:=⟨by kernel_rfl⟩
instance:dY Tryz.prog 18 (.agg #[(.pointer none)]):=⟨by kernel_rfl⟩
instance:dQ Tryz.prog 21 (.int .i32):=⟨Tryz.underlying21⟩
instance:bD Tryz.prog 21 false:=⟨_,Tryz.underlying21,rfl⟩
instance:cT Tryz.prog 21 1:=⟨by kernel_rfl⟩
instance:dY Tryz.prog 21 (.int .i32 0):=⟨by kernel_rfl⟩
instance:dQ Tryz.prog 22 (.slice 50):=⟨Tryz.underlying22⟩
instance:bD Tryz.prog 22 false:=⟨_,Tryz.underlying22,rfl⟩
instance:cT Tryz.prog 22 1:=⟨by kernel_rfl⟩
instance:dY Tryz.prog 22 (.slice none 0 0):=⟨by kernel_rfl⟩
instance:vy Tryz.prog 22 50 3 40:=⟨TI.mk' Tryz.underlying22 (by kernel_rfl)⟩
instance:dQ Tryz.prog 23 (.slice 41):=⟨Tryz.underlying23⟩
instance:bD Tryz.prog 23 false:=⟨_,Tryz.underlying23,rfl⟩
instance:cT Tryz.prog 23 1:=⟨by kernel_rfl⟩
instance:dY Tryz.prog 23 (.slice none 0 0):=⟨by kernel_rfl⟩
instance:vy Tryz.prog 23 41 7 72:=⟨TI.mk' Tryz.underlying23 (by kernel_rfl)⟩
instance:dQ Tryz.prog 24 (.slice 66):=⟨Tryz.underlying24⟩
instance:bD Tryz.prog 24 false:=⟨_,Tryz.underlying24,rfl⟩
instance:cT Tryz.prog 24 1:=⟨by kernel_rfl⟩
instance:dY Tryz.prog 24 (.slice none 0 0):=⟨by kernel_rfl⟩
instance:vy Tryz.prog 24 66 4 64:=⟨TI.mk' Tryz.underlying24 (by kernel_rfl)⟩
instance:bD Tryz.prog 25 true:=⟨_,Tryz.underlying25,rfl⟩
instance:cT Tryz.prog 25 5:=⟨by kernel_rfl⟩
instance:dY Tryz.prog 25 (.agg #[(.int .i64 0),(.slice none 0 0),(.slice none 0 0),(.slice none 0 0),(.int .i64 0)]):=⟨by kernel_rfl⟩
instance:bf Tryz.prog 25 0 0:=⟨cF.mk' Tryz.underlying25 (by kernel_rfl)⟩
instance:bf Tryz.prog 25 1 1:=⟨cF.mk' Tryz.underlying25 (by kernel_rfl)⟩
instance:bf Tryz.prog 25 2 2:=⟨cF.mk' Tryz.underlying25 (by kernel_rfl)⟩
instance:bf Tryz.prog 25 3 3:=⟨cF.mk' Tryz.underlying25 (by kernel_rfl)⟩
instance:bf Tryz.prog 25 4 4:=⟨cF.mk' Tryz.underlying25 (by kernel_rfl)⟩
instance:ft Tryz.prog 25 [(0,1),(1,1),(2,1),(3,1),(4,1)]:=⟨by kernel_rfl⟩
instance:bD Tryz.prog 26 true:=⟨_,Tryz.underlying26,rfl⟩
instance:cT Tryz.prog 26 5:=⟨by kernel_rfl⟩
instance:dY Tryz.prog 26 (.agg #[(.int .i64 0),(.slice none 0 0),(.slice none 0 0),(.slice none 0 0),(.int .i64 0)]):=⟨by kernel_rfl⟩
instance:bf Tryz.prog 26 0 0:=⟨cF.mk' Tryz.underlying26 (by kernel_rfl)⟩
instance:bf Tryz.prog 26 1 1:=⟨cF.mk' Tryz.underlying26 (by kernel_rfl)⟩
instance:bf Tryz.prog 26 2 2:=⟨cF.mk' Tryz.underlying26 (by kernel_rfl)⟩
instance:bf Tryz.prog 26 3 3:=⟨cF.mk' Tryz.underlying26 (by kernel_rfl)⟩
instance:bf Tryz.prog 26 4 4:=⟨cF.mk' Tryz.underlying26 (by kernel_rfl)⟩
instance:ft Tryz.prog 26 [(0,1),(1,1),(2,1),(3,1),(4,1)]:=⟨by kernel_rfl⟩
instance:dQ Tryz.prog 27 (.slice 63):=⟨Tryz.underlying27⟩
instance:bD Tryz.prog 27 false:=⟨_,Tryz.underlying27,rfl⟩
instance:cT Tryz.prog 27 1:=⟨by kernel_rfl⟩
instance:dY Tryz.prog 27 (.slice none 0 0):=⟨by kernel_rfl⟩
instance:vy Tryz.prog 27 63 6 96:=⟨TI.mk' Tryz.underlying27 (by kernel_rfl)⟩
instance:bD Tryz.prog 28 true:=⟨_,Tryz.underlying28,rfl⟩
instance:cT Tryz.prog 28 4:=⟨by kernel_rfl⟩
instance:dY Tryz.prog 28 (.agg #[(.slice none 0 0),(.slice none 0 0),(.string ⟨#[]⟩),(.int .u8 0)]):=⟨by kernel_rfl⟩
instance:bf Tryz.prog 28 0 0:=⟨cF.mk' Tryz.underlying28 (by kernel_rfl)⟩
instance:bf Tryz.prog 28 1 1:=⟨cF.mk' Tryz.underlying28 (by kernel_rfl)⟩
instance:bf Tryz.prog 28 2 2:=⟨cF.mk' Tryz.underlying28 (by kernel_rfl)⟩
instance:bf Tryz.prog 28 3 3:=⟨cF.mk' Tryz.underlying28 (by kernel_rfl)⟩
instance:ft Tryz.prog 28 [(0,1),(1,1),(2,1),(3,1)]:=⟨by kernel_rfl⟩
instance:bD Tryz.prog 29 true:=⟨_,Tryz.underlying29,rfl⟩
instance:cT Tryz.prog 29 4:=⟨by kernel_rfl⟩
instance:dY Tryz.prog 29 (.agg #[(.slice none 0 0),(.slice none 0 0),(.string ⟨#[]⟩),(.int .u8 0)]):=⟨by kernel_rfl⟩
instance:bf Tryz.prog 29 0 0:=⟨cF.mk' Tryz.underlying29 (by kernel_rfl)⟩
instance:bf Tryz.prog 29 1 1:=⟨cF.mk' Tryz.underlying29 (by kernel_rfl)⟩
instance:bf Tryz.prog 29 2 2:=⟨cF.mk' Tryz.underlying29 (by kernel_rfl)⟩
instance:bf Tryz.prog 29 3 3:=⟨cF.mk' Tryz.underlying29 (by kernel_rfl)⟩
instance:ft Tryz.prog 29 [(0,1),(1,1),(2,1),(3,1)]:=⟨by kernel_rfl⟩
instance:dQ Tryz.prog 35 (.pointer 76):=⟨Tryz.underlying35⟩
instance:bD Tryz.prog 35 false:=⟨_,Tryz.underlying35,rfl⟩
instance:cT Tryz.prog 35 1:=⟨by kernel_rfl⟩
instance:dY Tryz.prog 35 (.pointer none):=⟨by kernel_rfl⟩
instance:bD Tryz.prog 38 true:=⟨_,Tryz.underlying38,rfl⟩
instance:cT Tryz.prog 38 2:=⟨by kernel_rfl⟩
instance:dY Tryz.prog 38 (.agg #[(.int .i64 0),(.int .i64 0)]):=⟨by kernel_rfl⟩
instance:bf Tryz.prog 38 0 0:=⟨cF.mk' Tryz.underlying38 (by kernel_rfl)⟩
instance:bf Tryz.prog 38 1 1:=⟨cF.mk' Tryz.underlying38 (by kernel_rfl)⟩
instance:ft Tryz.prog 38 [(0,1),(1,1)]:=⟨by kernel_rfl⟩
instance:bD Tryz.prog 39 true:=⟨_,Tryz.underlying39,rfl⟩
instance:cT Tryz.prog 39 2:=⟨by kernel_rfl⟩
instance:dY Tryz.prog 39 (.agg #[(.int .i64 0),(.int .i64 0)]):=⟨by kernel_rfl⟩
instance:bf Tryz.prog 39 0 0:=⟨cF.mk' Tryz.underlying39 (by kernel_rfl)⟩
instance:bf Tryz.prog 39 1 1:=⟨cF.mk' Tryz.underlying39 (by kernel_rfl)⟩
instance:ft Tryz.prog 39 [(0,1),(1,1)]:=⟨by kernel_rfl⟩
instance:bD Tryz.prog 40 true:=⟨_,Tryz.underlying40,rfl⟩
instance:cT Tryz.prog 40 7:=⟨by kernel_rfl⟩
instance:dY Tryz.prog 40 (.agg #[(.string ⟨#[]⟩),(.int .i64 0),(.int .i64 0),(.int .i64 0),(.int .i64 0),(.bool false),(.string ⟨#[]⟩)]):=⟨by kernel_rfl⟩
instance:bf Tryz.prog 40 0 0:=⟨cF.mk' Tryz.underlying40 (by kernel_rfl)⟩
instance:bf Tryz.prog 40 1 1:=⟨cF.mk' Tryz.underlying40 (by kernel_rfl)⟩
instance:bf Tryz.prog 40 2 3:=⟨cF.mk' Tryz.underlying40 (by kernel_rfl)⟩
instance:bf Tryz.prog 40 3 4:=⟨cF.mk' Tryz.underlying40 (by kernel_rfl)⟩
instance:bf Tryz.prog 40 4 5:=⟨cF.mk' Tryz.underlying40 (by kernel_rfl)⟩
instance:bf Tryz.prog 40 5 6:=⟨cF.mk' Tryz.underlying40 (by kernel_rfl)⟩
instance:ft Tryz.prog 40 [(0,1),(1,2),(3,1),(4,1),(5,1),(6,1)]:=⟨by kernel_rfl⟩
instance:bD Tryz.prog 41 true:=⟨_,Tryz.underlying41,rfl⟩
instance:cT Tryz.prog 41 7:=⟨by kernel_rfl⟩
instance:dY Tryz.prog 41 (.agg #[(.string ⟨#[]⟩),(.int .i64 0),(.int .i64 0),(.int .i64 0),(.int .i64 0),(.bool false),(.string ⟨#[]⟩)]):=⟨by kernel_rfl⟩
instance:bf Tryz.prog 41 0 0:=⟨cF.mk' Tryz.underlying41 (by kernel_rfl)⟩
instance:bf Tryz.prog 41 1 1:=⟨cF.mk' Tryz.underlying41 (by kernel_rfl)⟩
instance:bf Tryz.prog 41 2 3:=⟨cF.mk' Tryz.underlying41 (by kernel_rfl)⟩
instance:bf Tryz.prog 41 3 4:=⟨cF.mk' Tryz.underlying41 (by kernel_rfl)⟩
instance:bf Tryz.prog 41 4 5:=⟨cF.mk' Tryz.underlying41 (by kernel_rfl)⟩
instance:bf Tryz.prog 41 5 6:=⟨cF.mk' Tryz.underlying41 (by kernel_rfl)⟩
instance:ft Tryz.prog 41 [(0,1),(1,2),(3,1),(4,1),(5,1),(6,1)]:=⟨by kernel_rfl⟩
instance:bD Tryz.prog 49 true:=⟨_,Tryz.underlying49,rfl⟩
instance:cT Tryz.prog 49 3:=⟨by kernel_rfl⟩
instance:dY Tryz.prog 49 (.agg #[(.string ⟨#[]⟩),(.string ⟨#[]⟩),(.bool false)]):=⟨by kernel_rfl⟩
instance:bf Tryz.prog 49 0 0:=⟨cF.mk' Tryz.underlying49 (by kernel_rfl)⟩
instance:bf Tryz.prog 49 1 1:=⟨cF.mk' Tryz.underlying49 (by kernel_rfl)⟩
instance:bf Tryz.prog 49 2 2:=⟨cF.mk' Tryz.underlying49 (by kernel_rfl)⟩
instance:ft Tryz.prog 49 [(0,1),(1,1),(2,1)]:=⟨by kernel_rfl⟩
instance:bD Tryz.prog 50 true:=⟨_,Tryz.underlying50,rfl⟩
instance:cT Tryz.prog 50 3:=⟨by kernel_rfl⟩
instance:dY Tryz.prog 50 (.agg #[(.string ⟨#[]⟩),(.string ⟨#[]⟩),(.bool false)]):=⟨by kernel_rfl⟩
instance:bf Tryz.prog 50 0 0:=⟨cF.mk' Tryz.underlying50 (by kernel_rfl)⟩
instance:bf Tryz.prog 50 1 1:=⟨cF.mk' Tryz.underlying50 (by kernel_rfl)⟩
instance:bf Tryz.prog 50 2 2:=⟨cF.mk' Tryz.underlying50 (by kernel_rfl)⟩
instance:ft Tryz.prog 50 [(0,1),(1,1),(2,1)]:=⟨by kernel_rfl⟩
instance:dQ Tryz.prog 51 (.int .u64):=⟨Tryz.underlying51⟩
instance:bD Tryz.prog 51 false:=⟨_,Tryz.underlying51,rfl⟩
instance:cT Tryz.prog 51 1:=⟨by kernel_rfl⟩
instance:dY Tryz.prog 51 (.int .u64 0):=⟨by kernel_rfl⟩
instance:dQ Tryz.prog 55 (.int .i64):=⟨Tryz.underlying55⟩
instance:bD Tryz.prog 55 false:=⟨_,Tryz.underlying55,rfl⟩
instance:cT Tryz.prog 55 1:=⟨by kernel_rfl⟩
instance:dY Tryz.prog 55 (.int .i64 0):=⟨by kernel_rfl⟩
instance:bD Tryz.prog 62 true:=⟨_,Tryz.underlying62,rfl⟩
instance:cT Tryz.prog 62 6:=⟨by kernel_rfl⟩
instance:dY Tryz.prog 62 (.agg #[(.int .i64 0),(.string ⟨#[]⟩),(.int .i64 0),(.string ⟨#[]⟩),(.slice none 0 0),(.slice none 0 0)]):=⟨by kernel_rfl⟩
instance:bf Tryz.prog 62 0 0:=⟨cF.mk' Tryz.underlying62 (by kernel_rfl)⟩
instance:bf Tryz.prog 62 1 1:=⟨cF.mk' Tryz.underlying62 (by kernel_rfl)⟩
instance:bf Tryz.prog 62 2 2:=⟨cF.mk' Tryz.underlying62 (by kernel_rfl)⟩
instance:bf Tryz.prog 62 3 3:=⟨cF.mk' Tryz.underlying62 (by kernel_rfl)⟩
instance:bf Tryz.prog 62 4 4:=⟨cF.mk' Tryz.underlying62 (by kernel_rfl)⟩
instance:bf Tryz.prog 62 5 5:=⟨cF.mk' Tryz.underlying62 (by kernel_rfl)⟩
instance:ft Tryz.prog 62 [(0,1),(1,1),(2,1),(3,1),(4,1),(5,1)]:=⟨by kernel_rfl⟩
instance:bD Tryz.prog 63 true:=⟨_,Tryz.underlying63,rfl⟩
instance:cT Tryz.prog 63 6:=⟨by kernel_rfl⟩
instance:dY Tryz.prog 63 (.agg #[(.int .i64 0),(.string ⟨#[]⟩),(.int .i64 0),(.string ⟨#[]⟩),(.slice none 0 0),(.slice none 0 0)]):=⟨by kernel_rfl⟩
instance:bf Tryz.prog 63 0 0:=⟨cF.mk' Tryz.underlying63 (by kernel_rfl)⟩
instance:bf Tryz.prog 63 1 1:=⟨cF.mk' Tryz.underlying63 (by kernel_rfl)⟩
instance:bf Tryz.prog 63 2 2:=⟨cF.mk' Tryz.underlying63 (by kernel_rfl)⟩
instance:bf Tryz.prog 63 3 3:=⟨cF.mk' Tryz.underlying63 (by kernel_rfl)⟩
instance:bf Tryz.prog 63 4 4:=⟨cF.mk' Tryz.underlying63 (by kernel_rfl)⟩
instance:bf Tryz.prog 63 5 5:=⟨cF.mk' Tryz.underlying63 (by kernel_rfl)⟩
instance:ft Tryz.prog 63 [(0,1),(1,1),(2,1),(3,1),(4,1),(5,1)]:=⟨by kernel_rfl⟩
instance:dQ Tryz.prog 64 (.slice 95):=⟨Tryz.underlying64⟩
instance:bD Tryz.prog 64 false:=⟨_,Tryz.underlying64,rfl⟩
instance:cT Tryz.prog 64 1:=⟨by kernel_rfl⟩
instance:dY Tryz.prog 64 (.slice none 0 0):=⟨by kernel_rfl⟩
instance:vy Tryz.prog 64 95 2 32:=⟨TI.mk' Tryz.underlying64 (by kernel_rfl)⟩
instance:bD Tryz.prog 65 true:=⟨_,Tryz.underlying65,rfl⟩
instance:cT Tryz.prog 65 4:=⟨by kernel_rfl⟩
instance:dY Tryz.prog 65 (.agg #[(.string ⟨#[]⟩),(.string ⟨#[]⟩),(.bool false),(.slice none 0 0)]):=⟨by kernel_rfl⟩
instance:bf Tryz.prog 65 0 0:=⟨cF.mk' Tryz.underlying65 (by kernel_rfl)⟩
instance:bf Tryz.prog 65 1 3:=⟨cF.mk' Tryz.underlying65 (by kernel_rfl)⟩
instance:ft Tryz.prog 65 [(0,3),(3,1)]:=⟨by kernel_rfl⟩
instance:bD Tryz.prog 66 true:=⟨_,Tryz.underlying66,rfl⟩
instance:cT Tryz.prog 66 4:=⟨by kernel_rfl⟩
instance:dY Tryz.prog 66 (.agg #[(.string ⟨#[]⟩),(.string ⟨#[]⟩),(.bool false),(.slice none 0 0)]):=⟨by kernel_rfl⟩
instance:bf Tryz.prog 66 0 0:=⟨cF.mk' Tryz.underlying66 (by kernel_rfl)⟩
instance:bf Tryz.prog 66 1 3:=⟨cF.mk' Tryz.underlying66 (by kernel_rfl)⟩
instance:ft Tryz.prog 66 [(0,3),(3,1)]:=⟨by kernel_rfl⟩
instance:dQ Tryz.prog 71 (.pointer 121):=⟨Tryz.underlying71⟩
instance:bD Tryz.prog 71 false:=⟨_,Tryz.underlying71,rfl⟩
instance:cT Tryz.prog 71 1:=⟨by kernel_rfl⟩
instance:dY Tryz.prog 71 (.pointer none):=⟨by kernel_rfl⟩
instance:bD Tryz.prog 72 true:=⟨_,Tryz.underlying72,rfl⟩
instance:cT Tryz.prog 72 1:=⟨by kernel_rfl⟩
instance:dY Tryz.prog 72 (.agg #[(.pointer none)]):=⟨by kernel_rfl⟩
instance:bf Tryz.prog 72 0 0:=⟨cF.mk' Tryz.underlying72 (by kernel_rfl)⟩
instance:ft Tryz.prog 72 [(0,1)]:=⟨by kernel_rfl⟩
instance:bD Tryz.prog 73 true:=⟨_,Tryz.underlying73,rfl⟩
instance:cT Tryz.prog 73 1:=⟨by kernel_rfl⟩
instance:dY Tryz.prog 73 (.agg #[(.pointer none)]):=⟨by kernel_rfl⟩
instance:bf Tryz.prog 73 0 0:=⟨cF.mk' Tryz.underlying73 (by kernel_rfl)⟩
instance:ft Tryz.prog 73 [(0,1)]:=⟨by kernel_rfl⟩
instance:dQ Tryz.prog 74 (.pointer 130):=⟨Tryz.underlying74⟩
instance:bD Tryz.prog 74 false:=⟨_,Tryz.underlying74,rfl⟩
instance:cT Tryz.prog 74 1:=⟨by kernel_rfl⟩
instance:dY Tryz.prog 74 (.pointer none):=⟨by kernel_rfl⟩
instance:bD Tryz.prog 75 true:=⟨_,Tryz.underlying75,rfl⟩
instance:cT Tryz.prog 75 7:=⟨by kernel_rfl⟩
instance:dY Tryz.prog 75 (.agg #[(.pointer none),(.pointer none),(.int .i64 0),(.slice none 0 0),(.slice none 0 0),(.slice none 0 0),(.int .i64 0)]):=⟨by kernel_rfl⟩
instance:bf Tryz.prog 75 0 0:=⟨cF.mk' Tryz.underlying75 (by kernel_rfl)⟩
instance:bf Tryz.prog 75 1 1:=⟨cF.mk' Tryz.underlying75 (by kernel_rfl)⟩
instance:bf Tryz.prog 75 2 2:=⟨cF.mk' Tryz.underlying75 (by kernel_rfl)⟩
instance:ft Tryz.prog 75 [(0,1),(1,1),(2,5)]:=⟨by kernel_rfl⟩
instance:bD Tryz.prog 76 true:=⟨_,Tryz.underlying76,rfl⟩
instance:cT Tryz.prog 76 7:=⟨by kernel_rfl⟩
instance:dY Tryz.prog 76 (.agg #[(.pointer none),(.pointer none),(.int .i64 0),(.slice none 0 0),(.slice none 0 0),(.slice none 0 0),(.int .i64 0)]):=⟨by kernel_rfl⟩
instance:bf Tryz.prog 76 0 0:=⟨cF.mk' Tryz.underlying76 (by kernel_rfl)⟩
instance:bf Tryz.prog 76 1 1:=⟨cF.mk' Tryz.underlying76 (by kernel_rfl)⟩
instance:bf Tryz.prog 76 2 2:=⟨cF.mk' Tryz.underlying76 (by kernel_rfl)⟩
instance:ft Tryz.prog 76 [(0,1),(1,1),(2,5)]:=⟨by kernel_rfl⟩
instance:dQ Tryz.prog 93 (.slice 147):=⟨Tryz.underlying93⟩
instance:bD Tryz.prog 93 false:=⟨_,Tryz.underlying93,rfl⟩
instance:cT Tryz.prog 93 1:=⟨by kernel_rfl⟩
instance:dY Tryz.prog 93 (.slice none 0 0):=⟨by kernel_rfl⟩
instance:vy Tryz.prog 93 147 2 16:=⟨TI.mk' Tryz.underlying93 (by kernel_rfl)⟩
instance:bD Tryz.prog 94 true:=⟨_,Tryz.underlying94,rfl⟩
instance:cT Tryz.prog 94 2:=⟨by kernel_rfl⟩
instance:dY Tryz.prog 94 (.agg #[(.int .i64 0),(.slice none 0 0)]):=⟨by kernel_rfl⟩
instance:bf Tryz.prog 94 0 0:=⟨cF.mk' Tryz.underlying94 (by kernel_rfl)⟩
instance:bf Tryz.prog 94 1 1:=⟨cF.mk' Tryz.underlying94 (by kernel_rfl)⟩
instance:ft Tryz.prog 94 [(0,1),(1,1)]:=⟨by kernel_rfl⟩
instance:bD Tryz.prog 95 true:=⟨_,Tryz.underlying95,rfl⟩
instance:cT Tryz.prog 95 2:=⟨by kernel_rfl⟩
instance:dY Tryz.prog 95 (.agg #[(.int .i64 0),(.slice none 0 0)]):=⟨by kernel_rfl⟩
instance:bf Tryz.prog 95 0 0:=⟨cF.mk' Tryz.underlying95 (by kernel_rfl)⟩
instance:bf Tryz.prog 95 1 1:=⟨cF.mk' Tryz.underlying95 (by kernel_rfl)⟩
instance:ft Tryz.prog 95 [(0,1),(1,1)]:=⟨by kernel_rfl⟩
instance:dQ Tryz.prog 107 (.pointer 111):=⟨Tryz.underlying107⟩
instance:bD Tryz.prog 107 false:=⟨_,Tryz.underlying107,rfl⟩
instance:cT Tryz.prog 107 1:=⟨by kernel_rfl⟩
instance:dY Tryz.prog 107 (.pointer none):=⟨by kernel_rfl⟩
instance:bD Tryz.prog 110 true:=⟨_,Tryz.underlying110,rfl⟩
instance:cT Tryz.prog 110 13:=⟨by kernel_rfl⟩
instance:dY Tryz.prog 110 (.agg #[(.string ⟨#[]⟩),(.int .i64 0),(.int .i64 0),(.int .i64 0),(.int .i64 0),(.bool false),(.string ⟨#[]⟩),(.pointer none),(.pointer none),(.int .i64 0),(.int .i64 0),(.int .u64 0),(.int .u64 0)]):=⟨by kernel_rfl⟩
instance:bf Tryz.prog 110 0 0:=⟨cF.mk' Tryz.underlying110 (by kernel_rfl)⟩
instance:bf Tryz.prog 110 1 7:=⟨cF.mk' Tryz.underlying110 (by kernel_rfl)⟩
instance:bf Tryz.prog 110 2 8:=⟨cF.mk' Tryz.underlying110 (by kernel_rfl)⟩
instance:bf Tryz.prog 110 3 9:=⟨cF.mk' Tryz.underlying110 (by kernel_rfl)⟩
instance:bf Tryz.prog 110 4 10:=⟨cF.mk' Tryz.underlying110 (by kernel_rfl)⟩
instance:bf Tryz.prog 110 5 11:=⟨cF.mk' Tryz.underlying110 (by kernel_rfl)⟩
instance:bf Tryz.prog 110 6 12:=⟨cF.mk' Tryz.underlying110 (by kernel_rfl)⟩
instance:ft Tryz.prog 110 [(0,7),(7,1),(8,1),(9,1),(10,1),(11,1),(12,1)]:=⟨by kernel_rfl⟩
instance:bD Tryz.prog 111 true:=⟨_,Tryz.underlying111,rfl⟩
instance:cT Tryz.prog 111 13:=⟨by kernel_rfl⟩
instance:dY Tryz.prog 111 (.agg #[(.string ⟨#[]⟩),(.int .i64 0),(.int .i64 0),(.int .i64 0),(.int .i64 0),(.bool false),(.string ⟨#[]⟩),(.pointer none),(.pointer none),(.int .i64 0),(.int .i64 0),(.int .u64 0),(.int .u64 0)]):=⟨by kernel_rfl⟩
instance:bf Tryz.prog 111 0 0:=⟨cF.mk' Tryz.underlying111 (by kernel_rfl)⟩
instance:bf Tryz.prog 111 1 7:=⟨cF.mk' Tryz.underlying111 (by kernel_rfl)⟩
instance:bf Tryz.prog 111 2 8:=⟨cF.mk' Tryz.underlying111 (by kernel_rfl)⟩
instance:bf Tryz.prog 111 3 9:=⟨cF.mk' Tryz.underlying111 (by kernel_rfl)⟩
instance:bf Tryz.prog 111 4 10:=⟨cF.mk' Tryz.underlying111 (by kernel_rfl)⟩
instance:bf Tryz.prog 111 5 11:=⟨cF.mk' Tryz.underlying111 (by kernel_rfl)⟩
instance:bf Tryz.prog 111 6 12:=⟨cF.mk' Tryz.underlying111 (by kernel_rfl)⟩
instance:ft Tryz.prog 111 [(0,7),(7,1),(8,1),(9,1),(10,1),(11,1),(12,1)]:=⟨by kernel_rfl⟩
instance:bD Tryz.prog 120 true:=⟨_,Tryz.underlying120,rfl⟩
instance:cT Tryz.prog 120 3:=⟨by kernel_rfl⟩
instance:dY Tryz.prog 120 (.agg #[(.pointer none),(.int .u64 0),(.int .i64 0)]):=⟨by kernel_rfl⟩
instance:bf Tryz.prog 120 0 0:=⟨cF.mk' Tryz.underlying120 (by kernel_rfl)⟩
instance:bf Tryz.prog 120 1 1:=⟨cF.mk' Tryz.underlying120 (by kernel_rfl)⟩
instance:bf Tryz.prog 120 2 2:=⟨cF.mk' Tryz.underlying120 (by kernel_rfl)⟩
instance:ft Tryz.prog 120 [(0,1),(1,1),(2,1)]:=⟨by kernel_rfl⟩
instance:bD Tryz.prog 121 true:=⟨_,Tryz.underlying121,rfl⟩
instance:cT Tryz.prog 121 3:=⟨by kernel_rfl⟩
instance:dY Tryz.prog 121 (.agg #[(.pointer none),(.int .u64 0),(.int .i64 0)]):=⟨by kernel_rfl⟩
instance:bf Tryz.prog 121 0 0:=⟨cF.mk' Tryz.underlying121 (by kernel_rfl)⟩
instance:bf Tryz.prog 121 1 1:=⟨cF.mk' Tryz.underlying121 (by kernel_rfl)⟩
instance:bf Tryz.prog 121 2 2:=⟨cF.mk' Tryz.underlying121 (by kernel_rfl)⟩
instance:ft Tryz.prog 121 [(0,1),(1,1),(2,1)]:=⟨by kernel_rfl⟩
instance:dQ Tryz.prog 127 (.slice 140):=⟨Tryz.underlying127⟩
instance:bD Tryz.prog 127 false:=⟨_,Tryz.underlying127,rfl⟩
instance:cT Tryz.prog 127 1:=⟨by kernel_rfl⟩
instance:dY Tryz.prog 127 (.slice none 0 0):=⟨by kernel_rfl⟩
instance:vy Tryz.prog 127 140 2 24:=⟨TI.mk' Tryz.underlying127 (by kernel_rfl)⟩
instance:dQ Tryz.prog 128 (.array 16 127):=⟨Tryz.underlying128⟩
instance:bD Tryz.prog 128 true:=⟨_,Tryz.underlying128,rfl⟩
instance:cT Tryz.prog 128 16:=⟨by kernel_rfl⟩
instance:dY Tryz.prog 128 (.agg #[(.slice none 0 0),(.slice none 0 0),(.slice none 0 0),(.slice none 0 0),(.slice none 0 0),(.slice none 0 0),(.slice none 0 0),(.slice none 0 0),(.slice none 0 0),(.slice none 0 0),(.slice none 0 0),(.slice none 0 0),(.slice none 0 0),(.slice none 0 0),(.slice none 0 0),(.slice none 0 0)]):=⟨by kernel_rfl⟩
instance:bD Tryz.prog 129 true:=⟨_,Tryz.underlying129,rfl⟩
instance:cT Tryz.prog 129 17:=⟨by kernel_rfl⟩
instance:dY Tryz.prog 129 (.agg #[(.slice none 0 0),(.slice none 0 0),(.slice none 0 0),(.slice none 0 0),(.slice none 0 0),(.slice none 0 0),(.slice none 0 0),(.slice none 0 0),(.slice none 0 0),(.slice none 0 0),(.slice none 0 0),(.slice none 0 0),(.slice none 0 0),(.slice none 0 0),(.slice none 0 0),(.slice none 0 0),(.int .i64 0)]):=⟨by kernel_rfl⟩
instance:bf Tryz.prog 129 0 0:=⟨cF.mk' Tryz.underlying129 (by kernel_rfl)⟩
instance:bf Tryz.prog 129 1 16:=⟨cF.mk' Tryz.underlying129 (by kernel_rfl)⟩
instance:ft Tryz.prog 129 [(0,16),(16,1)]:=⟨by kernel_rfl⟩
instance:bD Tryz.prog 130 true:=⟨_,Tryz.underlying130,rfl⟩
instance:cT Tryz.prog 130 17:=⟨by kernel_rfl⟩
instance:dY Tryz.prog 130 (.agg #[(.slice none 0 0),(.slice none 0 0),(.slice none 0 0),(.slice none 0 0),(.slice none 0 0),(.slice none 0 0),(.slice none 0 0),(.slice none 0 0),(.slice none 0 0),(.slice none 0 0),(.slice none 0 0),(.slice none 0 0),(.slice none 0 0),(.slice none 0 0),(.slice none 0 0),(.slice none 0 0),(.int .i64 0)]):=⟨by kernel_rfl⟩
instance:bf Tryz.prog 130 0 0:=⟨cF.mk' Tryz.underlying130 (by kernel_rfl)⟩
instance:bf Tryz.prog 130 1 16:=⟨cF.mk' Tryz.underlying130 (by kernel_rfl)⟩
instance:ft Tryz.prog 130 [(0,16),(16,1)]:=⟨by kernel_rfl⟩
instance:bD Tryz.prog 139 true:=⟨_,Tryz.underlying139,rfl⟩
instance:cT Tryz.prog 139 2:=⟨by kernel_rfl⟩
instance:dY Tryz.prog 139 (.agg #[(.int .i64 0),(.string ⟨#[]⟩)]):=⟨by kernel_rfl⟩
instance:bf Tryz.prog 139 0 0:=⟨cF.mk' Tryz.underlying139 (by kernel_rfl)⟩
instance:bf Tryz.prog 139 1 1:=⟨cF.mk' Tryz.underlying139 (by kernel_rfl)⟩
instance:ft Tryz.prog 139 [(0,1),(1,1)]:=⟨by kernel_rfl⟩
instance:bD Tryz.prog 140 true:=⟨_,Tryz.underlying140,rfl⟩
instance:cT Tryz.prog 140 2:=⟨by kernel_rfl⟩
instance:dY Tryz.prog 140 (.agg #[(.int .i64 0),(.string ⟨#[]⟩)]):=⟨by kernel_rfl⟩
instance:bf Tryz.prog 140 0 0:=⟨cF.mk' Tryz.underlying140 (by kernel_rfl)⟩
instance:bf Tryz.prog 140 1 1:=⟨cF.mk' Tryz.underlying140 (by kernel_rfl)⟩
instance:ft Tryz.prog 140 [(0,1),(1,1)]:=⟨by kernel_rfl⟩
instance:bD Tryz.prog 146 true:=⟨_,Tryz.underlying146,rfl⟩
instance:cT Tryz.prog 146 2:=⟨by kernel_rfl⟩
instance:dY Tryz.prog 146 (.agg #[(.int .i64 0),(.int .i64 0)]):=⟨by kernel_rfl⟩
instance:bf Tryz.prog 146 0 0:=⟨cF.mk' Tryz.underlying146 (by kernel_rfl)⟩
instance:bf Tryz.prog 146 1 1:=⟨cF.mk' Tryz.underlying146 (by kernel_rfl)⟩
instance:ft Tryz.prog 146 [(0,1),(1,1)]:=⟨by kernel_rfl⟩
instance:bD Tryz.prog 147 true:=⟨_,Tryz.underlying147,rfl⟩
instance:cT Tryz.prog 147 2:=⟨by kernel_rfl⟩
instance:dY Tryz.prog 147 (.agg #[(.int .i64 0),(.int .i64 0)]):=⟨by kernel_rfl⟩
instance:bf Tryz.prog 147 0 0:=⟨cF.mk' Tryz.underlying147 (by kernel_rfl)⟩
instance:bf Tryz.prog 147 1 1:=⟨cF.mk' Tryz.underlying147 (by kernel_rfl)⟩
instance:ft Tryz.prog 147 [(0,1),(1,1)]:=⟨by kernel_rfl⟩
instance:dQ Tryz.prog 153 (.int .u64):=⟨Tryz.underlying153⟩
instance:bD Tryz.prog 153 false:=⟨_,Tryz.underlying153,rfl⟩
instance:cT Tryz.prog 153 1:=⟨by kernel_rfl⟩
instance:dY Tryz.prog 153 (.int .u64 0):=⟨by kernel_rfl⟩
instance:dQ Tryz.prog 159 (.slice 5):=⟨Tryz.underlying159⟩
instance:bD Tryz.prog 159 false:=⟨_,Tryz.underlying159,rfl⟩
instance:cT Tryz.prog 159 1:=⟨by kernel_rfl⟩
instance:dY Tryz.prog 159 (.slice none 0 0):=⟨by kernel_rfl⟩
instance:vy Tryz.prog 159 5 1 1:=⟨TI.mk' Tryz.underlying159 (by kernel_rfl)⟩
instance:dQ Tryz.prog 166 (.slice 9):=⟨Tryz.underlying166⟩
instance:bD Tryz.prog 166 false:=⟨_,Tryz.underlying166,rfl⟩
instance:cT Tryz.prog 166 1:=⟨by kernel_rfl⟩
instance:dY Tryz.prog 166 (.slice none 0 0):=⟨by kernel_rfl⟩
instance:vy Tryz.prog 166 9 1 16:=⟨TI.mk' Tryz.underlying166 (by kernel_rfl)⟩
instance:dQ Tryz.prog 171 (.slice 39):=⟨Tryz.underlying171⟩
instance:bD Tryz.prog 171 false:=⟨_,Tryz.underlying171,rfl⟩
instance:cT Tryz.prog 171 1:=⟨by kernel_rfl⟩
instance:dY Tryz.prog 171 (.slice none 0 0):=⟨by kernel_rfl⟩
instance:vy Tryz.prog 171 39 2 16:=⟨TI.mk' Tryz.underlying171 (by kernel_rfl)⟩
instance:dQ Tryz.prog 174 (.slice 23):=⟨Tryz.underlying174⟩
instance:bD Tryz.prog 174 false:=⟨_,Tryz.underlying174,rfl⟩
instance:cT Tryz.prog 174 1:=⟨by kernel_rfl⟩
instance:dY Tryz.prog 174 (.slice none 0 0):=⟨by kernel_rfl⟩
instance:vy Tryz.prog 174 23 1 24:=⟨TI.mk' Tryz.underlying174 (by kernel_rfl)⟩
instance:dQ Tryz.prog 177 (.slice 24):=⟨Tryz.underlying177⟩
instance:bD Tryz.prog 177 false:=⟨_,Tryz.underlying177,rfl⟩
instance:cT Tryz.prog 177 1:=⟨by kernel_rfl⟩
instance:dY Tryz.prog 177 (.slice none 0 0):=⟨by kernel_rfl⟩
instance:vy Tryz.prog 177 24 1 24:=⟨TI.mk' Tryz.underlying177 (by kernel_rfl)⟩
instance:dQ Tryz.prog 192 (.int .i64):=⟨Tryz.underlying192⟩
instance:bD Tryz.prog 192 false:=⟨_,Tryz.underlying192,rfl⟩
instance:cT Tryz.prog 192 1:=⟨by kernel_rfl⟩
instance:dY Tryz.prog 192 (.int .i64 0):=⟨by kernel_rfl⟩
instance:dQ Tryz.prog 199 (.int .u32):=⟨Tryz.underlying199⟩
instance:bD Tryz.prog 199 false:=⟨_,Tryz.underlying199,rfl⟩
instance:cT Tryz.prog 199 1:=⟨by kernel_rfl⟩
instance:dY Tryz.prog 199 (.int .u32 0):=⟨by kernel_rfl⟩
instance:dQ Tryz.prog 211 (.array 16 93):=⟨Tryz.underlying211⟩
instance:bD Tryz.prog 211 true:=⟨_,Tryz.underlying211,rfl⟩
instance:cT Tryz.prog 211 16:=⟨by kernel_rfl⟩
instance:dY Tryz.prog 211 (.agg #[(.slice none 0 0),(.slice none 0 0),(.slice none 0 0),(.slice none 0 0),(.slice none 0 0),(.slice none 0 0),(.slice none 0 0),(.slice none 0 0),(.slice none 0 0),(.slice none 0 0),(.slice none 0 0),(.slice none 0 0),(.slice none 0 0),(.slice none 0 0),(.slice none 0 0),(.slice none 0 0)]):=⟨by kernel_rfl⟩
instance:dQ Tryz.prog 212 (.array 16 93):=⟨Tryz.underlying212⟩
instance:bD Tryz.prog 212 true:=⟨_,Tryz.underlying212,rfl⟩
instance:cT Tryz.prog 212 16:=⟨by kernel_rfl⟩
instance:dY Tryz.prog 212 (.agg #[(.slice none 0 0),(.slice none 0 0),(.slice none 0 0),(.slice none 0 0),(.slice none 0 0),(.slice none 0 0),(.slice none 0 0),(.slice none 0 0),(.slice none 0 0),(.slice none 0 0),(.slice none 0 0),(.slice none 0 0),(.slice none 0 0),(.slice none 0 0),(.slice none 0 0),(.slice none 0 0)]):=⟨by kernel_rfl⟩
instance:dQ Tryz.prog 231 (.int .u64):=⟨Tryz.underlying231⟩
instance:bD Tryz.prog 231 false:=⟨_,Tryz.underlying231,rfl⟩
instance:cT Tryz.prog 231 1:=⟨by kernel_rfl⟩
instance:dY Tryz.prog 231 (.int .u64 0):=⟨by kernel_rfl⟩
instance:dQ Tryz.prog 234 (.pointer 3):=⟨Tryz.underlying234⟩
instance:bD Tryz.prog 234 false:=⟨_,Tryz.underlying234,rfl⟩
instance:cT Tryz.prog 234 1:=⟨by kernel_rfl⟩
instance:dY Tryz.prog 234 (.pointer none):=⟨by kernel_rfl⟩
instance:dQ Tryz.prog 238 (.slice 3):=⟨Tryz.underlying238⟩
instance:bD Tryz.prog 238 false:=⟨_,Tryz.underlying238,rfl⟩
instance:cT Tryz.prog 238 1:=⟨by kernel_rfl⟩
instance:dY Tryz.prog 238 (.slice none 0 0):=⟨by kernel_rfl⟩
instance:vy Tryz.prog 238 3 1 8:=⟨TI.mk' Tryz.underlying238 (by kernel_rfl)⟩
instance:dQ Tryz.prog 248 (.slice 159):=⟨Tryz.underlying248⟩
instance:bD Tryz.prog 248 false:=⟨_,Tryz.underlying248,rfl⟩
instance:cT Tryz.prog 248 1:=⟨by kernel_rfl⟩
instance:dY Tryz.prog 248 (.slice none 0 0):=⟨by kernel_rfl⟩
instance:vy Tryz.prog 248 159 1 24:=⟨TI.mk' Tryz.underlying248 (by kernel_rfl)⟩
instance:dQ Tryz.prog 254 (.pointer 231):=⟨Tryz.underlying254⟩
instance:bD Tryz.prog 254 false:=⟨_,Tryz.underlying254,rfl⟩
instance:cT Tryz.prog 254 1:=⟨by kernel_rfl⟩
instance:dY Tryz.prog 254 (.pointer none):=⟨by kernel_rfl⟩
instance:bD Tryz.prog 291 true:=⟨_,Tryz.underlying291,rfl⟩
instance:cT Tryz.prog 291 4:=⟨by kernel_rfl⟩
instance:dY Tryz.prog 291 (.agg #[(.pointer none),(.pointer none),(.pointer none),(.string ⟨#[]⟩)]):=⟨by kernel_rfl⟩
instance:dQ Tryz.prog 293 (.array 0 16):=⟨Tryz.underlying293⟩
instance:bD Tryz.prog 293 true:=⟨_,Tryz.underlying293,rfl⟩
instance:cT Tryz.prog 293 0:=⟨by kernel_rfl⟩
instance:dY Tryz.prog 293 (.agg #[]):=⟨by kernel_rfl⟩
instance:bD Tryz.prog 294 true:=⟨_,Tryz.underlying294,rfl⟩
instance:cT Tryz.prog 294 0:=⟨by kernel_rfl⟩
instance:dY Tryz.prog 294 (.agg #[]):=⟨by kernel_rfl⟩
instance:dQ Tryz.prog 299 (.pointer 5):=⟨Tryz.underlying299⟩
instance:bD Tryz.prog 299 false:=⟨_,Tryz.underlying299,rfl⟩
instance:cT Tryz.prog 299 1:=⟨by kernel_rfl⟩
instance:dY Tryz.prog 299 (.pointer none):=⟨by kernel_rfl⟩
instance:bD Tryz.prog 302 true:=⟨_,Tryz.underlying302,rfl⟩
instance:cT Tryz.prog 302 11:=⟨by kernel_rfl⟩
instance:dY Tryz.prog 302 (.agg #[(.int .u64 0),(.int .u64 0),(.int .u32 0),(.int .u8 0),(.int .u8 0),(.int .u8 0),(.int .u8 0),.nilFunc,(.pointer none),(.int .i32 0),(.int .i32 0)]):=⟨by kernel_rfl⟩
instance:bf Tryz.prog 302 0 0:=⟨cF.mk' Tryz.underlying302 (by kernel_rfl)⟩
instance:bf Tryz.prog 302 1 1:=⟨cF.mk' Tryz.underlying302 (by kernel_rfl)⟩
instance:bf Tryz.prog 302 2 2:=⟨cF.mk' Tryz.underlying302 (by kernel_rfl)⟩
instance:bf Tryz.prog 302 3 3:=⟨cF.mk' Tryz.underlying302 (by kernel_rfl)⟩
instance:bf Tryz.prog 302 4 4:=⟨cF.mk' Tryz.underlying302 (by kernel_rfl)⟩
instance:bf Tryz.prog 302 5 5:=⟨cF.mk' Tryz.underlying302 (by kernel_rfl)⟩
instance:bf Tryz.prog 302 6 6:=⟨cF.mk' Tryz.underlying302 (by kernel_rfl)⟩
instance:bf Tryz.prog 302 7 7:=⟨cF.mk' Tryz.underlying302 (by kernel_rfl)⟩
instance:bf Tryz.prog 302 8 8:=⟨cF.mk' Tryz.underlying302 (by kernel_rfl)⟩
instance:bf Tryz.prog 302 9 9:=⟨cF.mk' Tryz.underlying302 (by kernel_rfl)⟩
instance:bf Tryz.prog 302 10 10:=⟨cF.mk' Tryz.underlying302 (by kernel_rfl)⟩
instance:ft Tryz.prog 302 [(0,1),(1,1),(2,1),(3,1),(4,1),(5,1),(6,1),(7,1),(8,1),(9,1),(10,1)]:=⟨by kernel_rfl⟩
theorem gK:Tryz.prog.follows .mixedOrders = true:=by kernel_rfl
end Go.Proofs.YtliiahjpiagdkaaGreat
namespace Go.Proofs.YtliiahjpiagdkaaGreat
open Go.RowKit
variable {P:Program} {n:Nat} {ops:Array Oper} {o:Oper} {F:List Nat} {S:St} {c:Cnt} {b:Upd}
theorem Nv (h:aw n P ops o F c b S:=by (first|(apply bn 0;(focus rfl);first|exact cd (c:=.per _) ⟨rfl,rfl,rfl⟩ rfl rfl|exact cd (c:=.row _ _) ⟨rfl,rfl,rfl⟩ rfl rfl|exact cd (c:=.bor _ _) ⟨rfl,rfl,rfl⟩ rfl rfl|exact cd (c:=.ptr _ _ _) ⟨rfl,rfl,rfl⟩ rfl rfl|exact cd (c:=.tup2 _ _) ⟨rfl,rfl,rfl⟩ rfl rfl)|(apply bn 1;(focus rfl);first|exact ck (c:=.per _) ⟨rfl,rfl,rfl⟩ rfl rfl|exact ck (c:=.row _ _) ⟨rfl,rfl,rfl⟩ rfl rfl|exact ck (c:=.bor _ _) ⟨rfl,rfl,rfl⟩ rfl rfl|exact ck (c:=.ptr _ _ _) ⟨rfl,rfl,rfl⟩ rfl rfl)|(apply bn 2;(focus rfl);apply mC <;> first|exact ⟨rfl,rfl,rfl⟩|rfl|(intro hb0;first|rfl|exact au rfl (by rw [hb0];rfl)|exact au rfl (by simp_all)))|(apply bn 3;(focus rfl);first|exact rD ⟨rfl,rfl,rfl⟩ rfl rfl|exact rE ⟨rfl,rfl,rfl⟩ rfl rfl (by first|exact cn rfl rfl|exact cE|exact dB))|(apply bn 4;(focus rfl);exact Ck ⟨rfl,rfl,rfl⟩ rfl inferInstance rfl)|(apply bn 5;(focus rfl);first|exact mH ⟨rfl,rfl,rfl⟩ rfl inferInstance rfl rfl rfl rfl|exact kq ⟨rfl,rfl,rfl⟩ rfl inferInstance inferInstance rfl rfl rfl rfl rfl rfl|exact ks ⟨rfl,rfl,rfl⟩ rfl inferInstance rfl rfl|exact kt ⟨rfl,rfl,rfl⟩ rfl inferInstance inferInstance rfl rfl rfl|exact ku ⟨rfl,rfl,rfl⟩ rfl inferInstance rfl rfl|exact kv ⟨rfl,rfl,rfl⟩ rfl inferInstance inferInstance rfl rfl rfl)|(apply bn 6;(focus rfl);first|exact xE ⟨rfl,rfl⟩ rfl inferInstance rfl rfl rfl rfl rfl (by first|exact cn rfl rfl|exact cE|exact dB)|exact oh ⟨rfl,rfl⟩ rfl inferInstance rfl rfl rfl rfl rfl rfl rfl)|(apply bn 7;(focus rfl);first|exact qS ⟨rfl,rfl,rfl⟩ rfl inferInstance rfl rfl|exact kz ⟨rfl,rfl,rfl⟩ rfl inferInstance rfl|exact kC ⟨rfl,rfl,rfl⟩ rfl inferInstance rfl|exact uk ⟨rfl,rfl,rfl⟩ rfl inferInstance rfl rfl)|(apply bn 8;(focus rfl);first|exact gH ⟨rfl,rfl,rfl⟩ rfl rfl rfl rfl (cm (by first|omega|(simp;omega)|(simp [bF];omega)) (by first|omega|(simp;omega)|(simp [bF];omega)))|exact pm ⟨rfl,rfl,rfl⟩ rfl rfl rfl rfl)|(apply bn 9;(focus rfl);exact vo ⟨rfl,rfl,rfl⟩ rfl rfl)|(apply bn 10;(focus rfl);first|exact pu ⟨rfl,rfl,rfl⟩ rfl inferInstance inferInstance rfl (cm (by omega) (by omega))|exact pu ⟨rfl,rfl,rfl⟩ rfl inferInstance inferInstance rfl rfl|exact Nk ⟨rfl,rfl,rfl⟩ rfl inferInstance inferInstance inferInstance (by first|exact nq rfl|exact pw rfl rfl rfl|exact pv rfl|exact py rfl))|(apply bn 11;(focus rfl);first|exact xJ ⟨rfl,rfl,rfl⟩ rfl inferInstance inferInstance rfl rfl (by refine ⟨?_,?_,?_,?_⟩ <;> first|rfl|exact ⟨_,_,rfl,rfl⟩|omega|(simp;done)|(simp;omega)) rfl|exact rI ⟨rfl,rfl,rfl⟩ rfl inferInstance inferInstance rfl rfl (by refine ⟨?_,?_,?_,?_⟩ <;> first|rfl|exact ⟨_,_,rfl,rfl⟩|omega|(simp;done)|(simp;omega)) rfl|exact xK ⟨rfl,rfl,rfl⟩ rfl inferInstance inferInstance rfl rfl (by refine ⟨?_,?_,?_,?_⟩ <;> first|rfl|exact ⟨_,_,rfl,rfl⟩|omega|(simp;done)|(simp;omega))|exact rJ ⟨rfl,rfl,rfl⟩ rfl inferInstance inferInstance rfl rfl (by refine ⟨?_,?_,?_,?_⟩ <;> first|rfl|exact ⟨_,_,rfl,rfl⟩|omega|(simp;done)|(simp;omega))|exact oo ⟨rfl,rfl,rfl⟩ rfl inferInstance inferInstance rfl rfl (by refine ⟨?_,?_,?_,?_⟩ <;> first|rfl|exact ⟨_,_,rfl,rfl⟩|omega|(simp;done)|(simp;omega))|exact kE ⟨rfl,rfl,rfl⟩ rfl inferInstance inferInstance rfl rfl (by refine ⟨?_,?_,?_,?_⟩ <;> first|rfl|exact ⟨_,_,rfl,rfl⟩|omega|(simp;done)|(simp;omega))|exact Cn ⟨rfl,rfl,rfl⟩ rfl inferInstance inferInstance rfl rfl (by refine ⟨?_,?_,?_,?_⟩ <;> first|rfl|exact ⟨_,_,rfl,rfl⟩|omega|(simp;done)|(simp;omega)) rfl|exact un ⟨rfl,rfl,rfl⟩ rfl inferInstance inferInstance rfl rfl (by refine ⟨?_,?_,?_,?_⟩ <;> first|rfl|exact ⟨_,_,rfl,rfl⟩|omega|(simp;done)|(simp;omega)) rfl|exact xL ⟨rfl,rfl,rfl⟩ rfl inferInstance rfl (by refine ⟨?_,?_,?_,?_⟩ <;> first|rfl|exact ⟨_,_,rfl,rfl⟩|omega|(simp;done)|(simp;omega)) rfl)|(apply bn 12;(focus rfl);first|exact kD ⟨rfl,rfl,rfl⟩ rfl inferInstance inferInstance rfl rfl rfl rfl (gX (by first|assumption|omega|(simp;done)|(simp;omega)))|exact jR ⟨rfl,rfl,rfl⟩ rfl inferInstance inferInstance rfl rfl rfl rfl (gX (by first|assumption|omega|(simp;done)|(simp;omega)))|exact pt ⟨rfl,rfl,rfl⟩ rfl inferInstance inferInstance rfl rfl rfl rfl rfl rfl (by first|assumption|omega|(simp;done)|(simp;omega))|exact kD ⟨rfl,rfl,rfl⟩ rfl inferInstance inferInstance rfl rfl rfl rfl rfl)|(apply bn 13;(focus rfl);exact jS ⟨rfl,rfl,rfl⟩ rfl inferInstance rfl rfl rfl (List.getElem?_eq_getElem (by first|assumption|omega|(simp;done)|(simp;omega))))|(apply bn 14;(focus rfl);solve|(apply Cm <;> first|exact ⟨rfl,rfl,rfl⟩|rfl|infer_instance|(repeat (first|exact cv.nil|(apply cv.cons;(focus (first|exact bx rfl rfl rfl|exact fx rfl|exact fy rfl)))))))|(apply bn 15;(focus rfl);first|exact ul ⟨rfl,rfl,rfl⟩ rfl inferInstance|(solve|(apply xI <;> first|exact ⟨rfl,rfl,rfl⟩|rfl|infer_instance|(repeat (first|exact cv.nil|(apply cv.cons;(focus (first|exact bx rfl rfl rfl|exact fx rfl|exact fy rfl))))))))|(apply bn 16;(focus rfl);first|exact xm ⟨rfl,rfl,rfl⟩ rfl rfl|exact xn ⟨rfl,rfl,rfl⟩ rfl rfl|exact xp ⟨rfl,rfl,rfl⟩ rfl rfl|exact xq ⟨rfl,rfl,rfl⟩ rfl rfl|exact xr ⟨rfl,rfl,rfl⟩ rfl rfl)|(apply bn 17;(focus rfl);first|exact qT ⟨rfl,rfl,rfl⟩ rfl inferInstance rfl|exact Gd ⟨rfl,rfl,rfl⟩ rfl inferInstance rfl|exact xG ⟨rfl,rfl,rfl⟩ rfl inferInstance rfl|exact xH ⟨rfl,rfl,rfl⟩ rfl inferInstance rfl rfl rfl|exact xF ⟨rfl,rfl,rfl⟩ rfl inferInstance rfl|exact oj ⟨rfl,rfl,rfl⟩ rfl inferInstance rfl rfl rfl|exact oi ⟨rfl,rfl,rfl⟩ rfl inferInstance rfl)|(apply bn 18;(focus rfl);first|exact MV ⟨rfl,rfl,rfl⟩ rfl inferInstance rfl rfl rfl rfl (by first|exact nq rfl|exact pw rfl rfl rfl|exact pv rfl|exact py rfl) (by first|omega|(simp;done)|(simp;omega)|(simp [bF];done)|(simp [bF];omega)|(simp at *;omega)) rfl|exact Gf ⟨rfl,rfl,rfl⟩ rfl inferInstance inferInstance inferInstance rfl rfl rfl rfl (by first|omega|(simp;done)|(simp;omega)|(simp [bF];done)|(simp [bF];omega)|(simp at *;omega))))):aw n P ops o F c b S:=h
theorem Nw (h:aw n P ops o F c b S:=by
 apply b8
 (focus rfl)
 first
  | ((first|apply fa rfl rfl rfl rfl rfl (jP rfl)|apply fa rfl rfl rfl rfl rfl rfl);intro g1 g2;(first|(apply bn 2;(focus rfl);apply mC <;> first|exact ⟨rfl,rfl,rfl⟩|(intro hb0;first|rfl|exact au rfl (by rw [hb0];rfl)|exact au rfl (by simp_all))|(first|exact au rfl (by rw [g2];rfl)|exact ak rfl (by rw [g2];rfl)|exact au rfl (by rw [g1,g2];rfl)|exact ak rfl (by rw [g1,g2];rfl)|rfl|exact ⟨rfl,rfl,rfl⟩|infer_instance|exact au rfl (by simp_all)|exact ak rfl (by simp_all)))|(apply bn 0;(focus rfl);first|(apply cd (c:=.per (av _)) <;> (first|exact au rfl (by rw [g2];rfl)|exact ak rfl (by rw [g2];rfl)|exact au rfl (by rw [g1,g2];rfl)|exact ak rfl (by rw [g1,g2];rfl)|rfl|exact ⟨rfl,rfl,rfl⟩|infer_instance|exact au rfl (by simp_all)|exact ak rfl (by simp_all)))|(apply cd (c:=.per _) <;> (first|exact au rfl (by rw [g2];rfl)|exact ak rfl (by rw [g2];rfl)|exact au rfl (by rw [g1,g2];rfl)|exact ak rfl (by rw [g1,g2];rfl)|rfl|exact ⟨rfl,rfl,rfl⟩|infer_instance|exact au rfl (by simp_all)|exact ak rfl (by simp_all)))|(apply cd (c:=.bor _ _) <;> (first|exact au rfl (by rw [g2];rfl)|exact ak rfl (by rw [g2];rfl)|exact au rfl (by rw [g1,g2];rfl)|exact ak rfl (by rw [g1,g2];rfl)|rfl|exact ⟨rfl,rfl,rfl⟩|infer_instance|exact au rfl (by simp_all)|exact ak rfl (by simp_all)))|(apply cd (c:=.row _ _) <;> (first|exact au rfl (by rw [g2];rfl)|exact ak rfl (by rw [g2];rfl)|exact au rfl (by rw [g1,g2];rfl)|exact ak rfl (by rw [g1,g2];rfl)|rfl|exact ⟨rfl,rfl,rfl⟩|infer_instance|exact au rfl (by simp_all)|exact ak rfl (by simp_all))))|(apply bn 5;(focus rfl);first|(apply mH <;> (first|exact au rfl (by rw [g2];rfl)|exact ak rfl (by rw [g2];rfl)|exact au rfl (by rw [g1,g2];rfl)|exact ak rfl (by rw [g1,g2];rfl)|rfl|exact ⟨rfl,rfl,rfl⟩|infer_instance|exact au rfl (by simp_all)|exact ak rfl (by simp_all)))|(apply kq <;> (first|exact au rfl (by rw [g2];rfl)|exact ak rfl (by rw [g2];rfl)|exact au rfl (by rw [g1,g2];rfl)|exact ak rfl (by rw [g1,g2];rfl)|rfl|exact ⟨rfl,rfl,rfl⟩|infer_instance|exact au rfl (by simp_all)|exact ak rfl (by simp_all)))|(apply ks <;> (first|exact au rfl (by rw [g2];rfl)|exact ak rfl (by rw [g2];rfl)|exact au rfl (by rw [g1,g2];rfl)|exact ak rfl (by rw [g1,g2];rfl)|rfl|exact ⟨rfl,rfl,rfl⟩|infer_instance|exact au rfl (by simp_all)|exact ak rfl (by simp_all)))|(apply kt <;> (first|exact au rfl (by rw [g2];rfl)|exact ak rfl (by rw [g2];rfl)|exact au rfl (by rw [g1,g2];rfl)|exact ak rfl (by rw [g1,g2];rfl)|rfl|exact ⟨rfl,rfl,rfl⟩|infer_instance|exact au rfl (by simp_all)|exact ak rfl (by simp_all)))|(apply ku <;> (first|exact au rfl (by rw [g2];rfl)|exact ak rfl (by rw [g2];rfl)|exact au rfl (by rw [g1,g2];rfl)|exact ak rfl (by rw [g1,g2];rfl)|rfl|exact ⟨rfl,rfl,rfl⟩|infer_instance|exact au rfl (by simp_all)|exact ak rfl (by simp_all)))|(apply kv <;> (first|exact au rfl (by rw [g2];rfl)|exact ak rfl (by rw [g2];rfl)|exact au rfl (by rw [g1,g2];rfl)|exact ak rfl (by rw [g1,g2];rfl)|rfl|exact ⟨rfl,rfl,rfl⟩|infer_instance|exact au rfl (by simp_all)|exact ak rfl (by simp_all))))|(apply bn 7;(focus rfl);first|(apply qS <;> (first|exact au rfl (by rw [g2];rfl)|exact ak rfl (by rw [g2];rfl)|exact au rfl (by rw [g1,g2];rfl)|exact ak rfl (by rw [g1,g2];rfl)|rfl|exact ⟨rfl,rfl,rfl⟩|infer_instance|exact au rfl (by simp_all)|exact ak rfl (by simp_all)))|(apply kz <;> (first|exact au rfl (by rw [g2];rfl)|exact ak rfl (by rw [g2];rfl)|exact au rfl (by rw [g1,g2];rfl)|exact ak rfl (by rw [g1,g2];rfl)|rfl|exact ⟨rfl,rfl,rfl⟩|infer_instance|exact au rfl (by simp_all)|exact ak rfl (by simp_all)))|(apply kC <;> (first|exact au rfl (by rw [g2];rfl)|exact ak rfl (by rw [g2];rfl)|exact au rfl (by rw [g1,g2];rfl)|exact ak rfl (by rw [g1,g2];rfl)|rfl|exact ⟨rfl,rfl,rfl⟩|infer_instance|exact au rfl (by simp_all)|exact ak rfl (by simp_all))))|(apply bn 8;(focus rfl);first|(apply gH <;> first|exact cm (by omega) (by omega)|(first|exact au rfl (by rw [g2];rfl)|exact ak rfl (by rw [g2];rfl)|exact au rfl (by rw [g1,g2];rfl)|exact ak rfl (by rw [g1,g2];rfl)|rfl|exact ⟨rfl,rfl,rfl⟩|infer_instance|exact au rfl (by simp_all)|exact ak rfl (by simp_all)))|(apply pm <;> (first|exact au rfl (by rw [g2];rfl)|exact ak rfl (by rw [g2];rfl)|exact au rfl (by rw [g1,g2];rfl)|exact ak rfl (by rw [g1,g2];rfl)|rfl|exact ⟨rfl,rfl,rfl⟩|infer_instance|exact au rfl (by simp_all)|exact ak rfl (by simp_all))))|(apply bn 9;(focus rfl);apply vo <;> (first|exact au rfl (by rw [g2];rfl)|exact ak rfl (by rw [g2];rfl)|exact au rfl (by rw [g1,g2];rfl)|exact ak rfl (by rw [g1,g2];rfl)|rfl|exact ⟨rfl,rfl,rfl⟩|infer_instance|exact au rfl (by simp_all)|exact ak rfl (by simp_all)))|(apply bn 17;(focus rfl);first|(apply qT <;> (first|exact au rfl (by rw [g2];rfl)|exact ak rfl (by rw [g2];rfl)|exact au rfl (by rw [g1,g2];rfl)|exact ak rfl (by rw [g1,g2];rfl)|rfl|exact ⟨rfl,rfl,rfl⟩|infer_instance|exact au rfl (by simp_all)|exact ak rfl (by simp_all)))|(apply xF <;> (first|exact au rfl (by rw [g2];rfl)|exact ak rfl (by rw [g2];rfl)|exact au rfl (by rw [g1,g2];rfl)|exact ak rfl (by rw [g1,g2];rfl)|rfl|exact ⟨rfl,rfl,rfl⟩|infer_instance|exact au rfl (by simp_all)|exact ak rfl (by simp_all)))|(apply oi <;> (first|exact au rfl (by rw [g2];rfl)|exact ak rfl (by rw [g2];rfl)|exact au rfl (by rw [g1,g2];rfl)|exact ak rfl (by rw [g1,g2];rfl)|rfl|exact ⟨rfl,rfl,rfl⟩|infer_instance|exact au rfl (by simp_all)|exact ak rfl (by simp_all)))|(apply oj <;> (first|exact au rfl (by rw [g2];rfl)|exact ak rfl (by rw [g2];rfl)|exact au rfl (by rw [g1,g2];rfl)|exact ak rfl (by rw [g1,g2];rfl)|rfl|exact ⟨rfl,rfl,rfl⟩|infer_instance|exact au rfl (by simp_all)|exact ak rfl (by simp_all))))|(apply bn 12;(focus rfl);first|(apply kD <;> first|(first|exact au rfl (by rw [g2];rfl)|exact ak rfl (by rw [g2];rfl)|exact au rfl (by rw [g1,g2];rfl)|exact ak rfl (by rw [g1,g2];rfl)|rfl|exact ⟨rfl,rfl,rfl⟩|infer_instance|exact au rfl (by simp_all)|exact ak rfl (by simp_all))|exact gX (by first|assumption|omega|(simp;done)|(simp;omega)))|(apply jR <;> first|(first|exact au rfl (by rw [g2];rfl)|exact ak rfl (by rw [g2];rfl)|exact au rfl (by rw [g1,g2];rfl)|exact ak rfl (by rw [g1,g2];rfl)|rfl|exact ⟨rfl,rfl,rfl⟩|infer_instance|exact au rfl (by simp_all)|exact ak rfl (by simp_all))|exact gX (by first|assumption|omega|(simp;done)|(simp;omega))))|(apply bn 13;(focus rfl);apply jS <;> first|(first|exact au rfl (by rw [g2];rfl)|exact ak rfl (by rw [g2];rfl)|exact au rfl (by rw [g1,g2];rfl)|exact ak rfl (by rw [g1,g2];rfl)|rfl|exact ⟨rfl,rfl,rfl⟩|infer_instance|exact au rfl (by simp_all)|exact ak rfl (by simp_all))|exact List.getElem?_eq_getElem (by first|assumption|omega|(simp;done)|(simp;omega)))))
  | ((first|apply jO rfl rfl rfl rfl rfl (jP rfl)|apply jO rfl rfl rfl rfl rfl rfl);intro g1 g2;(first|(apply bn 2;(focus rfl);apply mC <;> first|exact ⟨rfl,rfl,rfl⟩|(intro hb0;first|rfl|exact au rfl (by rw [hb0];rfl)|exact au rfl (by simp_all))|(first|exact au rfl (by rw [g2];rfl)|exact ak rfl (by rw [g2];rfl)|exact au rfl (by rw [g1,g2];rfl)|exact ak rfl (by rw [g1,g2];rfl)|rfl|exact ⟨rfl,rfl,rfl⟩|infer_instance|exact au rfl (by simp_all)|exact ak rfl (by simp_all)))|(apply bn 0;(focus rfl);first|(apply cd (c:=.per (av _)) <;> (first|exact au rfl (by rw [g2];rfl)|exact ak rfl (by rw [g2];rfl)|exact au rfl (by rw [g1,g2];rfl)|exact ak rfl (by rw [g1,g2];rfl)|rfl|exact ⟨rfl,rfl,rfl⟩|infer_instance|exact au rfl (by simp_all)|exact ak rfl (by simp_all)))|(apply cd (c:=.per _) <;> (first|exact au rfl (by rw [g2];rfl)|exact ak rfl (by rw [g2];rfl)|exact au rfl (by rw [g1,g2];rfl)|exact ak rfl (by rw [g1,g2];rfl)|rfl|exact ⟨rfl,rfl,rfl⟩|infer_instance|exact au rfl (by simp_all)|exact ak rfl (by simp_all)))|(apply cd (c:=.bor _ _) <;> (first|exact au rfl (by rw [g2];rfl)|exact ak rfl (by rw [g2];rfl)|exact au rfl (by rw [g1,g2];rfl)|exact ak rfl (by rw [g1,g2];rfl)|rfl|exact ⟨rfl,rfl,rfl⟩|infer_instance|exact au rfl (by simp_all)|exact ak rfl (by simp_all)))|(apply cd (c:=.row _ _) <;> (first|exact au rfl (by rw [g2];rfl)|exact ak rfl (by rw [g2];rfl)|exact au rfl (by rw [g1,g2];rfl)|exact ak rfl (by rw [g1,g2];rfl)|rfl|exact ⟨rfl,rfl,rfl⟩|infer_instance|exact au rfl (by simp_all)|exact ak rfl (by simp_all))))|(apply bn 5;(focus rfl);first|(apply mH <;> (first|exact au rfl (by rw [g2];rfl)|exact ak rfl (by rw [g2];rfl)|exact au rfl (by rw [g1,g2];rfl)|exact ak rfl (by rw [g1,g2];rfl)|rfl|exact ⟨rfl,rfl,rfl⟩|infer_instance|exact au rfl (by simp_all)|exact ak rfl (by simp_all)))|(apply kq <;> (first|exact au rfl (by rw [g2];rfl)|exact ak rfl (by rw [g2];rfl)|exact au rfl (by rw [g1,g2];rfl)|exact ak rfl (by rw [g1,g2];rfl)|rfl|exact ⟨rfl,rfl,rfl⟩|infer_instance|exact au rfl (by simp_all)|exact ak rfl (by simp_all)))|(apply ks <;> (first|exact au rfl (by rw [g2];rfl)|exact ak rfl (by rw [g2];rfl)|exact au rfl (by rw [g1,g2];rfl)|exact ak rfl (by rw [g1,g2];rfl)|rfl|exact ⟨rfl,rfl,rfl⟩|infer_instance|exact au rfl (by simp_all)|exact ak rfl (by simp_all)))|(apply kt <;> (first|exact au rfl (by rw [g2];rfl)|exact ak rfl (by rw [g2];rfl)|exact au rfl (by rw [g1,g2];rfl)|exact ak rfl (by rw [g1,g2];rfl)|rfl|exact ⟨rfl,rfl,rfl⟩|infer_instance|exact au rfl (by simp_all)|exact ak rfl (by simp_all)))|(apply ku <;> (first|exact au rfl (by rw [g2];rfl)|exact ak rfl (by rw [g2];rfl)|exact au rfl (by rw [g1,g2];rfl)|exact ak rfl (by rw [g1,g2];rfl)|rfl|exact ⟨rfl,rfl,rfl⟩|infer_instance|exact au rfl (by simp_all)|exact ak rfl (by simp_all)))|(apply kv <;> (first|exact au rfl (by rw [g2];rfl)|exact ak rfl (by rw [g2];rfl)|exact au rfl (by rw [g1,g2];rfl)|exact ak rfl (by rw [g1,g2];rfl)|rfl|exact ⟨rfl,rfl,rfl⟩|infer_instance|exact au rfl (by simp_all)|exact ak rfl (by simp_all))))|(apply bn 7;(focus rfl);first|(apply qS <;> (first|exact au rfl (by rw [g2];rfl)|exact ak rfl (by rw [g2];rfl)|exact au rfl (by rw [g1,g2];rfl)|exact ak rfl (by rw [g1,g2];rfl)|rfl|exact ⟨rfl,rfl,rfl⟩|infer_instance|exact au rfl (by simp_all)|exact ak rfl (by simp_all)))|(apply kz <;> (first|exact au rfl (by rw [g2];rfl)|exact ak rfl (by rw [g2];rfl)|exact au rfl (by rw [g1,g2];rfl)|exact ak rfl (by rw [g1,g2];rfl)|rfl|exact ⟨rfl,rfl,rfl⟩|infer_instance|exact au rfl (by simp_all)|exact ak rfl (by simp_all)))|(apply kC <;> (first|exact au rfl (by rw [g2];rfl)|exact ak rfl (by rw [g2];rfl)|exact au rfl (by rw [g1,g2];rfl)|exact ak rfl (by rw [g1,g2];rfl)|rfl|exact ⟨rfl,rfl,rfl⟩|infer_instance|exact au rfl (by simp_all)|exact ak rfl (by simp_all))))|(apply bn 8;(focus rfl);first|(apply gH <;> first|exact cm (by omega) (by omega)|(first|exact au rfl (by rw [g2];rfl)|exact ak rfl (by rw [g2];rfl)|exact au rfl (by rw [g1,g2];rfl)|exact ak rfl (by rw [g1,g2];rfl)|rfl|exact ⟨rfl,rfl,rfl⟩|infer_instance|exact au rfl (by simp_all)|exact ak rfl (by simp_all)))|(apply pm <;> (first|exact au rfl (by rw [g2];rfl)|exact ak rfl (by rw [g2];rfl)|exact au rfl (by rw [g1,g2];rfl)|exact ak rfl (by rw [g1,g2];rfl)|rfl|exact ⟨rfl,rfl,rfl⟩|infer_instance|exact au rfl (by simp_all)|exact ak rfl (by simp_all))))|(apply bn 9;(focus rfl);apply vo <;> (first|exact au rfl (by rw [g2];rfl)|exact ak rfl (by rw [g2];rfl)|exact au rfl (by rw [g1,g2];rfl)|exact ak rfl (by rw [g1,g2];rfl)|rfl|exact ⟨rfl,rfl,rfl⟩|infer_instance|exact au rfl (by simp_all)|exact ak rfl (by simp_all)))|(apply bn 17;(focus rfl);first|(apply qT <;> (first|exact au rfl (by rw [g2];rfl)|exact ak rfl (by rw [g2];rfl)|exact au rfl (by rw [g1,g2];rfl)|exact ak rfl (by rw [g1,g2];rfl)|rfl|exact ⟨rfl,rfl,rfl⟩|infer_instance|exact au rfl (by simp_all)|exact ak rfl (by simp_all)))|(apply xF <;> (first|exact au rfl (by rw [g2];rfl)|exact ak rfl (by rw [g2];rfl)|exact au rfl (by rw [g1,g2];rfl)|exact ak rfl (by rw [g1,g2];rfl)|rfl|exact ⟨rfl,rfl,rfl⟩|infer_instance|exact au rfl (by simp_all)|exact ak rfl (by simp_all)))|(apply oi <;> (first|exact au rfl (by rw [g2];rfl)|exact ak rfl (by rw [g2];rfl)|exact au rfl (by rw [g1,g2];rfl)|exact ak rfl (by rw [g1,g2];rfl)|rfl|exact ⟨rfl,rfl,rfl⟩|infer_instance|exact au rfl (by simp_all)|exact ak rfl (by simp_all)))|(apply oj <;> (first|exact au rfl (by rw [g2];rfl)|exact ak rfl (by rw [g2];rfl)|exact au rfl (by rw [g1,g2];rfl)|exact ak rfl (by rw [g1,g2];rfl)|rfl|exact ⟨rfl,rfl,rfl⟩|infer_instance|exact au rfl (by simp_all)|exact ak rfl (by simp_all))))|(apply bn 12;(focus rfl);first|(apply kD <;> first|(first|exact au rfl (by rw [g2];rfl)|exact ak rfl (by rw [g2];rfl)|exact au rfl (by rw [g1,g2];rfl)|exact ak rfl (by rw [g1,g2];rfl)|rfl|exact ⟨rfl,rfl,rfl⟩|infer_instance|exact au rfl (by simp_all)|exact ak rfl (by simp_all))|exact gX (by first|assumption|omega|(simp;done)|(simp;omega)))|(apply jR <;> first|(first|exact au rfl (by rw [g2];rfl)|exact ak rfl (by rw [g2];rfl)|exact au rfl (by rw [g1,g2];rfl)|exact ak rfl (by rw [g1,g2];rfl)|rfl|exact ⟨rfl,rfl,rfl⟩|infer_instance|exact au rfl (by simp_all)|exact ak rfl (by simp_all))|exact gX (by first|assumption|omega|(simp;done)|(simp;omega))))|(apply bn 13;(focus rfl);apply jS <;> first|(first|exact au rfl (by rw [g2];rfl)|exact ak rfl (by rw [g2];rfl)|exact au rfl (by rw [g1,g2];rfl)|exact ak rfl (by rw [g1,g2];rfl)|rfl|exact ⟨rfl,rfl,rfl⟩|infer_instance|exact au rfl (by simp_all)|exact ak rfl (by simp_all))|exact List.getElem?_eq_getElem (by first|assumption|omega|(simp;done)|(simp;omega)))))):aw n P ops o F c b S:=h
theorem Ay (h:aw n P ops o F c b S:=by first|exact Nw|exact Nv):aw n P ops o F c b S:=h
section
theorem ae {n:Nat} {S S':St} (h:Le n S S':=by
 (refine og ?_ ?_;(focus ((repeat (first|exact iO.nil|(refine iO.cons ?_ ?_;rotate_left)));(all_goals try (first|rfl|(refine KO ?_;first|omega|(simp;done)|(simp;omega))|(refine vz ?_;first|(simp;done)|(simp [*];done))))));(focus ((repeat (first|exact iP.nil|(refine iP.cons ?_ ?_;rotate_left)));(all_goals try (first|rfl|(refine vA ?_;(rw [List.map_append] <;> rfl);done)|(refine oq ?_;(rw [List.map_append] <;> rfl);done))))))):Le n S S':=h
end
end Go.Proofs.YtliiahjpiagdkaaGreat
