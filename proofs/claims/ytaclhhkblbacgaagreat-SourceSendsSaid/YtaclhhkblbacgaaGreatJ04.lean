/- Texts joined: AbsG Tab. -/
import Derived.Test.YtaclhhkblbacgaaGreatJ03
import Derived.Test.YtaclhhkblbacgaaGreatProg
namespace Go.Proofs.YtaclhhkblbacgaaGreat
open Go.RowKit Go.Proofs.Tryz
variable {b:Bool} {x y:Operand}
section
variable {P:Program} {n:Nat} {ops:Array Oper} {o:Oper} {F:List Nat} {S T:St} {t:Nat}
theorem ag {j tg:Nat}{want:Bool}{c:Cnt}{bk:Upd}(hg:o.guard=some (j,want))(hj:(ops[j]?).bind (·.dst)=some tg)(htg:Nat.blt tg n=true)
 (hb:S.get tg=bC b) (hw:b=want) (h:aw n P ops { o with guard:=none } F c bk S):aw n P ops o (2*tg::F) c bk S:=by
 refine⟨?_⟩
 intro C T hA a w ⟨g,hR⟩
 have hv:a.tmps.getD tg undef=.bool b:=by
  have:=hR.slots tg
  rw[hA.1 tg au,hb]at this;exact this
 have hy:=kC (ops:=ops) hj hv (by rw[hR.tsz];exact Wc htg)
 unfold iM
 rw[V6 (by simp[Region.wanted,hg,hy,hw,lp])]
 have hA':dV F T S:=⟨fun t h=>hA.1 t (by simp[h]),fun id h=>hA.2 id (by simp[h])⟩
 have:=h.run C T hA' a w ⟨g,hR⟩
 unfold iM at this
 rw[V6 (by simp[Region.wanted])]at this
 exact this
theorem Sb {j tg:Nat}{want:Bool}(hg:o.guard=some (j,want))(hd:o.dst=some t)(ht:Nat.blt t n=true)(hj:(ops[j]?).bind (·.dst)=some tg)(htg:Nat.blt tg n=true)
 (hb:S.get tg=bC b) (hw:b=!want):aw n P ops o [2*tg] (.per (ak undef)) [] S:=by
 refine⟨?_⟩
 intro C T hA a w ⟨g,hR⟩
 have hv:a.tmps.getD tg undef=.bool b:=by
  have:=hR.slots tg
  rw[hA.1 tg au,hb]at this;exact this
 have hy:=kC (ops:=ops) hj hv (by rw[hR.tsz];exact Wc htg)
 have hdk:dOk n o.dst:=fun t' e=>by rw[hd]at e;cases e;exact Wc ht
 unfold iM
 rw[V3 (by simp[Region.wanted,hg,hy,hw,lp])]
 exact⟨g,hR.app0 (eX.refl w) hdk rfl⟩
theorem KH {j tg:Nat}{want:Bool}(hg:o.guard=some (j,want))(hd:o.dst=some t)(ht:Nat.blt t n=true)(hj:(ops[j]?).bind (·.dst)=some tg)(htg:Nat.blt tg n=true)
 (hb:S.get tg=.per (ak undef)):aw n P ops o [2*tg] (.per (ak undef)) [] S:=by
 refine⟨?_⟩
 intro C T hA a w ⟨g,hR⟩
 have hv:a.tmps.getD tg undef=undef:=by
  have:=hR.slots tg
  rw[hA.1 tg au,hb]at this;exact this
 have hy:=kC (ops:=ops) hj hv (by rw[hR.tsz];exact Wc htg)
 have hdk:dOk n o.dst:=fun t' e=>by rw[hd]at e;cases e;exact Wc ht
 unfold iM
 rw[V3 (by simp[Region.wanted,hg,hy,undef,lp])]
 exact⟨g,hR.app0 (eX.refl w) hdk rfl⟩
theorem w8 {c:Operand}{p:Bool}(hp:Pl n o t)(ho:o.op=.pick c x y)(hc:S.opd c=bC b)(hb:b=true)(hx:S.opd x=bC p):aw n P ops o (az c++az x++az y) (bC p) [] S:=by
 subst hb
 exact nY (p:=p) (q:=p) hp ho hc (fun _=>hx) (fun h=>by cases h)
theorem w9 {c:Operand}{p:Bool}(hp:Pl n o t)(ho:o.op=.pick c x y)(hc:S.opd c=bC b)(hb:b=false)(hy:S.opd y=bC p):aw n P ops o (az c++az x++az y) (bC p) [] S:=by
 subst hb
 exact nY (p:=p) (q:=p) hp ho hc (fun h=>by cases h) (fun _=>hy)
theorem KI {ty ty':TypeId}{k:IntKind}{u v:Int}(hp:Pl n o t)(ho:o.op=.call { callee:=.builtin .max,args:=#[x,y],argTypes:=#[ty,ty'] })(hx:S.opd x=iC k u)(hy:S.opd y=iC k v) :
 aw n P ops o (az x++az y) (iC k (if v>u then v else u)) [] S:=
 aV hp fun C T g a w hA hR=>by
  have h1:=aP (x:=x) hA (fun k h=>by simp[h]) hR hx
  have h2:=aP (x:=y) hA (fun k h=>by simp[h]) hR hy
  refine⟨.int k (if v>u then v else u),?_,rfl⟩
  simp only[execOp,ho,resolve,invoke,builtin,Sem.run_bind,Sem.run_pure,Result.andThen_ok,List.map_toArray,List.map_cons,List.map_nil,h1,h2,run_max_int2]
theorem Sc {ty ty':TypeId}{k:IntKind}{u v:Int}(hp:Pl n o t)(ho:o.op=.call { callee:=.builtin .min,args:=#[x,y],argTypes:=#[ty,ty'] })(hx:S.opd x=iC k u)(hy:S.opd y=iC k v) :
 aw n P ops o (az x++az y) (iC k (if v<u then v else u)) [] S:=
 aV hp fun C T g a w hA hR=>by
  have h1:=aP (x:=x) hA (fun k h=>by simp[h]) hR hx
  have h2:=aP (x:=y) hA (fun k h=>by simp[h]) hR hy
  refine⟨.int k (if v<u then v else u),?_,rfl⟩
  simp only[execOp,ho,resolve,invoke,builtin,Sem.run_bind,Sem.run_pure,Result.andThen_ok,List.map_toArray,List.map_cons,List.map_nil,h1,h2,run_min_int2]
end
instance:gx prog 3 (.int .i64):=⟨underlying3⟩
instance:dZ prog 3 false:=⟨_,underlying3,rfl⟩
instance:gN prog 3 1:={}
instance:k8 prog 3 (.int .i64 0):={}
instance:gx prog 4 .bool:=⟨underlying4⟩
instance:dZ prog 4 false:=⟨_,underlying4,rfl⟩
instance:gN prog 4 1:={}
instance:k8 prog 4 (.bool false):={}
instance:gx prog 5 (.int .u8):=⟨underlying5⟩
instance:dZ prog 5 false:=⟨_,underlying5,rfl⟩
instance:gN prog 5 1:={}
instance:k8 prog 5 (.int .u8 0):={}
instance:gx prog 9 .string:=⟨underlying9⟩
instance:dZ prog 9 false:=⟨_,underlying9,rfl⟩
instance:gN prog 9 1:={}
instance:k8 prog 9 (.string ⟨#[]⟩):={}
instance:gx prog 22 (.slice 29):=⟨underlying22⟩
instance:dZ prog 22 false:=⟨_,underlying22,rfl⟩
instance:gN prog 22 1:={}
instance:k8 prog 22 (.slice none 0 0):={}
instance:tl prog 22 29 3 40:=⟨TI.mk' underlying22 (by kernel_rfl)⟩
instance:gx prog 23 (.slice 82):=⟨underlying23⟩
instance:dZ prog 23 false:=⟨_,underlying23,rfl⟩
instance:gN prog 23 1:={}
instance:k8 prog 23 (.slice none 0 0):={}
instance:tl prog 23 82 7 72:=⟨TI.mk' underlying23 (by kernel_rfl)⟩
instance:gx prog 24 (.slice 132):=⟨underlying24⟩
instance:dZ prog 24 false:=⟨_,underlying24,rfl⟩
instance:gN prog 24 1:={}
instance:k8 prog 24 (.slice none 0 0):={}
instance:tl prog 24 132 4 64:=⟨TI.mk' underlying24 (by kernel_rfl)⟩
instance:dZ prog 26 true:=⟨_,underlying26,rfl⟩
instance:gN prog 26 5:={}
instance:k8 prog 26 (.agg #[(.int .i64 0),(.slice none 0 0),(.slice none 0 0),(.slice none 0 0),(.int .i64 0)]):={}
instance:bw prog 26 0 0:=bK underlying26
instance:bw prog 26 1 1:=bK underlying26
instance:bw prog 26 2 2:=bK underlying26
instance:bw prog 26 3 3:=bK underlying26
instance:bw prog 26 4 4:=bK underlying26
instance:jt prog 26 [(0,1),(1,1),(2,1),(3,1),(4,1)]:={}
instance:gx prog 27 (.slice 5):=⟨underlying27⟩
instance:dZ prog 27 false:=⟨_,underlying27,rfl⟩
instance:gN prog 27 1:={}
instance:k8 prog 27 (.slice none 0 0):={}
instance:tl prog 27 5 1 1:=⟨TI.mk' underlying27 (by kernel_rfl)⟩
instance:dZ prog 29 true:=⟨_,underlying29,rfl⟩
instance:gN prog 29 3:={}
instance:k8 prog 29 (.agg #[(.string ⟨#[]⟩),(.string ⟨#[]⟩),(.bool false)]):={}
instance:bw prog 29 0 0:=bK underlying29
instance:bw prog 29 1 1:=bK underlying29
instance:bw prog 29 2 2:=bK underlying29
instance:jt prog 29 [(0,1),(1,1),(2,1)]:={}
instance:gx prog 30 (.int .u64):=⟨underlying30⟩
instance:dZ prog 30 false:=⟨_,underlying30,rfl⟩
instance:gN prog 30 1:={}
instance:dZ prog 32 true:=⟨_,underlying32,rfl⟩
instance:gN prog 32 19:={}
instance:k8 prog 32 (.agg #[(.int .i64 0),(.int .i64 0),(.int .i64 0),(.int .i64 0),(.int .i64 0),(.int .i64 0),(.int .i64 0),(.int .i64 0),(.bool false),(.bool false),(.bool false),(.slice none 0 0),(.slice none 0 0),(.slice none 0 0),(.string ⟨#[]⟩),(.string ⟨#[]⟩),(.bool false),(.int .u64 0),(.slice none 0 0)]):={}
instance:bw prog 32 0 0:=bK underlying32
instance:bw prog 32 1 1:=bK underlying32
instance:bw prog 32 2 2:=bK underlying32
instance:bw prog 32 3 3:=bK underlying32
instance:bw prog 32 4 4:=bK underlying32
instance:bw prog 32 5 5:=bK underlying32
instance:bw prog 32 6 6:=bK underlying32
instance:bw prog 32 7 7:=bK underlying32
instance:bw prog 32 8 8:=bK underlying32
instance:bw prog 32 9 9:=bK underlying32
instance:bw prog 32 10 10:=bK underlying32
instance:bw prog 32 11 11:=bK underlying32
instance:bw prog 32 12 12:=bK underlying32
instance:bw prog 32 13 13:=bK underlying32
instance:bw prog 32 14 14:=bK underlying32
instance:bw prog 32 15 17:=bK underlying32
instance:bw prog 32 16 18:=bK underlying32
instance:jt prog 32 [(0,1),(1,1),(2,1),(3,1),(4,1),(5,1),(6,1),(7,1),(8,1),(9,1),(10,1),(11,1),(12,1),(13,1),(14,3),(17,1),(18,1)]:={}
instance:gx prog 36 (.pointer 64):=⟨underlying36⟩
instance:dZ prog 37 false:=⟨_,underlying37,rfl⟩
instance:gN prog 37 1:={}
instance:gx prog 41 (.slice 4):=⟨underlying41⟩
instance:dZ prog 41 false:=⟨_,underlying41,rfl⟩
instance:gN prog 41 1:={}
instance:tl prog 41 4 1 1:=⟨TI.mk' underlying41 (by kernel_rfl)⟩
instance:gx prog 42 (.slice 23):=⟨underlying42⟩
instance:dZ prog 42 false:=⟨_,underlying42,rfl⟩
instance:gN prog 42 1:={}
instance:tl prog 42 23 1 24:=⟨TI.mk' underlying42 (by kernel_rfl)⟩
instance:k8 prog 44 (.agg #[(.int .i64 0),(.slice none 0 0),(.slice none 0 0),(.slice none 0 0),(.int .i64 0),(.int .i64 0),(.int .i64 0),(.int .i64 0),(.int .i64 0),(.int .i64 0),(.int .i64 0),(.int .i64 0),(.int .i64 0),(.int .i64 0),(.int .i64 0),(.bool false),(.bool false),(.bool false),(.slice none 0 0),(.slice none 0 0),(.slice none 0 0),(.string ⟨#[]⟩),(.string ⟨#[]⟩),(.bool false),(.int .u64 0),(.slice none 0 0),(.slice none 0 0),(.slice none 0 0),(.slice none 0 0),(.slice none 0 0)]):={}
instance:bw prog 44 0 0:=bK underlying44
instance:bw prog 44 1 5:=bK underlying44
instance:bw prog 44 2 6:=bK underlying44
instance:bw prog 44 3 7:=bK underlying44
instance:bw prog 44 4 26:=bK underlying44
instance:bw prog 44 5 27:=bK underlying44
instance:bw prog 44 6 28:=bK underlying44
instance:bw prog 44 7 29:=bK underlying44
instance:jt prog 44 [(0,5),(5,1),(6,1),(7,19),(26,1),(27,1),(28,1),(29,1)]:={}
instance:tl prog 51 55 21 248:=⟨TI.mk' underlying51 (by kernel_rfl)⟩
instance:dZ prog 58 true:=⟨_,underlying58,rfl⟩
instance:gN prog 58 19:={}
instance:k8 prog 58 (.agg #[(.int .i64 0),(.int .i64 0),(.int .i64 0),(.int .i64 0),(.int .i64 0),(.int .i64 0),(.int .i64 0),(.int .i64 0),(.bool false),(.bool false),(.bool false),(.slice none 0 0),(.slice none 0 0),(.slice none 0 0),(.string ⟨#[]⟩),(.string ⟨#[]⟩),(.bool false),(.int .u64 0),(.slice none 0 0)]):={}
instance:bw prog 58 0 0:=bK underlying58
instance:bw prog 58 1 1:=bK underlying58
instance:bw prog 58 2 2:=bK underlying58
instance:bw prog 58 3 3:=bK underlying58
instance:bw prog 58 4 4:=bK underlying58
instance:bw prog 58 5 5:=bK underlying58
instance:bw prog 58 6 6:=bK underlying58
instance:bw prog 58 7 7:=bK underlying58
instance:bw prog 58 8 8:=bK underlying58
instance:bw prog 58 9 9:=bK underlying58
instance:bw prog 58 10 10:=bK underlying58
instance:bw prog 58 11 11:=bK underlying58
instance:bw prog 58 12 12:=bK underlying58
instance:bw prog 58 13 13:=bK underlying58
instance:bw prog 58 14 14:=bK underlying58
instance:bw prog 58 15 17:=bK underlying58
instance:bw prog 58 16 18:=bK underlying58
instance:jt prog 58 [(0,1),(1,1),(2,1),(3,1),(4,1),(5,1),(6,1),(7,1),(8,1),(9,1),(10,1),(11,1),(12,1),(13,1),(14,3),(17,1),(18,1)]:={}
instance:gx prog 59 (.pointer 187):=⟨underlying59⟩
instance:dZ prog 59 false:=⟨_,underlying59,rfl⟩
instance:gx prog 60 (.pointer 164):=⟨underlying60⟩
instance:dZ prog 60 false:=⟨_,underlying60,rfl⟩
instance:gN prog 60 1:={}
instance:gN prog 62 23:={}
instance:k8 prog 62 (.agg #[(.int .i64 0),(.int .i64 0),(.int .i64 0),(.int .i64 0),(.int .i64 0),(.int .i64 0),(.int .i64 0),(.int .i64 0),(.bool false),(.bool false),(.bool false),(.slice none 0 0),(.slice none 0 0),(.slice none 0 0),(.string ⟨#[]⟩),(.string ⟨#[]⟩),(.bool false),(.int .u64 0),(.slice none 0 0),(.int .i64 0),(.pointer none),(.pointer none),(.slice none 0 0)]):={}
instance:bw prog 62 0 0:=bK underlying62
instance:bw prog 62 1 19:=bK underlying62
instance:bw prog 62 2 20:=bK underlying62
instance:bw prog 62 3 21:=bK underlying62
instance:bw prog 62 4 22:=bK underlying62
instance:jt prog 62 [(0,19),(19,1),(20,1),(21,1),(22,1)]:={}
instance:k8 prog 64 (.agg #[(.int .i64 0),(.slice none 0 0),(.slice none 0 0),(.slice none 0 0),(.int .i64 0),(.int .i64 0),(.bool false),(.int .i64 0),(.int .i64 0),(.int .i64 0),(.int .i64 0),(.int .i64 0),(.int .i64 0),(.int .i64 0),(.int .i64 0),(.bool false),(.bool false),(.bool false),(.slice none 0 0),(.slice none 0 0),(.slice none 0 0),(.string ⟨#[]⟩),(.string ⟨#[]⟩),(.bool false),(.int .u64 0),(.slice none 0 0),(.int .i64 0),(.pointer none),(.pointer none),(.slice none 0 0)]):={}
instance:bw prog 64 0 0:=bK underlying64
instance:bw prog 64 1 5:=bK underlying64
instance:bw prog 64 2 6:=bK underlying64
instance:bw prog 64 3 7:=bK underlying64
instance:jt prog 64 [(0,5),(5,1),(6,1),(7,23)]:={}
instance:dZ prog 80 true:=⟨_,underlying80,rfl⟩
instance:gN prog 80 2:={}
instance:k8 prog 80 (.agg #[(.int .i64 0),(.int .i64 0)]):={}
instance:bw prog 80 0 0:=bK underlying80
instance:bw prog 80 1 1:=bK underlying80
instance:dZ prog 82 true:=⟨_,underlying82,rfl⟩
instance:gN prog 82 7:={}
instance:k8 prog 82 (.agg #[(.string ⟨#[]⟩),(.int .i64 0),(.int .i64 0),(.int .i64 0),(.int .i64 0),(.bool false),(.string ⟨#[]⟩)]):={}
instance:bw prog 82 0 0:=bK underlying82
instance:bw prog 82 1 1:=bK underlying82
instance:bw prog 82 2 3:=bK underlying82
instance:bw prog 82 3 4:=bK underlying82
instance:bw prog 82 4 5:=bK underlying82
instance:bw prog 82 5 6:=bK underlying82
instance:jt prog 82 [(0,1),(1,2),(3,1),(4,1),(5,1),(6,1)]:={}
instance:dZ prog 87 true:=⟨_,underlying87,rfl⟩
instance:gN prog 87 3:={}
instance:k8 prog 87 (.agg #[(.slice none 0 0),(.int .i64 0),(.int .u64 0)]):={}
instance:bw prog 87 0 0:=bK underlying87
instance:bw prog 87 1 1:=bK underlying87
instance:bw prog 87 2 2:=bK underlying87
instance:jt prog 87 [(0,1),(1,1),(2,1)]:={}
instance:k8 prog 102 (.agg #[(.slice none 0 0),(.int .i64 0),(.int .i64 0)]):={}
instance:bw prog 102 0 0:=bK underlying102
instance:bw prog 102 1 1:=bK underlying102
instance:bw prog 102 2 2:=bK underlying102
instance:jt prog 102 [(0,1),(1,1),(2,1)]:={}
instance:gx prog 112 (.slice 3):=⟨underlying112⟩
instance:tl prog 112 3 1 8:=⟨TI.mk' underlying112 (by kernel_rfl)⟩
instance:gx prog 114 (.slice 27):=⟨underlying114⟩
instance:tl prog 114 27 1 24:=⟨TI.mk' underlying114 (by kernel_rfl)⟩
instance:gx prog 121 (.pointer 204):=⟨underlying121⟩
instance:dZ prog 121 false:=⟨_,underlying121,rfl⟩
instance:dZ prog 124 true:=⟨_,underlying124,rfl⟩
instance:gN prog 124 1:={}
instance:k8 prog 124 (.agg #[(.pointer none)]):={}
instance:bw prog 124 0 0:=bK underlying124
instance:jt prog 124 [(0,1)]:={}
instance:gx prog 130 (.slice 142):=⟨underlying130⟩
instance:dZ prog 130 false:=⟨_,underlying130,rfl⟩
instance:gN prog 130 1:={}
instance:tl prog 130 142 2 32:=⟨TI.mk' underlying130 (by kernel_rfl)⟩
instance:dZ prog 132 true:=⟨_,underlying132,rfl⟩
instance:gN prog 132 4:={}
instance:k8 prog 132 (.agg #[(.string ⟨#[]⟩),(.string ⟨#[]⟩),(.bool false),(.slice none 0 0)]):={}
instance:bw prog 132 0 0:=bK underlying132
instance:bw prog 132 1 3:=bK underlying132
instance:jt prog 132 [(0,3),(3,1)]:={}
instance:gx prog 140 (.slice 144):=⟨underlying140⟩
instance:dZ prog 140 false:=⟨_,underlying140,rfl⟩
instance:gN prog 140 1:={}
instance:tl prog 140 144 2 16:=⟨TI.mk' underlying140 (by kernel_rfl)⟩
instance:dZ prog 142 true:=⟨_,underlying142,rfl⟩
instance:gN prog 142 2:={}
instance:k8 prog 142 (.agg #[(.int .i64 0),(.slice none 0 0)]):={}
instance:bw prog 142 0 0:=bK underlying142
instance:bw prog 142 1 1:=bK underlying142
instance:jt prog 142 [(0,1),(1,1)]:={}
instance:dZ prog 144 true:=⟨_,underlying144,rfl⟩
instance:gN prog 144 2:={}
instance:k8 prog 144 (.agg #[(.int .i64 0),(.int .i64 0)]):={}
instance:bw prog 144 0 0:=bK underlying144
instance:bw prog 144 1 1:=bK underlying144
instance:jt prog 144 [(0,1),(1,1)]:={}
instance:gx prog 158 (.int .u32):=⟨underlying158⟩
instance:dZ prog 164 true:=⟨_,underlying164,rfl⟩
instance:gN prog 164 2:={}
instance:k8 prog 164 (.agg #[(.slice none 0 0),(.slice none 0 0)]):={}
instance:bw prog 164 0 0:=bK underlying164
instance:bw prog 164 1 1:=bK underlying164
instance:jt prog 164 [(0,1),(1,1)]:={}
instance:dZ prog 166 true:=⟨_,underlying166,rfl⟩
instance:gN prog 166 7:={}
instance:k8 prog 166 (.agg #[(.slice none 0 0),(.slice none 0 0),(.int .i64 0),(.slice none 0 0),(.slice none 0 0),(.int .i64 0),(.int .u64 0)]):={}
instance:bw prog 166 0 0:=bK underlying166
instance:bw prog 166 1 1:=bK underlying166
instance:bw prog 166 2 2:=bK underlying166
instance:bw prog 166 3 3:=bK underlying166
instance:bw prog 166 4 4:=bK underlying166
instance:jt prog 166 [(0,1),(1,1),(2,1),(3,1),(4,3)]:={}
instance:tl prog 172 171 4 48:=⟨TI.mk' underlying172 (by kernel_rfl)⟩
instance:tl prog 185 246 5 56:=⟨TI.mk' underlying185 (by kernel_rfl)⟩
instance:gx prog 194 (.pointer 266):=⟨underlying194⟩
instance:dZ prog 194 false:=⟨_,underlying194,rfl⟩
instance:gN prog 194 1:={}
instance:k8 prog 202 (.agg #[(.slice none 0 0),(.int .i64 0)]):={}
instance:bw prog 202 0 0:=bK underlying202
instance:bw prog 202 1 1:=bK underlying202
instance:jt prog 202 [(0,1),(1,1)]:={}
instance:k8 prog 204 (.agg #[(.slice none 0 0),(.int .i64 0)]):={}
instance:bw prog 204 0 0:=bK underlying204
instance:jt prog 204 [(0,2)]:={}
instance:gx prog 217 (.slice 9):=⟨underlying217⟩
instance:tl prog 217 9 1 16:=⟨TI.mk' underlying217 (by kernel_rfl)⟩
instance:gx prog 234 (.slice 80):=⟨underlying234⟩
instance:tl prog 234 80 2 16:=⟨TI.mk' underlying234 (by kernel_rfl)⟩
instance:gx prog 239 (.slice 24):=⟨underlying239⟩
instance:tl prog 239 24 1 24:=⟨TI.mk' underlying239 (by kernel_rfl)⟩
instance:dZ prog 247 true:=⟨_,underlying247,rfl⟩
instance:gN prog 247 4:={}
instance:k8 prog 247 (.agg #[(.string ⟨#[]⟩),(.string ⟨#[]⟩),(.bool false),(.int .u64 0)]):={}
instance:jt prog 247 [(0,3),(3,1)]:={}
instance:k8 prog 266 (.agg #[(.int .i64 0),(.int .i64 0),(.int .u64 0),(.slice none 0 0)]):={}
instance:bw prog 266 0 0:=bK underlying266
instance:bw prog 266 1 1:=bK underlying266
instance:bw prog 266 2 2:=bK underlying266
instance:bw prog 266 3 3:=bK underlying266
instance:jt prog 266 [(0,1),(1,1),(2,1),(3,1)]:={}
instance:gx prog 272 (.pointer 202):=⟨underlying272⟩
instance:dZ prog 274 true:=⟨_,underlying274,rfl⟩
instance:gN prog 274 1:={}
instance:k8 prog 274 (.agg #[(.pointer none)]):={}
instance:bw prog 274 0 0:=bK underlying274
instance:jt prog 274 [(0,1)]:={}
instance:dZ prog 277 true:=⟨_,underlying277,rfl⟩
instance:gN prog 277 1:={}
instance:k8 prog 277 (.agg #[(.pointer none)]):={}
instance:bw prog 277 0 0:=bK underlying277
instance:jt prog 277 [(0,1)]:={}
instance:dZ prog 279 true:=⟨_,underlying279,rfl⟩
instance:gN prog 279 1:={}
instance:k8 prog 279 (.agg #[(.pointer none)]):={}
instance:bw prog 279 0 0:=bK underlying279
instance:jt prog 279 [(0,1)]:={}
instance:gx prog 294 (.array 16 140):=⟨underlying294⟩
instance:dZ prog 294 true:=⟨_,underlying294,rfl⟩
instance:gN prog 294 16:={}
instance:k8 prog 294 (.agg #[(.slice none 0 0),(.slice none 0 0),(.slice none 0 0),(.slice none 0 0),(.slice none 0 0),(.slice none 0 0),(.slice none 0 0),(.slice none 0 0),(.slice none 0 0),(.slice none 0 0),(.slice none 0 0),(.slice none 0 0),(.slice none 0 0),(.slice none 0 0),(.slice none 0 0),(.slice none 0 0)]):={}
instance:dZ prog 308 true:=⟨_,underlying308,rfl⟩
instance:gN prog 308 5:={}
instance:k8 prog 308 (.agg #[(.slice none 0 0),(.slice none 0 0),(.int .i64 0),(.slice none 0 0),(.pointer none)]):={}
instance:bw prog 308 0 0:=bK underlying308
instance:bw prog 308 1 1:=bK underlying308
instance:bw prog 308 2 2:=bK underlying308
instance:bw prog 308 3 3:=bK underlying308
instance:bw prog 308 4 4:=bK underlying308
instance:jt prog 308 [(0,1),(1,1),(2,1),(3,1),(4,1)]:={}
instance:gx prog 311 (.int .u64):=⟨underlying311⟩
instance:gx prog 386 (.slice 389):=⟨underlying386⟩
instance:tl prog 386 389 8 80:=⟨TI.mk' underlying386 (by kernel_rfl)⟩
instance:dZ prog 389 true:=⟨_,underlying389,rfl⟩
instance:gN prog 389 8:={}
instance:k8 prog 389 (.agg #[(.string ⟨#[]⟩),(.int .i64 0),(.int .i64 0),(.int .i64 0),(.int .i64 0),(.bool false),(.string ⟨#[]⟩),(.int .i64 0)]):={}
instance:bw prog 389 0 0:=bK underlying389
instance:bw prog 389 1 7:=bK underlying389
instance:jt prog 389 [(0,7),(7,1)]:={}
theorem cI:prog.follows .mixedOrders=true:=by kernel_rfl
end Go.Proofs.YtaclhhkblbacgaaGreat
