/- Lemmas, walks. -/
import Derived.Test.YtecdgdoledkdfaaGreatJ02
import Derived.Test.YtecdgdoledkdfaaGreatProg
namespace Go.Proofs.YtecdgdoledkdfaaGreat
open Go.RowKit Go.Proofs.Tryz
variable {x y:Operand}
section
variable {P:Program} {n:Nat} {ops:Array Oper} {o:Oper} {F:List Nat} {S T:St} {t:Nat}
theorem ag {j tg:Nat}{want b:Bool}{c:Cnt}{bk:Upd}(hg:o.guard=some (j,want))(hj:(ops[j]?).bind (·.dst)=some tg)(htg:Nat.blt tg n=true)
 (hb:S.get tg=bC b) (hw:b=want) (h:aB n P ops { o with guard:=none } F c bk S):aB n P ops o (2*tg::F) c bk S:=by
 refine⟨?_⟩
 intro C T hA a w ⟨g,hR⟩
 have hv:a.tmps.getD tg undef=.bool b:=by
  have:=hR.slots tg
  rw[hA.1 tg aA,hb]at this;exact this
 have hy:=k7 (ops:=ops) hj hv (by rw[hR.tsz];simp_all)
 unfold jg
 rw[aae (by grind[Region.wanted,mf])]
 have hA':ed F T S:=⟨λt h=>hA.1 t (by simp[h]),λid h=>hA.2 id (by simp[h])⟩
 have:=h.run C T hA' a w ⟨g,hR⟩
 unfold jg at this
 rw[aae (by simp[Region.wanted])]at this
 exact this
theorem W6 {j tg:Nat}{want b:Bool}(hg:o.guard=some (j,want))(hd:o.dst=some t)(ht:Nat.blt t n=true)(hj:(ops[j]?).bind (·.dst)=some tg)(htg:Nat.blt tg n=true)
 (hb:S.get tg=bC b) (hw:b=!want):aB n P ops o [2*tg] (.per (ai undef)) [] S:=by
 refine⟨?_⟩
 intro C T hA a w ⟨g,hR⟩
 have hv:a.tmps.getD tg undef=.bool b:=by
  have:=hR.slots tg
  rw[hA.1 tg aA,hb]at this;exact this
 have hy:=k7 (ops:=ops) hj hv (by rw[hR.tsz];simp_all)
 have hdk:dOk n o.dst:=λt' e=>by rw[hd]at e;simp_all
 unfold jg
 rw[aab (by grind[Region.wanted,mf])]
 exact⟨g,hR.app0 (bQ.refl w) hdk rfl⟩
theorem NR {j tg:Nat}{want:Bool}(hg:o.guard=some (j,want))(hd:o.dst=some t)(ht:Nat.blt t n=true)(hj:(ops[j]?).bind (·.dst)=some tg)(htg:Nat.blt tg n=true)
 (hb:S.get tg=.per (ai undef)):aB n P ops o [2*tg] (.per (ai undef)) [] S:=by
 refine⟨?_⟩
 intro C T hA a w ⟨g,hR⟩
 have hv:a.tmps.getD tg undef=undef:=by
  have:=hR.slots tg
  rw[hA.1 tg aA,hb]at this;exact this
 have hy:=k7 (ops:=ops) hj hv (by rw[hR.tsz];simp_all)
 have hdk:dOk n o.dst:=λt' e=>by rw[hd]at e;simp_all
 unfold jg
 rw[aab (by grind[Region.wanted,undef,mf])]
 exact⟨g,hR.app0 (bQ.refl w) hdk rfl⟩
theorem zP {c:Operand}{b p:Bool}(hp:Pl n o t)(ho:o.op=.pick c x y)(hc:S.opd c=bC b)(hb:b=true)(hx:S.opd x=bC p):aB n P ops o (aG c++aG x++aG y) (bC p) [] S:=by
 subst hb
 exact pF (p:=p) (q:=p) hp ho hc (λ_=>hx) (λh=>by cases h)
theorem zQ {c:Operand}{b p:Bool}(hp:Pl n o t)(ho:o.op=.pick c x y)(hc:S.opd c=bC b)(hb:b=false)(hy:S.opd y=bC p):aB n P ops o (aG c++aG x++aG y) (bC p) [] S:=by
 subst hb
 exact pF (p:=p) (q:=p) hp ho hc (λh=>by cases h) (λ_=>hy)
theorem NS {ty ty':TypeId}{k:IntKind}{u v:Int}(hp:Pl n o t)(ho:o.op=.call { callee:=.builtin .max,args:=#[x,y],argTypes:=#[ty,ty'] })(hx:S.opd x=iC k u)(hy:S.opd y=iC k v) :
 aB n P ops o (aG x++aG y) (iC k (if v>u then v else u)) [] S:=
 aZ hp λC T g a w hA hR=>by
  have h1:=bf (x:=x) hA (λk h=>by simp[h]) hR hx
  have h2:=bf (x:=y) hA (λk h=>by simp[h]) hR hy
  refine⟨.int k (if v>u then v else u),?_,rfl⟩
  simp_all[execOp,resolve,invoke,builtin,run_max_int2]
theorem W7 {ty ty':TypeId}{k:IntKind}{u v:Int}(hp:Pl n o t)(ho:o.op=.call { callee:=.builtin .min,args:=#[x,y],argTypes:=#[ty,ty'] })(hx:S.opd x=iC k u)(hy:S.opd y=iC k v) :
 aB n P ops o (aG x++aG y) (iC k (if v<u then v else u)) [] S:=
 aZ hp λC T g a w hA hR=>by
  have h1:=bf (x:=x) hA (λk h=>by simp[h]) hR hx
  have h2:=bf (x:=y) hA (λk h=>by simp[h]) hR hy
  refine⟨.int k (if v<u then v else u),?_,rfl⟩
  simp_all[execOp,resolve,invoke,builtin,run_min_int2]
end
instance:gB prog 3 (.int .i64):=⟨underlying3⟩
instance:dH prog 3 false:=⟨_,underlying3,rfl⟩
instance:gC prog 3 1:={}
instance:ky prog 3 (.int .i64 0):={}
instance:dH prog 4 false:=⟨_,underlying4,rfl⟩
instance:gC prog 4 1:={}
instance:ky prog 4 (.bool false):={}
instance:gB prog 5 (.int .u8):=⟨underlying5⟩
instance:dH prog 5 false:=⟨_,underlying5,rfl⟩
instance:gC prog 5 1:={}
instance:ky prog 5 (.int .u8 0):={}
instance:gB prog 9 .string:=⟨underlying9⟩
instance:dH prog 9 false:=⟨_,underlying9,rfl⟩
instance:gC prog 9 1:={}
instance:ky prog 9 (.string ⟨#[]⟩):={}
instance:gB prog 22 (.slice 40):=⟨underlying22⟩
instance:dH prog 22 false:=⟨_,underlying22,rfl⟩
instance:gC prog 22 1:={}
instance:ky prog 22 (.slice none 0 0):={}
instance:vI prog 22 40 3 40:=⟨TI.mk' underlying22 (by kernel_rfl)⟩
instance:gB prog 23 (.slice 79):=⟨underlying23⟩
instance:dH prog 23 false:=⟨_,underlying23,rfl⟩
instance:gC prog 23 1:={}
instance:ky prog 23 (.slice none 0 0):={}
instance:vI prog 23 79 7 72:=⟨TI.mk' underlying23 (by kernel_rfl)⟩
instance:gB prog 24 (.slice 112):=⟨underlying24⟩
instance:dH prog 24 false:=⟨_,underlying24,rfl⟩
instance:gC prog 24 1:={}
instance:ky prog 24 (.slice none 0 0):={}
instance:vI prog 24 112 4 64:=⟨TI.mk' underlying24 (by kernel_rfl)⟩
instance:dH prog 26 true:=⟨_,underlying26,rfl⟩
instance:gC prog 26 5:={}
instance:ky prog 26 (.agg #[(.int .i64 0),(.slice none 0 0),(.slice none 0 0),(.slice none 0 0),(.int .i64 0)]):={}
instance:bg prog 26 0 0:=bq underlying26
instance:bg prog 26 1 1:=bq underlying26
instance:bg prog 26 2 2:=bq underlying26
instance:bg prog 26 3 3:=bq underlying26
instance:bg prog 26 4 4:=bq underlying26
instance:ir prog 26 [(0,1),(1,1),(2,1),(3,1),(4,1)]:={}
instance:gB prog 27 (.slice 49):=⟨underlying27⟩
instance:vI prog 27 49 21 248:=⟨TI.mk' underlying27 (by kernel_rfl)⟩
instance:gB prog 31 (.pointer 58):=⟨underlying31⟩
instance:dH prog 32 false:=⟨_,underlying32,rfl⟩
instance:gC prog 32 1:={}
instance:gB prog 35 (.slice 5):=⟨underlying35⟩
instance:dH prog 35 false:=⟨_,underlying35,rfl⟩
instance:gC prog 35 1:={}
instance:ky prog 35 (.slice none 0 0):={}
instance:vI prog 35 5 1 1:=⟨TI.mk' underlying35 (by kernel_rfl)⟩
instance:dH prog 40 true:=⟨_,underlying40,rfl⟩
instance:gC prog 40 3:={}
instance:ky prog 40 (.agg #[(.string ⟨#[]⟩),(.string ⟨#[]⟩),(.bool false)]):={}
instance:bg prog 40 0 0:=bq underlying40
instance:bg prog 40 1 1:=bq underlying40
instance:bg prog 40 2 2:=bq underlying40
instance:ir prog 40 [(0,1),(1,1),(2,1)]:={}
instance:gB prog 41 (.int .u64):=⟨underlying41⟩
instance:dH prog 41 false:=⟨_,underlying41,rfl⟩
instance:gC prog 41 1:={}
instance:dH prog 43 true:=⟨_,underlying43,rfl⟩
instance:gC prog 43 19:={}
instance:ky prog 43 (.agg #[(.int .i64 0),(.int .i64 0),(.int .i64 0),(.int .i64 0),(.int .i64 0),(.int .i64 0),(.int .i64 0),(.int .i64 0),(.bool false),(.bool false),(.bool false),(.slice none 0 0),(.slice none 0 0),(.slice none 0 0),(.string ⟨#[]⟩),(.string ⟨#[]⟩),(.bool false),(.int .u64 0),(.slice none 0 0)]):={}
instance:bg prog 43 0 0:=bq underlying43
instance:bg prog 43 1 1:=bq underlying43
instance:bg prog 43 2 2:=bq underlying43
instance:bg prog 43 3 3:=bq underlying43
instance:bg prog 43 4 4:=bq underlying43
instance:bg prog 43 5 5:=bq underlying43
instance:bg prog 43 6 6:=bq underlying43
instance:bg prog 43 7 7:=bq underlying43
instance:bg prog 43 8 8:=bq underlying43
instance:bg prog 43 9 9:=bq underlying43
instance:bg prog 43 10 10:=bq underlying43
instance:bg prog 43 11 11:=bq underlying43
instance:bg prog 43 12 12:=bq underlying43
instance:bg prog 43 13 13:=bq underlying43
instance:bg prog 43 14 14:=bq underlying43
instance:bg prog 43 15 17:=bq underlying43
instance:bg prog 43 16 18:=bq underlying43
instance:ir prog 43 [(0,1),(1,1),(2,1),(3,1),(4,1),(5,1),(6,1),(7,1),(8,1),(9,1),(10,1),(11,1),(12,1),(13,1),(14,3),(17,1),(18,1)]:={}
instance:gB prog 44 (.slice 4):=⟨underlying44⟩
instance:dH prog 44 false:=⟨_,underlying44,rfl⟩
instance:gC prog 44 1:={}
instance:vI prog 44 4 1 1:=⟨TI.mk' underlying44 (by kernel_rfl)⟩
instance:gB prog 45 (.slice 23):=⟨underlying45⟩
instance:dH prog 45 false:=⟨_,underlying45,rfl⟩
instance:gC prog 45 1:={}
instance:vI prog 45 23 1 24:=⟨TI.mk' underlying45 (by kernel_rfl)⟩
instance:ky prog 47 (.agg #[(.int .i64 0),(.slice none 0 0),(.slice none 0 0),(.slice none 0 0),(.int .i64 0),(.int .i64 0),(.int .i64 0),(.int .i64 0),(.int .i64 0),(.int .i64 0),(.int .i64 0),(.int .i64 0),(.int .i64 0),(.int .i64 0),(.int .i64 0),(.bool false),(.bool false),(.bool false),(.slice none 0 0),(.slice none 0 0),(.slice none 0 0),(.string ⟨#[]⟩),(.string ⟨#[]⟩),(.bool false),(.int .u64 0),(.slice none 0 0),(.slice none 0 0),(.slice none 0 0),(.slice none 0 0),(.slice none 0 0)]):={}
instance:bg prog 47 0 0:=bq underlying47
instance:bg prog 47 1 5:=bq underlying47
instance:bg prog 47 2 6:=bq underlying47
instance:bg prog 47 3 7:=bq underlying47
instance:bg prog 47 4 26:=bq underlying47
instance:bg prog 47 5 27:=bq underlying47
instance:bg prog 47 6 28:=bq underlying47
instance:bg prog 47 7 29:=bq underlying47
instance:ir prog 47 [(0,5),(5,1),(6,1),(7,19),(26,1),(27,1),(28,1),(29,1)]:={}
instance:dH prog 49 true:=⟨_,underlying49,rfl⟩
instance:gC prog 49 21:={}
instance:ky prog 49 (.agg #[(.int .i64 0),(.int .i64 0),(.int .i64 0),(.int .i64 0),(.int .i64 0),(.int .i64 0),(.int .i64 0),(.int .i64 0),(.bool false),(.bool false),(.bool false),(.slice none 0 0),(.slice none 0 0),(.slice none 0 0),(.string ⟨#[]⟩),(.string ⟨#[]⟩),(.bool false),(.int .u64 0),(.slice none 0 0),(.slice none 0 0),(.bool false)]):={}
instance:bg prog 49 0 0:=bq underlying49
instance:bg prog 49 1 19:=bq underlying49
instance:bg prog 49 2 20:=bq underlying49
instance:dH prog 52 true:=⟨_,underlying52,rfl⟩
instance:gC prog 52 19:={}
instance:ky prog 52 (.agg #[(.int .i64 0),(.int .i64 0),(.int .i64 0),(.int .i64 0),(.int .i64 0),(.int .i64 0),(.int .i64 0),(.int .i64 0),(.bool false),(.bool false),(.bool false),(.slice none 0 0),(.slice none 0 0),(.slice none 0 0),(.string ⟨#[]⟩),(.string ⟨#[]⟩),(.bool false),(.int .u64 0),(.slice none 0 0)]):={}
instance:bg prog 52 0 0:=bq underlying52
instance:bg prog 52 1 1:=bq underlying52
instance:bg prog 52 2 2:=bq underlying52
instance:bg prog 52 3 3:=bq underlying52
instance:bg prog 52 4 4:=bq underlying52
instance:bg prog 52 5 5:=bq underlying52
instance:bg prog 52 6 6:=bq underlying52
instance:bg prog 52 7 7:=bq underlying52
instance:bg prog 52 8 8:=bq underlying52
instance:bg prog 52 9 9:=bq underlying52
instance:bg prog 52 10 10:=bq underlying52
instance:bg prog 52 11 11:=bq underlying52
instance:bg prog 52 12 12:=bq underlying52
instance:bg prog 52 13 13:=bq underlying52
instance:bg prog 52 14 14:=bq underlying52
instance:bg prog 52 15 17:=bq underlying52
instance:bg prog 52 16 18:=bq underlying52
instance:ir prog 52 [(0,1),(1,1),(2,1),(3,1),(4,1),(5,1),(6,1),(7,1),(8,1),(9,1),(10,1),(11,1),(12,1),(13,1),(14,3),(17,1),(18,1)]:={}
instance:gB prog 53 (.pointer 140):=⟨underlying53⟩
instance:dH prog 53 false:=⟨_,underlying53,rfl⟩
instance:gC prog 53 1:={}
instance:gB prog 54 (.pointer 136):=⟨underlying54⟩
instance:dH prog 54 false:=⟨_,underlying54,rfl⟩
instance:gC prog 54 1:={}
instance:gC prog 56 23:={}
instance:ky prog 56 (.agg #[(.int .i64 0),(.int .i64 0),(.int .i64 0),(.int .i64 0),(.int .i64 0),(.int .i64 0),(.int .i64 0),(.int .i64 0),(.bool false),(.bool false),(.bool false),(.slice none 0 0),(.slice none 0 0),(.slice none 0 0),(.string ⟨#[]⟩),(.string ⟨#[]⟩),(.bool false),(.int .u64 0),(.slice none 0 0),(.int .i64 0),(.pointer none),(.pointer none),(.slice none 0 0)]):={}
instance:bg prog 56 0 0:=bq underlying56
instance:bg prog 56 1 19:=bq underlying56
instance:bg prog 56 2 20:=bq underlying56
instance:bg prog 56 3 21:=bq underlying56
instance:bg prog 56 4 22:=bq underlying56
instance:ir prog 56 [(0,19),(19,1),(20,1),(21,1),(22,1)]:={}
instance:ky prog 58 (.agg #[(.int .i64 0),(.slice none 0 0),(.slice none 0 0),(.slice none 0 0),(.int .i64 0),(.int .i64 0),(.bool false),(.int .i64 0),(.int .i64 0),(.int .i64 0),(.int .i64 0),(.int .i64 0),(.int .i64 0),(.int .i64 0),(.int .i64 0),(.bool false),(.bool false),(.bool false),(.slice none 0 0),(.slice none 0 0),(.slice none 0 0),(.string ⟨#[]⟩),(.string ⟨#[]⟩),(.bool false),(.int .u64 0),(.slice none 0 0),(.int .i64 0),(.pointer none),(.pointer none),(.slice none 0 0)]):={}
instance:bg prog 58 0 0:=bq underlying58
instance:bg prog 58 1 5:=bq underlying58
instance:bg prog 58 2 6:=bq underlying58
instance:bg prog 58 3 7:=bq underlying58
instance:ir prog 58 [(0,5),(5,1),(6,1),(7,23)]:={}
instance:dH prog 77 true:=⟨_,underlying77,rfl⟩
instance:gC prog 77 2:={}
instance:ky prog 77 (.agg #[(.int .i64 0),(.int .i64 0)]):={}
instance:bg prog 77 0 0:=bq underlying77
instance:bg prog 77 1 1:=bq underlying77
instance:dH prog 79 true:=⟨_,underlying79,rfl⟩
instance:gC prog 79 7:={}
instance:ky prog 79 (.agg #[(.string ⟨#[]⟩),(.int .i64 0),(.int .i64 0),(.int .i64 0),(.int .i64 0),(.bool false),(.string ⟨#[]⟩)]):={}
instance:bg prog 79 0 0:=bq underlying79
instance:bg prog 79 1 1:=bq underlying79
instance:bg prog 79 2 3:=bq underlying79
instance:bg prog 79 3 4:=bq underlying79
instance:bg prog 79 4 5:=bq underlying79
instance:bg prog 79 5 6:=bq underlying79
instance:ir prog 79 [(0,1),(1,2),(3,1),(4,1),(5,1),(6,1)]:={}
instance:gB prog 92 (.slice 3):=⟨underlying92⟩
instance:vI prog 92 3 1 8:=⟨TI.mk' underlying92 (by kernel_rfl)⟩
instance:gB prog 94 (.slice 35):=⟨underlying94⟩
instance:vI prog 94 35 1 24:=⟨TI.mk' underlying94 (by kernel_rfl)⟩
instance:gB prog 101 (.pointer 188):=⟨underlying101⟩
instance:dH prog 101 false:=⟨_,underlying101,rfl⟩
instance:dH prog 104 true:=⟨_,underlying104,rfl⟩
instance:gC prog 104 1:={}
instance:ky prog 104 (.agg #[(.pointer none)]):={}
instance:bg prog 104 0 0:=bq underlying104
instance:ir prog 104 [(0,1)]:={}
instance:gB prog 110 (.slice 127):=⟨underlying110⟩
instance:dH prog 110 false:=⟨_,underlying110,rfl⟩
instance:gC prog 110 1:={}
instance:vI prog 110 127 2 32:=⟨TI.mk' underlying110 (by kernel_rfl)⟩
instance:dH prog 112 true:=⟨_,underlying112,rfl⟩
instance:gC prog 112 4:={}
instance:ky prog 112 (.agg #[(.string ⟨#[]⟩),(.string ⟨#[]⟩),(.bool false),(.slice none 0 0)]):={}
instance:bg prog 112 0 0:=bq underlying112
instance:bg prog 112 1 3:=bq underlying112
instance:ir prog 112 [(0,3),(3,1)]:={}
instance:gB prog 125 (.slice 129):=⟨underlying125⟩
instance:dH prog 125 false:=⟨_,underlying125,rfl⟩
instance:gC prog 125 1:={}
instance:vI prog 125 129 2 16:=⟨TI.mk' underlying125 (by kernel_rfl)⟩
instance:dH prog 127 true:=⟨_,underlying127,rfl⟩
instance:gC prog 127 2:={}
instance:ky prog 127 (.agg #[(.int .i64 0),(.slice none 0 0)]):={}
instance:bg prog 127 0 0:=bq underlying127
instance:bg prog 127 1 1:=bq underlying127
instance:ir prog 127 [(0,1),(1,1)]:={}
instance:dH prog 129 true:=⟨_,underlying129,rfl⟩
instance:gC prog 129 2:={}
instance:ky prog 129 (.agg #[(.int .i64 0),(.int .i64 0)]):={}
instance:bg prog 129 0 0:=bq underlying129
instance:bg prog 129 1 1:=bq underlying129
instance:ir prog 129 [(0,1),(1,1)]:={}
instance:dH prog 136 true:=⟨_,underlying136,rfl⟩
instance:gC prog 136 2:={}
instance:ky prog 136 (.agg #[(.slice none 0 0),(.slice none 0 0)]):={}
instance:bg prog 136 0 0:=bq underlying136
instance:bg prog 136 1 1:=bq underlying136
instance:ir prog 136 [(0,1),(1,1)]:={}
instance:gB prog 137 (.pointer 296):=⟨underlying137⟩
instance:dH prog 137 false:=⟨_,underlying137,rfl⟩
instance:gB prog 138 (.slice 227):=⟨underlying138⟩
instance:dH prog 138 false:=⟨_,underlying138,rfl⟩
instance:gC prog 138 1:={}
instance:vI prog 138 227 5 56:=⟨TI.mk' underlying138 (by kernel_rfl)⟩
instance:ky prog 140 (.agg #[(.pointer none),(.slice none 0 0),(.slice none 0 0),(.int .i64 0)]):={}
instance:bg prog 140 0 0:=bq underlying140
instance:bg prog 140 1 1:=bq underlying140
instance:bg prog 140 2 2:=bq underlying140
instance:bg prog 140 3 3:=bq underlying140
instance:ir prog 140 [(0,1),(1,1),(2,1),(3,1)]:={}
instance:ky prog 145 (.agg #[(.slice none 0 0),(.int .i64 0),(.int .i64 0)]):={}
instance:bg prog 145 0 0:=bq underlying145
instance:bg prog 145 1 1:=bq underlying145
instance:bg prog 145 2 2:=bq underlying145
instance:ir prog 145 [(0,1),(1,1),(2,1)]:={}
instance:dH prog 155 true:=⟨_,underlying155,rfl⟩
instance:gC prog 155 3:={}
instance:ky prog 155 (.agg #[(.slice none 0 0),(.int .i64 0),(.int .u64 0)]):={}
instance:bg prog 155 0 0:=bq underlying155
instance:bg prog 155 1 1:=bq underlying155
instance:bg prog 155 2 2:=bq underlying155
instance:ir prog 155 [(0,1),(1,1),(2,1)]:={}
instance:dH prog 157 true:=⟨_,underlying157,rfl⟩
instance:gC prog 157 7:={}
instance:ky prog 157 (.agg #[(.slice none 0 0),(.slice none 0 0),(.int .i64 0),(.slice none 0 0),(.slice none 0 0),(.int .i64 0),(.int .u64 0)]):={}
instance:bg prog 157 0 0:=bq underlying157
instance:bg prog 157 1 1:=bq underlying157
instance:bg prog 157 2 2:=bq underlying157
instance:bg prog 157 3 3:=bq underlying157
instance:bg prog 157 4 4:=bq underlying157
instance:ir prog 157 [(0,1),(1,1),(2,1),(3,1),(4,3)]:={}
instance:dH prog 162 true:=⟨_,underlying162,rfl⟩
instance:gC prog 162 4:={}
instance:ky prog 162 (.agg #[(.string ⟨#[]⟩),(.string ⟨#[]⟩),(.bool false),(.int .u64 0)]):={}
instance:bg prog 162 0 0:=bq underlying162
instance:bg prog 162 1 3:=bq underlying162
instance:ir prog 162 [(0,3),(3,1)]:={}
instance:gB prog 163 (.slice 162):=⟨underlying163⟩
instance:dH prog 163 false:=⟨_,underlying163,rfl⟩
instance:gC prog 163 1:={}
instance:vI prog 163 162 4 48:=⟨TI.mk' underlying163 (by kernel_rfl)⟩
instance:ky prog 165 (.agg #[(.slice none 0 0),(.int .u64 0),(.int .i64 0),(.slice none 0 0),(.slice none 0 0),(.slice none 0 0)]):={}
instance:bg prog 165 0 0:=bq underlying165
instance:bg prog 165 1 1:=bq underlying165
instance:bg prog 165 2 2:=bq underlying165
instance:bg prog 165 3 3:=bq underlying165
instance:bg prog 165 4 4:=bq underlying165
instance:bg prog 165 5 5:=bq underlying165
instance:ir prog 165 [(0,1),(1,1),(2,1),(3,1),(4,1),(5,1)]:={}
instance:gB prog 176 (.pointer 260):=⟨underlying176⟩
instance:dH prog 176 false:=⟨_,underlying176,rfl⟩
instance:gC prog 176 1:={}
instance:gB prog 180 (.int .u32):=⟨underlying180⟩
instance:ky prog 186 (.agg #[(.slice none 0 0),(.int .i64 0)]):={}
instance:bg prog 186 0 0:=bq underlying186
instance:bg prog 186 1 1:=bq underlying186
instance:ir prog 186 [(0,1),(1,1)]:={}
instance:ky prog 188 (.agg #[(.slice none 0 0),(.int .i64 0)]):={}
instance:bg prog 188 0 0:=bq underlying188
instance:ir prog 188 [(0,2)]:={}
instance:gB prog 203 (.slice 9):=⟨underlying203⟩
instance:vI prog 203 9 1 16:=⟨TI.mk' underlying203 (by kernel_rfl)⟩
instance:gB prog 208 (.slice 77):=⟨underlying208⟩
instance:vI prog 208 77 2 16:=⟨TI.mk' underlying208 (by kernel_rfl)⟩
instance:gB prog 213 (.slice 24):=⟨underlying213⟩
instance:vI prog 213 24 1 24:=⟨TI.mk' underlying213 (by kernel_rfl)⟩
instance:dH prog 227 true:=⟨_,underlying227,rfl⟩
instance:gC prog 227 5:={}
instance:ky prog 227 (.agg #[(.int .i64 0),(.int .i64 0),(.string ⟨#[]⟩),(.string ⟨#[]⟩),(.bool false)]):={}
instance:bg prog 227 0 0:=bq underlying227
instance:bg prog 227 1 1:=bq underlying227
instance:bg prog 227 2 2:=bq underlying227
instance:ir prog 227 [(0,1),(1,1),(2,3)]:={}
instance:dH prog 228 true:=⟨_,underlying228,rfl⟩
instance:gC prog 228 4:={}
instance:ky prog 228 (.agg #[(.string ⟨#[]⟩),(.string ⟨#[]⟩),(.bool false),(.int .u64 0)]):={}
instance:bg prog 228 0 0:=bq underlying228
instance:bg prog 228 1 3:=bq underlying228
instance:ir prog 228 [(0,3),(3,1)]:={}
instance:ky prog 260 (.agg #[(.int .i64 0),(.int .i64 0),(.int .u64 0),(.slice none 0 0)]):={}
instance:bg prog 260 0 0:=bq underlying260
instance:bg prog 260 1 1:=bq underlying260
instance:bg prog 260 2 2:=bq underlying260
instance:bg prog 260 3 3:=bq underlying260
instance:ir prog 260 [(0,1),(1,1),(2,1),(3,1)]:={}
instance:gB prog 266 (.pointer 186):=⟨underlying266⟩
instance:dH prog 268 true:=⟨_,underlying268,rfl⟩
instance:gC prog 268 1:={}
instance:ky prog 268 (.agg #[(.pointer none)]):={}
instance:bg prog 268 0 0:=bq underlying268
instance:ir prog 268 [(0,1)]:={}
instance:dH prog 271 true:=⟨_,underlying271,rfl⟩
instance:gC prog 271 1:={}
instance:ky prog 271 (.agg #[(.pointer none)]):={}
instance:bg prog 271 0 0:=bq underlying271
instance:ir prog 271 [(0,1)]:={}
instance:dH prog 273 true:=⟨_,underlying273,rfl⟩
instance:gC prog 273 1:={}
instance:ky prog 273 (.agg #[(.pointer none)]):={}
instance:bg prog 273 0 0:=bq underlying273
instance:ir prog 273 [(0,1)]:={}
instance:gB prog 285 (.array 16 125):=⟨underlying285⟩
instance:dH prog 285 true:=⟨_,underlying285,rfl⟩
instance:gC prog 285 16:={}
instance:ky prog 285 (.agg #[(.slice none 0 0),(.slice none 0 0),(.slice none 0 0),(.slice none 0 0),(.slice none 0 0),(.slice none 0 0),(.slice none 0 0),(.slice none 0 0),(.slice none 0 0),(.slice none 0 0),(.slice none 0 0),(.slice none 0 0),(.slice none 0 0),(.slice none 0 0),(.slice none 0 0),(.slice none 0 0)]):={}
instance:gB prog 294 (.pointer 308):=⟨underlying294⟩
instance:dH prog 294 false:=⟨_,underlying294,rfl⟩
instance:gC prog 294 1:={}
instance:ky prog 296 (.agg #[(.pointer none),(.int .u64 0),(.int .i64 0)]):={}
instance:bg prog 296 0 0:=bq underlying296
instance:bg prog 296 1 1:=bq underlying296
instance:bg prog 296 2 2:=bq underlying296
instance:ir prog 296 [(0,1),(1,1),(2,1)]:={}
instance:dH prog 302 true:=⟨_,underlying302,rfl⟩
instance:gC prog 302 5:={}
instance:ky prog 302 (.agg #[(.slice none 0 0),(.slice none 0 0),(.int .i64 0),(.slice none 0 0),(.pointer none)]):={}
instance:bg prog 302 0 0:=bq underlying302
instance:bg prog 302 1 1:=bq underlying302
instance:bg prog 302 2 2:=bq underlying302
instance:bg prog 302 3 3:=bq underlying302
instance:bg prog 302 4 4:=bq underlying302
instance:ir prog 302 [(0,1),(1,1),(2,1),(3,1),(4,1)]:={}
instance:gB prog 305 (.int .u64):=⟨underlying305⟩
instance:ky prog 308 (.agg #[(.string ⟨#[]⟩),(.int .i64 0),(.int .i64 0),(.int .i64 0),(.int .i64 0),(.bool false),(.string ⟨#[]⟩),(.pointer none),(.pointer none),(.int .i64 0),(.int .i64 0),(.int .u64 0),(.int .u64 0)]):={}
instance:bg prog 308 0 0:=bq underlying308
instance:bg prog 308 1 7:=bq underlying308
instance:bg prog 308 2 8:=bq underlying308
instance:bg prog 308 3 9:=bq underlying308
instance:bg prog 308 4 10:=bq underlying308
instance:bg prog 308 5 11:=bq underlying308
instance:bg prog 308 6 12:=bq underlying308
instance:ir prog 308 [(0,7),(7,1),(8,1),(9,1),(10,1),(11,1),(12,1)]:={}
instance:gB prog 385 (.slice 388):=⟨underlying385⟩
instance:vI prog 385 388 8 80:=⟨TI.mk' underlying385 (by kernel_rfl)⟩
instance:dH prog 388 true:=⟨_,underlying388,rfl⟩
instance:gC prog 388 8:={}
instance:ky prog 388 (.agg #[(.string ⟨#[]⟩),(.int .i64 0),(.int .i64 0),(.int .i64 0),(.int .i64 0),(.bool false),(.string ⟨#[]⟩),(.int .i64 0)]):={}
instance:bg prog 388 0 0:=bq underlying388
instance:bg prog 388 1 7:=bq underlying388
instance:ir prog 388 [(0,7),(7,1)]:={}
theorem cI:prog.follows .mixedOrders=true:=by kernel_rfl
section
variable {P:Program} {n:Nat} {ops:Array Oper} {o:Oper} {F:List Nat} {S:St} {c:Cnt} {b:Upd}
theorem W8 (h:aB n P ops o F c b S:=by(first|(apply bn 0;(focus rfl);first|exact cZ (c:=.per _) ⟨rfl,rfl,rfl⟩ rfl rfl|exact cZ (c:=.row _ _) ⟨rfl,rfl,rfl⟩ rfl rfl|exact cZ (c:=.bor _ _) ⟨rfl,rfl,rfl⟩ rfl rfl|exact cZ (c:=.ptr _ _ _) ⟨rfl,rfl,rfl⟩ rfl rfl|exact cZ (c:=.tup2 _ _) ⟨rfl,rfl,rfl⟩ rfl rfl)|(apply bn 1;(focus rfl);first|exact dn (c:=.per _) ⟨rfl,rfl,rfl⟩ rfl rfl|exact dn (c:=.row _ _) ⟨rfl,rfl,rfl⟩ rfl rfl|exact dn (c:=.bor _ _) ⟨rfl,rfl,rfl⟩ rfl rfl|exact dn (c:=.ptr _ _ _) ⟨rfl,rfl,rfl⟩ rfl rfl)|(apply bn 2;(focus rfl);apply pF<;>first|exact⟨rfl,rfl,rfl⟩|rfl|(intro hb0;first|rfl|exact av rfl (by rw[hb0];rfl)|exact av rfl (by simp_all)))|(apply bn 3;(focus rfl);first|exact wt ⟨rfl,rfl,rfl⟩ rfl rfl|exact wu ⟨rfl,rfl,rfl⟩ rfl rfl (by first|exact dC rfl rfl|exact dU|exact fv))|(apply bn 4;(focus rfl);exact Jr ⟨rfl,rfl,rfl⟩ rfl aS rfl)|(apply bn 5;(focus rfl);first|exact rR ⟨rfl,rfl,rfl⟩ rfl aS rfl rfl rfl rfl|exact pO ⟨rfl,rfl,rfl⟩ rfl aS aS rfl rfl rfl rfl rfl rfl|exact nj ⟨rfl,rfl,rfl⟩ rfl aS rfl rfl|exact nk ⟨rfl,rfl,rfl⟩ rfl aS aS rfl rfl rfl|exact nl ⟨rfl,rfl,rfl⟩ rfl aS rfl rfl|exact nm ⟨rfl,rfl,rfl⟩ rfl aS aS rfl rfl rfl)|(apply bn 6;(focus rfl);first|exact DB ⟨rfl,rfl⟩ rfl aS rfl rfl rfl rfl rfl (by first|exact dC rfl rfl|exact dU|exact fv)|exact wz ⟨rfl,rfl⟩ rfl aS rfl rfl rfl rfl rfl rfl rfl)|(apply bn 7;(focus rfl);first|exact vJ ⟨rfl,rfl,rfl⟩ rfl aS rfl rfl|exact nn ⟨rfl,rfl,rfl⟩ rfl aS rfl|exact np ⟨rfl,rfl,rfl⟩ rfl aS rfl|exact zN ⟨rfl,rfl,rfl⟩ rfl aS rfl rfl)|(apply bn 8;(focus rfl);first|exact iI ⟨rfl,rfl,rfl⟩ rfl rfl rfl rfl (dB (by first|omega|(simp;omega)|(simp[aX];omega)) (by first|omega|(simp;omega)|(simp[aX];omega)))|exact tN ⟨rfl,rfl,rfl⟩ rfl rfl rfl rfl)|(apply bn 9;(focus rfl);exact Bu ⟨rfl,rfl,rfl⟩ rfl rfl)|(apply bn 10;(focus rfl);first|exact dR ⟨rfl,rfl,rfl⟩ rfl aS aS rfl (dB ae ae)|exact dR ⟨rfl,rfl,rfl⟩ rfl aS aS rfl rfl|exact YQ ⟨rfl,rfl,rfl⟩ rfl aS aS aS (by first|exact tS rfl|exact tU rfl rfl rfl|exact tT rfl|exact sr_nil rfl))|(apply bn 11;(focus rfl);first|exact DG ⟨rfl,rfl,rfl⟩ rfl aS aS rfl rfl (by refine⟨?_,?_,?_,?_⟩<;>first|rfl|exact⟨_,_,rfl,rfl⟩|omega|(simp;done)|(simp;omega)) rfl|exact u_sliceD_b ⟨rfl,rfl,rfl⟩ rfl aS aS rfl rfl (by refine⟨?_,?_,?_,?_⟩<;>first|rfl|exact⟨_,_,rfl,rfl⟩|omega|(simp;done)|(simp;omega)) rfl|exact DH ⟨rfl,rfl,rfl⟩ rfl aS aS rfl rfl (by refine⟨?_,?_,?_,?_⟩<;>first|rfl|exact⟨_,_,rfl,rfl⟩|omega|(simp;done)|(simp;omega))|exact wC ⟨rfl,rfl,rfl⟩ rfl aS aS rfl rfl (by refine⟨?_,?_,?_,?_⟩<;>first|rfl|exact⟨_,_,rfl,rfl⟩|omega|(simp;done)|(simp;omega))|exact kc ⟨rfl,rfl,rfl⟩ rfl aS aS rfl rfl (by refine⟨?_,?_,?_,?_⟩<;>first|rfl|exact⟨_,_,rfl,rfl⟩|omega|(simp;done)|(simp;omega))|exact qR ⟨rfl,rfl,rfl⟩ rfl aS aS rfl rfl (by refine⟨?_,?_,?_,?_⟩<;>first|rfl|exact⟨_,_,rfl,rfl⟩|omega|(simp;done)|(simp;omega))|exact u_slice ⟨rfl,rfl,rfl⟩ rfl aS aS rfl rfl (by refine⟨?_,?_,?_,?_⟩<;>first|rfl|exact⟨_,_,rfl,rfl⟩|omega|(simp;done)|(simp;omega)) rfl|exact u_slice_b ⟨rfl,rfl,rfl⟩ rfl aS aS rfl rfl (by refine⟨?_,?_,?_,?_⟩<;>first|rfl|exact⟨_,_,rfl,rfl⟩|omega|(simp;done)|(simp;omega)) rfl|exact DI ⟨rfl,rfl,rfl⟩ rfl aS rfl (by refine⟨?_,?_,?_,?_⟩<;>first|rfl|exact⟨_,_,rfl,rfl⟩|omega|(simp;done)|(simp;omega)) rfl)|(apply bn 12;(focus rfl);first|exact jh ⟨rfl,rfl,rfl⟩ rfl aS aS rfl rfl rfl rfl (kG (by first|assumption|omega|(simp;done)|(simp;omega)))|exact pQ ⟨rfl,rfl,rfl⟩ rfl aS aS rfl rfl rfl rfl (kG (by first|assumption|omega|(simp;done)|(simp;omega)))|exact tR ⟨rfl,rfl,rfl⟩ rfl aS aS rfl rfl rfl rfl rfl rfl (by first|assumption|omega|(simp;done)|(simp;omega))|exact jh ⟨rfl,rfl,rfl⟩ rfl aS aS rfl rfl rfl rfl rfl)|(apply bn 13;(focus rfl);exact ji ⟨rfl,rfl,rfl⟩ rfl aS rfl rfl rfl (aaa (by first|assumption|omega|(simp;done)|(simp;omega))))|(apply bn 14;(focus rfl);solve|(apply Js<;>first|exact⟨rfl,rfl,rfl⟩|rfl|infer_instance|(repeat (first|exact bH.nil|(apply bH.cons;(focus (first|exact bd rfl rfl rfl|exact dc rfl|exact dd rfl)))))))|(apply bn 15;(focus rfl);first|exact zO ⟨rfl,rfl,rfl⟩ rfl aS|(solve|(apply DF<;>first|exact⟨rfl,rfl,rfl⟩|rfl|infer_instance|(repeat (first|exact bH.nil|(apply bH.cons;(focus (first|exact bd rfl rfl rfl|exact dc rfl|exact dd rfl))))))))|(apply bn 16;(focus rfl);first|exact Dk ⟨rfl,rfl,rfl⟩ rfl rfl|exact Dl ⟨rfl,rfl,rfl⟩ rfl rfl|exact Dm ⟨rfl,rfl,rfl⟩ rfl rfl|exact Dn ⟨rfl,rfl,rfl⟩ rfl rfl|exact Dp ⟨rfl,rfl,rfl⟩ rfl rfl)|(apply bn 17;(focus rfl);first|exact vK ⟨rfl,rfl,rfl⟩ rfl aS rfl|exact NQ ⟨rfl,rfl,rfl⟩ rfl aS rfl|exact DD ⟨rfl,rfl,rfl⟩ rfl aS rfl|exact DE ⟨rfl,rfl,rfl⟩ rfl aS rfl rfl rfl|exact DC ⟨rfl,rfl,rfl⟩ rfl aS rfl|exact rT ⟨rfl,rfl,rfl⟩ rfl aS rfl rfl rfl|exact rS ⟨rfl,rfl,rfl⟩ rfl aS rfl)|(apply bn 18;(focus rfl);first|exact Wg ⟨rfl,rfl,rfl⟩ rfl aS rfl rfl rfl rfl (by first|exact tS rfl|exact tU rfl rfl rfl|exact tT rfl|exact sr_nil rfl) (by first|omega|(simp;done)|(simp;omega)|(simp[aX];done)|(simp[aX];omega)|(simp at *;omega)) rfl|exact u_appS ⟨rfl,rfl,rfl⟩ rfl aS aS aS rfl rfl rfl rfl (by first|omega|(simp;done)|(simp;omega)|(simp[aX];done)|(simp[aX];omega)|(simp at *;omega))))):aB n P ops o F c b S:=h
theorem W9 (h:aB n P ops o F c b S:=by
 apply gR
 (focus rfl)
 first
  | ((first|apply kE rfl rfl rfl rfl rfl (rL rfl)|apply kE rfl rfl rfl rfl rfl rfl);intro g1 g2;(first|(apply bn 2;(focus rfl);apply pF<;>first|exact⟨rfl,rfl,rfl⟩|(intro hb0;first|rfl|exact av rfl (by rw[hb0];rfl)|exact av rfl (by simp_all))|(first|exact av rfl (by rw[g2];rfl)|exact ay rfl (by rw[g2];rfl)|exact av rfl (by rw[g1,g2];rfl)|exact ay rfl (by rw[g1,g2];rfl)|rfl|exact⟨rfl,rfl,rfl⟩|infer_instance|exact av rfl (by simp_all)|exact ay rfl (by simp_all)))|(apply bn 0;(focus rfl);first|(apply cZ (c:=.per (ai _))<;>(first|exact av rfl (by rw[g2];rfl)|exact ay rfl (by rw[g2];rfl)|exact av rfl (by rw[g1,g2];rfl)|exact ay rfl (by rw[g1,g2];rfl)|rfl|exact⟨rfl,rfl,rfl⟩|infer_instance|exact av rfl (by simp_all)|exact ay rfl (by simp_all)))|(apply cZ (c:=.per _)<;>(first|exact av rfl (by rw[g2];rfl)|exact ay rfl (by rw[g2];rfl)|exact av rfl (by rw[g1,g2];rfl)|exact ay rfl (by rw[g1,g2];rfl)|rfl|exact⟨rfl,rfl,rfl⟩|infer_instance|exact av rfl (by simp_all)|exact ay rfl (by simp_all)))|(apply cZ (c:=.bor _ _)<;>(first|exact av rfl (by rw[g2];rfl)|exact ay rfl (by rw[g2];rfl)|exact av rfl (by rw[g1,g2];rfl)|exact ay rfl (by rw[g1,g2];rfl)|rfl|exact⟨rfl,rfl,rfl⟩|infer_instance|exact av rfl (by simp_all)|exact ay rfl (by simp_all)))|(apply cZ (c:=.row _ _)<;>(first|exact av rfl (by rw[g2];rfl)|exact ay rfl (by rw[g2];rfl)|exact av rfl (by rw[g1,g2];rfl)|exact ay rfl (by rw[g1,g2];rfl)|rfl|exact⟨rfl,rfl,rfl⟩|infer_instance|exact av rfl (by simp_all)|exact ay rfl (by simp_all))))|(apply bn 5;(focus rfl);first|(apply rR<;>(first|exact av rfl (by rw[g2];rfl)|exact ay rfl (by rw[g2];rfl)|exact av rfl (by rw[g1,g2];rfl)|exact ay rfl (by rw[g1,g2];rfl)|rfl|exact⟨rfl,rfl,rfl⟩|infer_instance|exact av rfl (by simp_all)|exact ay rfl (by simp_all)))|(apply pO<;>(first|exact av rfl (by rw[g2];rfl)|exact ay rfl (by rw[g2];rfl)|exact av rfl (by rw[g1,g2];rfl)|exact ay rfl (by rw[g1,g2];rfl)|rfl|exact⟨rfl,rfl,rfl⟩|infer_instance|exact av rfl (by simp_all)|exact ay rfl (by simp_all)))|(apply nj<;>(first|exact av rfl (by rw[g2];rfl)|exact ay rfl (by rw[g2];rfl)|exact av rfl (by rw[g1,g2];rfl)|exact ay rfl (by rw[g1,g2];rfl)|rfl|exact⟨rfl,rfl,rfl⟩|infer_instance|exact av rfl (by simp_all)|exact ay rfl (by simp_all)))|(apply nk<;>(first|exact av rfl (by rw[g2];rfl)|exact ay rfl (by rw[g2];rfl)|exact av rfl (by rw[g1,g2];rfl)|exact ay rfl (by rw[g1,g2];rfl)|rfl|exact⟨rfl,rfl,rfl⟩|infer_instance|exact av rfl (by simp_all)|exact ay rfl (by simp_all)))|(apply nl<;>(first|exact av rfl (by rw[g2];rfl)|exact ay rfl (by rw[g2];rfl)|exact av rfl (by rw[g1,g2];rfl)|exact ay rfl (by rw[g1,g2];rfl)|rfl|exact⟨rfl,rfl,rfl⟩|infer_instance|exact av rfl (by simp_all)|exact ay rfl (by simp_all)))|(apply nm<;>(first|exact av rfl (by rw[g2];rfl)|exact ay rfl (by rw[g2];rfl)|exact av rfl (by rw[g1,g2];rfl)|exact ay rfl (by rw[g1,g2];rfl)|rfl|exact⟨rfl,rfl,rfl⟩|infer_instance|exact av rfl (by simp_all)|exact ay rfl (by simp_all))))|(apply bn 7;(focus rfl);first|(apply vJ<;>(first|exact av rfl (by rw[g2];rfl)|exact ay rfl (by rw[g2];rfl)|exact av rfl (by rw[g1,g2];rfl)|exact ay rfl (by rw[g1,g2];rfl)|rfl|exact⟨rfl,rfl,rfl⟩|infer_instance|exact av rfl (by simp_all)|exact ay rfl (by simp_all)))|(apply nn<;>(first|exact av rfl (by rw[g2];rfl)|exact ay rfl (by rw[g2];rfl)|exact av rfl (by rw[g1,g2];rfl)|exact ay rfl (by rw[g1,g2];rfl)|rfl|exact⟨rfl,rfl,rfl⟩|infer_instance|exact av rfl (by simp_all)|exact ay rfl (by simp_all)))|(apply np<;>(first|exact av rfl (by rw[g2];rfl)|exact ay rfl (by rw[g2];rfl)|exact av rfl (by rw[g1,g2];rfl)|exact ay rfl (by rw[g1,g2];rfl)|rfl|exact⟨rfl,rfl,rfl⟩|infer_instance|exact av rfl (by simp_all)|exact ay rfl (by simp_all))))|(apply bn 8;(focus rfl);first|(apply iI<;>first|exact dB ae ae|(first|exact av rfl (by rw[g2];rfl)|exact ay rfl (by rw[g2];rfl)|exact av rfl (by rw[g1,g2];rfl)|exact ay rfl (by rw[g1,g2];rfl)|rfl|exact⟨rfl,rfl,rfl⟩|infer_instance|exact av rfl (by simp_all)|exact ay rfl (by simp_all)))|(apply tN<;>(first|exact av rfl (by rw[g2];rfl)|exact ay rfl (by rw[g2];rfl)|exact av rfl (by rw[g1,g2];rfl)|exact ay rfl (by rw[g1,g2];rfl)|rfl|exact⟨rfl,rfl,rfl⟩|infer_instance|exact av rfl (by simp_all)|exact ay rfl (by simp_all))))|(apply bn 9;(focus rfl);apply Bu<;>(first|exact av rfl (by rw[g2];rfl)|exact ay rfl (by rw[g2];rfl)|exact av rfl (by rw[g1,g2];rfl)|exact ay rfl (by rw[g1,g2];rfl)|rfl|exact⟨rfl,rfl,rfl⟩|infer_instance|exact av rfl (by simp_all)|exact ay rfl (by simp_all)))|(apply bn 17;(focus rfl);first|(apply vK<;>(first|exact av rfl (by rw[g2];rfl)|exact ay rfl (by rw[g2];rfl)|exact av rfl (by rw[g1,g2];rfl)|exact ay rfl (by rw[g1,g2];rfl)|rfl|exact⟨rfl,rfl,rfl⟩|infer_instance|exact av rfl (by simp_all)|exact ay rfl (by simp_all)))|(apply DC<;>(first|exact av rfl (by rw[g2];rfl)|exact ay rfl (by rw[g2];rfl)|exact av rfl (by rw[g1,g2];rfl)|exact ay rfl (by rw[g1,g2];rfl)|rfl|exact⟨rfl,rfl,rfl⟩|infer_instance|exact av rfl (by simp_all)|exact ay rfl (by simp_all)))|(apply rS<;>(first|exact av rfl (by rw[g2];rfl)|exact ay rfl (by rw[g2];rfl)|exact av rfl (by rw[g1,g2];rfl)|exact ay rfl (by rw[g1,g2];rfl)|rfl|exact⟨rfl,rfl,rfl⟩|infer_instance|exact av rfl (by simp_all)|exact ay rfl (by simp_all)))|(apply rT<;>(first|exact av rfl (by rw[g2];rfl)|exact ay rfl (by rw[g2];rfl)|exact av rfl (by rw[g1,g2];rfl)|exact ay rfl (by rw[g1,g2];rfl)|rfl|exact⟨rfl,rfl,rfl⟩|infer_instance|exact av rfl (by simp_all)|exact ay rfl (by simp_all))))|(apply bn 12;(focus rfl);first|(apply jh<;>first|(first|exact av rfl (by rw[g2];rfl)|exact ay rfl (by rw[g2];rfl)|exact av rfl (by rw[g1,g2];rfl)|exact ay rfl (by rw[g1,g2];rfl)|rfl|exact⟨rfl,rfl,rfl⟩|infer_instance|exact av rfl (by simp_all)|exact ay rfl (by simp_all))|exact kG (by first|assumption|omega|(simp;done)|(simp;omega)))|(apply pQ<;>first|(first|exact av rfl (by rw[g2];rfl)|exact ay rfl (by rw[g2];rfl)|exact av rfl (by rw[g1,g2];rfl)|exact ay rfl (by rw[g1,g2];rfl)|rfl|exact⟨rfl,rfl,rfl⟩|infer_instance|exact av rfl (by simp_all)|exact ay rfl (by simp_all))|exact kG (by first|assumption|omega|(simp;done)|(simp;omega))))|(apply bn 13;(focus rfl);apply ji<;>first|(first|exact av rfl (by rw[g2];rfl)|exact ay rfl (by rw[g2];rfl)|exact av rfl (by rw[g1,g2];rfl)|exact ay rfl (by rw[g1,g2];rfl)|rfl|exact⟨rfl,rfl,rfl⟩|infer_instance|exact av rfl (by simp_all)|exact ay rfl (by simp_all))|exact aaa (by first|assumption|omega|(simp;done)|(simp;omega)))))
  | ((first|apply rK rfl rfl rfl rfl rfl (rL rfl)|apply rK rfl rfl rfl rfl rfl rfl);intro g1 g2;(first|(apply bn 2;(focus rfl);apply pF<;>first|exact⟨rfl,rfl,rfl⟩|(intro hb0;first|rfl|exact av rfl (by rw[hb0];rfl)|exact av rfl (by simp_all))|(first|exact av rfl (by rw[g2];rfl)|exact ay rfl (by rw[g2];rfl)|exact av rfl (by rw[g1,g2];rfl)|exact ay rfl (by rw[g1,g2];rfl)|rfl|exact⟨rfl,rfl,rfl⟩|infer_instance|exact av rfl (by simp_all)|exact ay rfl (by simp_all)))|(apply bn 0;(focus rfl);first|(apply cZ (c:=.per (ai _))<;>(first|exact av rfl (by rw[g2];rfl)|exact ay rfl (by rw[g2];rfl)|exact av rfl (by rw[g1,g2];rfl)|exact ay rfl (by rw[g1,g2];rfl)|rfl|exact⟨rfl,rfl,rfl⟩|infer_instance|exact av rfl (by simp_all)|exact ay rfl (by simp_all)))|(apply cZ (c:=.per _)<;>(first|exact av rfl (by rw[g2];rfl)|exact ay rfl (by rw[g2];rfl)|exact av rfl (by rw[g1,g2];rfl)|exact ay rfl (by rw[g1,g2];rfl)|rfl|exact⟨rfl,rfl,rfl⟩|infer_instance|exact av rfl (by simp_all)|exact ay rfl (by simp_all)))|(apply cZ (c:=.bor _ _)<;>(first|exact av rfl (by rw[g2];rfl)|exact ay rfl (by rw[g2];rfl)|exact av rfl (by rw[g1,g2];rfl)|exact ay rfl (by rw[g1,g2];rfl)|rfl|exact⟨rfl,rfl,rfl⟩|infer_instance|exact av rfl (by simp_all)|exact ay rfl (by simp_all)))|(apply cZ (c:=.row _ _)<;>(first|exact av rfl (by rw[g2];rfl)|exact ay rfl (by rw[g2];rfl)|exact av rfl (by rw[g1,g2];rfl)|exact ay rfl (by rw[g1,g2];rfl)|rfl|exact⟨rfl,rfl,rfl⟩|infer_instance|exact av rfl (by simp_all)|exact ay rfl (by simp_all))))|(apply bn 5;(focus rfl);first|(apply rR<;>(first|exact av rfl (by rw[g2];rfl)|exact ay rfl (by rw[g2];rfl)|exact av rfl (by rw[g1,g2];rfl)|exact ay rfl (by rw[g1,g2];rfl)|rfl|exact⟨rfl,rfl,rfl⟩|infer_instance|exact av rfl (by simp_all)|exact ay rfl (by simp_all)))|(apply pO<;>(first|exact av rfl (by rw[g2];rfl)|exact ay rfl (by rw[g2];rfl)|exact av rfl (by rw[g1,g2];rfl)|exact ay rfl (by rw[g1,g2];rfl)|rfl|exact⟨rfl,rfl,rfl⟩|infer_instance|exact av rfl (by simp_all)|exact ay rfl (by simp_all)))|(apply nj<;>(first|exact av rfl (by rw[g2];rfl)|exact ay rfl (by rw[g2];rfl)|exact av rfl (by rw[g1,g2];rfl)|exact ay rfl (by rw[g1,g2];rfl)|rfl|exact⟨rfl,rfl,rfl⟩|infer_instance|exact av rfl (by simp_all)|exact ay rfl (by simp_all)))|(apply nk<;>(first|exact av rfl (by rw[g2];rfl)|exact ay rfl (by rw[g2];rfl)|exact av rfl (by rw[g1,g2];rfl)|exact ay rfl (by rw[g1,g2];rfl)|rfl|exact⟨rfl,rfl,rfl⟩|infer_instance|exact av rfl (by simp_all)|exact ay rfl (by simp_all)))|(apply nl<;>(first|exact av rfl (by rw[g2];rfl)|exact ay rfl (by rw[g2];rfl)|exact av rfl (by rw[g1,g2];rfl)|exact ay rfl (by rw[g1,g2];rfl)|rfl|exact⟨rfl,rfl,rfl⟩|infer_instance|exact av rfl (by simp_all)|exact ay rfl (by simp_all)))|(apply nm<;>(first|exact av rfl (by rw[g2];rfl)|exact ay rfl (by rw[g2];rfl)|exact av rfl (by rw[g1,g2];rfl)|exact ay rfl (by rw[g1,g2];rfl)|rfl|exact⟨rfl,rfl,rfl⟩|infer_instance|exact av rfl (by simp_all)|exact ay rfl (by simp_all))))|(apply bn 7;(focus rfl);first|(apply vJ<;>(first|exact av rfl (by rw[g2];rfl)|exact ay rfl (by rw[g2];rfl)|exact av rfl (by rw[g1,g2];rfl)|exact ay rfl (by rw[g1,g2];rfl)|rfl|exact⟨rfl,rfl,rfl⟩|infer_instance|exact av rfl (by simp_all)|exact ay rfl (by simp_all)))|(apply nn<;>(first|exact av rfl (by rw[g2];rfl)|exact ay rfl (by rw[g2];rfl)|exact av rfl (by rw[g1,g2];rfl)|exact ay rfl (by rw[g1,g2];rfl)|rfl|exact⟨rfl,rfl,rfl⟩|infer_instance|exact av rfl (by simp_all)|exact ay rfl (by simp_all)))|(apply np<;>(first|exact av rfl (by rw[g2];rfl)|exact ay rfl (by rw[g2];rfl)|exact av rfl (by rw[g1,g2];rfl)|exact ay rfl (by rw[g1,g2];rfl)|rfl|exact⟨rfl,rfl,rfl⟩|infer_instance|exact av rfl (by simp_all)|exact ay rfl (by simp_all))))|(apply bn 8;(focus rfl);first|(apply iI<;>first|exact dB ae ae|(first|exact av rfl (by rw[g2];rfl)|exact ay rfl (by rw[g2];rfl)|exact av rfl (by rw[g1,g2];rfl)|exact ay rfl (by rw[g1,g2];rfl)|rfl|exact⟨rfl,rfl,rfl⟩|infer_instance|exact av rfl (by simp_all)|exact ay rfl (by simp_all)))|(apply tN<;>(first|exact av rfl (by rw[g2];rfl)|exact ay rfl (by rw[g2];rfl)|exact av rfl (by rw[g1,g2];rfl)|exact ay rfl (by rw[g1,g2];rfl)|rfl|exact⟨rfl,rfl,rfl⟩|infer_instance|exact av rfl (by simp_all)|exact ay rfl (by simp_all))))|(apply bn 9;(focus rfl);apply Bu<;>(first|exact av rfl (by rw[g2];rfl)|exact ay rfl (by rw[g2];rfl)|exact av rfl (by rw[g1,g2];rfl)|exact ay rfl (by rw[g1,g2];rfl)|rfl|exact⟨rfl,rfl,rfl⟩|infer_instance|exact av rfl (by simp_all)|exact ay rfl (by simp_all)))|(apply bn 17;(focus rfl);first|(apply vK<;>(first|exact av rfl (by rw[g2];rfl)|exact ay rfl (by rw[g2];rfl)|exact av rfl (by rw[g1,g2];rfl)|exact ay rfl (by rw[g1,g2];rfl)|rfl|exact⟨rfl,rfl,rfl⟩|infer_instance|exact av rfl (by simp_all)|exact ay rfl (by simp_all)))|(apply DC<;>(first|exact av rfl (by rw[g2];rfl)|exact ay rfl (by rw[g2];rfl)|exact av rfl (by rw[g1,g2];rfl)|exact ay rfl (by rw[g1,g2];rfl)|rfl|exact⟨rfl,rfl,rfl⟩|infer_instance|exact av rfl (by simp_all)|exact ay rfl (by simp_all)))|(apply rS<;>(first|exact av rfl (by rw[g2];rfl)|exact ay rfl (by rw[g2];rfl)|exact av rfl (by rw[g1,g2];rfl)|exact ay rfl (by rw[g1,g2];rfl)|rfl|exact⟨rfl,rfl,rfl⟩|infer_instance|exact av rfl (by simp_all)|exact ay rfl (by simp_all)))|(apply rT<;>(first|exact av rfl (by rw[g2];rfl)|exact ay rfl (by rw[g2];rfl)|exact av rfl (by rw[g1,g2];rfl)|exact ay rfl (by rw[g1,g2];rfl)|rfl|exact⟨rfl,rfl,rfl⟩|infer_instance|exact av rfl (by simp_all)|exact ay rfl (by simp_all))))|(apply bn 12;(focus rfl);first|(apply jh<;>first|(first|exact av rfl (by rw[g2];rfl)|exact ay rfl (by rw[g2];rfl)|exact av rfl (by rw[g1,g2];rfl)|exact ay rfl (by rw[g1,g2];rfl)|rfl|exact⟨rfl,rfl,rfl⟩|infer_instance|exact av rfl (by simp_all)|exact ay rfl (by simp_all))|exact kG (by first|assumption|omega|(simp;done)|(simp;omega)))|(apply pQ<;>first|(first|exact av rfl (by rw[g2];rfl)|exact ay rfl (by rw[g2];rfl)|exact av rfl (by rw[g1,g2];rfl)|exact ay rfl (by rw[g1,g2];rfl)|rfl|exact⟨rfl,rfl,rfl⟩|infer_instance|exact av rfl (by simp_all)|exact ay rfl (by simp_all))|exact kG (by first|assumption|omega|(simp;done)|(simp;omega))))|(apply bn 13;(focus rfl);apply ji<;>first|(first|exact av rfl (by rw[g2];rfl)|exact ay rfl (by rw[g2];rfl)|exact av rfl (by rw[g1,g2];rfl)|exact ay rfl (by rw[g1,g2];rfl)|rfl|exact⟨rfl,rfl,rfl⟩|infer_instance|exact av rfl (by simp_all)|exact ay rfl (by simp_all))|exact aaa (by first|assumption|omega|(simp;done)|(simp;omega)))))):aB n P ops o F c b S:=h
theorem GG (h:aB n P ops o F c b S:=by first|exact W9|exact W8):aB n P ops o F c b S:=h
theorem ab {n:Nat}{S S':St}(h:Le n S S':=by (refine kA ?_ ?_;(focus ((repeat (first|exact gp.nil|(refine gp.cons ?_ ?_;rotate_left)));(all_goals try (first|rfl|(refine Gj ?_;first|omega|(simp;done)|(simp;omega))|(refine qw ?_;first|(simp;done)|(simp[*];done))))));(focus ((repeat (first|exact gq.nil|(refine gq.cons ?_ ?_;rotate_left)));(all_goals try (first|rfl|(refine nq ?_;(rw[List.map_append]<;>rfl);done)|(refine kB ?_;(rw[List.map_append]<;>rfl);done))))))):Le n S S':=h
theorem aj {P:Program}{n:Nat}{Q:Exit->St->Prop}{S:St}{c:Code}{X:Type}(pre:X->Prop)(I:X->St)(mu:X->Nat)(x0:X)(hp:pre x0)
 (round:∀x,pre x->AW P n c (uW (λS'=>∃x',pre x'/\mu x'<mu x/\Le n S' (I x')) Q) (I x)) (h0:Le n S (I x0):=by exact ab):AW P n (.loop c) Q S:=ci pre I mu x0 hp h0 round
end
