/- Lemmas, walks. -/
import Derived.Test.YtecdgdoledkdfaaGreatJ01
import Derived.IntWalk
import Derived.Laws.CopyRow
import Derived.Maps.AppendAt
import Derived.Great.BuildSlice
import Derived.Laws.IdiomStrings
namespace Go.Proofs.YtecdgdoledkdfaaGreat
open Go.RowKit
variable {x:Operand} {v:Value} {y:Operand} {u:Value} {r:Ret} {ty ty':TypeId} {k:Nat} {z p:Int} {d:TypeDesc} {N:BP} {cs:List PV} {A:PV} {off q:Nat} {vr':Nat->Nat} {e:Nat} {cells:List Cnt} {es:List (List PV)} {id vr:Nat} {As:List PV} {fo len:Nat} {kk:IntKind} {ix:Operand} {s:ByteArray} {top:BP} {e':TypeId} {ps:List PV} {xs:List Operand} {ns:List (List PV)} {bytes:Nat} {parts:List (Nat×Operand)} {pps:List (Nat×List PV)} {h:Nat} {lo hi:Option Operand} {α:Type} {m:List α}
def St.opd (S:St):Operand->Cnt
 | .tmp t=>S.get t
 | .const v=>.per (ai v)
 | .func f=>.per (ai (.func (.func f) #[] #[]))
 | .global g=>.per (ai (.pointer (some ⟨g,0,none⟩)))
def aG:Operand->List Nat
 | .tmp t=>[2*t]
 | _=>[]
section
variable {P:Program} {n:Nat} {ops:Array Oper} {o:Oper} {F:List Nat} {S T:St} {C:Ctx} {g:Gh} {a:Act} {w:World} {t:Nat}
theorem aM (hA:ed F T S)(hF:∀k∈aG x,k∈F)(hR:RG C n T g a w):crep C T.ver g w (a.eval x) (S.opd x):=by
 cases x with
 | tmp t=>
  have h:=hR.slots t
  rw[hA.1 t (hF _ (by simp[aG]))]at h
  exact h
 | const v=>exact rfl
 | func f=>exact rfl
 | global q=>exact rfl
def Pl (n:Nat)(o:Oper)(t:Nat):Prop:=o.guard=none/\o.dst=some t/\Nat.blt t n=true
theorem Pl.dOk (h:Pl n o t):dOk n o.dst:=λt' e=>by rw[h.2.1]at e;cases e;exact aaq h.2.2
theorem Pl.wanted (h:Pl n o t)(a:Act):Region.wanted o (yielded ops a.tmps)=true:=by simp[Region.wanted,h.1]
theorem aZ (hp:Pl n o t){c:Cnt}(h:∀C T g a w,ed F T S->RG C n T g a w->∃v,(execOp a.eval o).run P w=.ok (.value v) w/\crep C T.ver g w v c) :
 aB n P ops o F c [] S:=by
 refine⟨?_⟩
 intro C T hA a w ⟨g,hR⟩
 obtain⟨v,h1,h2⟩:=h C T g a w hA hR
 unfold jg
 rw[aae (hp.wanted a)]
 unfold Oper.wp
 rw[h1,Oper.upon_value]
 exact⟨g,hR.app0 (bQ.refl w) hp.dOk h2⟩
theorem cZ {c:Cnt}(hp:Pl n o t)(ho:o.op=.move x)(hc:S.opd x=c):aB n P ops o (aG x) c [] S:=
 aZ hp λC T g a w hA hR=>⟨a.eval x,by simp[execOp,ho],by rw[<-hc];grind[aM]⟩
theorem dn {c:Cnt}(hp:Pl n o t)(ho:o.op=.assign x)(hc:S.opd x=c):aB n P ops o (aG x) c [] S:=
 aZ hp λC T g a w hA hR=>⟨a.eval x,by simp[execOp,ho],by rw[<-hc];grind[aM]⟩
theorem bf (hA:ed F T S)(hF:∀k∈aG x,k∈F)(hR:RG C n T g a w)(h:S.opd x=.per (ai v)):a.eval x=v:=by
 have:=aM hA hF hR
 rw[h]at this;exact this
def Db (b:Bool)(c:Cnt)(p:Bool):Prop:=b=true->c=bC p
theorem pF {c:Operand}{b p q:Bool}(hp:Pl n o t)(ho:o.op=.pick c x y)(hc:S.opd c=bC b)(hx:Db b (S.opd x) p)(hy:Db (!b) (S.opd y) q) :
 aB n P ops o (aG c++aG x++aG y) (bC (bif b then p else q)) [] S:=
 aZ hp λC T g a w hA hR=>by
  have h1:=bf hA (λk h=>by simp[h]) hR hc
  cases b with
  | true=>
   have h2:=bf (x:=x) hA (λk h=>by simp[h]) hR (hx rfl)
   exact⟨.bool p,by simp_all[execOp,asBool],rfl⟩
  | false=>
   have h2:=bf (x:=y) hA (λk h=>by simp[h]) hR (hy rfl)
   exact⟨.bool q,by simp_all[execOp,asBool],rfl⟩
theorem av {x:Cnt}{b:Bool}(h:x=.per (ai (bif b then v else undef)))(hb:b=true):x=.per (ai v):=by rw[h,hb];rfl
theorem ay {x:Cnt}{b:Bool}{c:Cnt}(h:x=bif b then c else .any)(hb:b=true):x=c:=by rw[h,hb];rfl
def mf:Value->Option Bool
 | .bool b=>some b
 | _=>none
theorem k7 {j tg:Nat}{a:Act}(hj:(ops[j]?).bind (·.dst)=some tg)(hv:a.tmps.getD tg undef=v)(hlt:tg<a.tmps.size) :
 yielded ops a.tmps j=mf v:=by
 have:a.tmps[tg]=v:=by rw[<-hv];simp[Array.getD,hlt]
 subst this
 unfold yielded
 rw[hj]
 simp only[Option.bind_some,abw hlt]
 cases a.tmps[tg]<;>rfl
theorem kE {j tg:Nat}{want b g':Bool}(hg:o.guard=some (j,want))(hd:o.dst=some t)(ht:Nat.blt t n=true)(hj:(ops[j]?).bind (·.dst)=some tg)(htg:Nat.blt tg n=true)
 (hb:S.get tg=.per (ai (bif g' then .bool b else undef))) (h:g'=true->b=want->aB n P ops { o with guard:=none } F (.per (ai v)) [] S) :
 aB n P ops o (2*tg::F) (.per (ai (bif (g'&&b==want)then v else undef))) [] S:=by
 refine⟨?_⟩
 intro C T hA a w ⟨g,hR⟩
 have hv:a.tmps.getD tg undef=(bif g' then .bool b else undef):=by
  have:=hR.slots tg
  rw[hA.1 tg aA,hb]at this;exact this
 have hy:=k7 (ops:=ops) hj hv (by rw[hR.tsz];simp_all)
 have hdk:dOk n o.dst:=λt' e=>by rw[hd]at e;simp_all
 unfold jg
 cases g' with
 | false=>
  rw[aab (by grind[Region.wanted,undef,mf])]
  exact⟨g,hR.app0 (bQ.refl w) hdk rfl⟩
 | true=>
  simp only[cond_true]at hy
  by_cases hbw:b=want
  ·rw[aae (by grind[Region.wanted,mf])]
   have hA':ed F T S:=⟨λt h=>hA.1 t (by simp[h]),λid h=>hA.2 id (by simp[h])⟩
   have:=(h rfl hbw).run C T hA' a w ⟨g,hR⟩
   unfold jg at this
   rw[aae (by simp[Region.wanted])]at this
   subst hbw
   have e:(true&&b==b)=true:=aA
   rw[e]
   exact this
  ·rw[aab (by grind[Region.wanted,mf])]
   have:(b==want)=false:=by simpa using hbw
   simp only[this,abs,cond_false]
   exact⟨g,hR.app0 (bQ.refl w) hdk rfl⟩
theorem rK {j tg:Nat}{want b g':Bool}{c:Cnt}(hg:o.guard=some (j,want))(hd:o.dst=some t)(ht:Nat.blt t n=true)(hj:(ops[j]?).bind (·.dst)=some tg)(htg:Nat.blt tg n=true)
 (hb:S.get tg=.per (ai (bif g' then .bool b else undef))) (h:g'=true->b=want->aB n P ops { o with guard:=none } F c [] S) :
 aB n P ops o (2*tg::F) (bif (g'&&b==want)then c else .any) [] S:=by
 refine⟨?_⟩
 intro C T hA a w ⟨g,hR⟩
 have hv:a.tmps.getD tg undef=(bif g' then .bool b else undef):=by
  have:=hR.slots tg
  rw[hA.1 tg aA,hb]at this;exact this
 have hy:=k7 (ops:=ops) hj hv (by rw[hR.tsz];simp_all)
 have hdk:dOk n o.dst:=λt' e=>by rw[hd]at e;simp_all
 unfold jg
 cases g' with
 | false=>
  rw[aab (by grind[Region.wanted,undef,mf])]
  exact⟨g,hR.app0 (bQ.refl w) hdk trivial⟩
 | true=>
  simp only[cond_true]at hy
  by_cases hbw:b=want
  ·rw[aae (by grind[Region.wanted,mf])]
   have hA':ed F T S:=⟨λt h=>hA.1 t (by simp[h]),λid h=>hA.2 id (by simp[h])⟩
   have:=(h rfl hbw).run C T hA' a w ⟨g,hR⟩
   unfold jg at this
   rw[aae (by simp[Region.wanted])]at this
   subst hbw
   have e:(true&&b==b)=true:=aA
   rw[e]
   exact this
  ·rw[aab (by grind[Region.wanted,mf])]
   have:(b==want)=false:=by simpa using hbw
   simp only[this,abs,cond_false]
   exact⟨g,hR.app0 (bQ.refl w) hdk trivial⟩
theorem rL {x:Cnt}{b:Bool}(h:x=bC b):x=.per (ai (bif true then .bool b else undef)):=h
def vF (op:BinOp):Value->Value->Option Value
 | .int k a,.int k' b=>match op with
  | .add=>if k=k' then some (.int k (k.wrap (a+b)))else none
  | .sub=>if k=k' then some (.int k (k.wrap (a-b)))else none
  | .mul=>if k=k' then some (.int k (k.wrap (a*b)))else none
  | .eql=>if k=k' then some (.bool (a==b))else none
  | .neq=>if k=k' then some (.bool (a != b))else none
  | .lss=>if k=k' then some (.bool (decide (a<b)))else none
  | .leq=>if k=k' then some (.bool (decide (a<=b)))else none
  | .gtr=>if k=k' then some (.bool (decide (a>b)))else none
  | .geq=>if k=k' then some (.bool (decide (a>=b)))else none
  | _=>none
 | .string a,.string b=>match op with
  | .eql=>some (.bool (a.toList==b.toList))
  | .neq=>some (.bool !(a.toList==b.toList))
  | .lss=>some (.bool (Op.bytesLess a.toList b.toList))
  | .gtr=>some (.bool !(Op.bytesLess a.toList b.toList||(a.toList==b.toList)))
  | _=>none
 | _,_=>none
theorem Dc {op:BinOp}{T:TypeId}{r:Value}(h:vF op u v=some r)(w:World) :
 (do eqGuard op T x y u v;binOp op T u v).run P w=.ok r w:=by
 unfold vF at h
 split at h
 ·split at h<;>first
   | (split at h
      ·rename_i hk;subst hk;cases h;simp[eqGuard_at_int,binOp,Op.intArith,Op.intCmp]
      ·cases h)
   | cases h
 ·split at h<;>first|(cases h;simp[eqGuard_at_string,binOp,Op.stringOp])|cases h
 ·cases h
theorem tN {op:BinOp}{r:Value}(hp:Pl n o t)(ho:o.op=.binOp op ty x y ty')(hx:S.opd x=.per (ai u))(hy:S.opd y=.per (ai v))
 (h:vF op u v=some r):aB n P ops o (aG x++aG y) (.per (ai r)) [] S:=
 aZ hp λC T g a w hA hR=>by
  have h1:=bf (x:=x) hA (λk h=>by simp[h]) hR hx
  have h2:=bf (x:=y) hA (λk h=>by simp[h]) hR hy
  refine⟨r,?_,rfl⟩
  have:=Dc (P:=P) (T:=ty) (x:=x) (y:=y) h w
  simp only[execOp,ho,h1,h2,Sem.run_bind]at this ⊢
  rw[this];rfl
theorem iI {op:BinOp}{k:IntKind}{z':Int}(hp:Pl n o t)(ho:o.op=.binOp op ty x y ty')(hx:S.opd x=.per (ai u))(hy:S.opd y=.per (ai v))
 (h:vF op u v=some (.int k z)) (hz:z=z'):aB n P ops o (aG x++aG y) (iC k z') [] S:=hz▸tN hp ho hx hy h
theorem kv {k:IntKind}{q:Int}(hp:Pl n o t)(ho:o.op=.binOp .quo ty x y ty')(hx:S.opd x=iC k p)(hy:S.opd y=iC k q)
 (hq:q≠0) (hz:k.wrap (p.tdiv q)=z):aB n P ops o (aG x++aG y) (iC k z) [] S:=
 aZ hp λC T g a w hA hR=>by
  have h1:=bf (x:=x) hA (λk h=>by simp[h]) hR hx
  have h2:=bf (x:=y) hA (λk h=>by simp[h]) hR hy
  exact⟨.int k z,by simp_all[execOp,binOp,Op.intDiv,eqGuard_at_int],rfl⟩
theorem tP {k:IntKind}{q:Int}(hp:Pl n o t)(ho:o.op=.binOp .rem ty x y ty')(hx:S.opd x=iC k p)(hy:S.opd y=iC k q)
 (hq:q≠0) (hz:p.tmod q=z):aB n P ops o (aG x++aG y) (iC k z) [] S:=
 aZ hp λC T g a w hA hR=>by
  have h1:=bf (x:=x) hA (λk h=>by simp[h]) hR hx
  have h2:=bf (x:=y) hA (λk h=>by simp[h]) hR hy
  exact⟨.int k z,by simp_all[execOp,binOp,Op.intDiv,eqGuard_at_int],rfl⟩
theorem Bu {b:Bool}(hp:Pl n o t)(ho:o.op=.unOp .not ty x)(hx:S.opd x=bC b):aB n P ops o (aG x) (bC (!b)) [] S:=
 aZ hp λC T g a w hA hR=>by
  have h1:=bf (x:=x) hA (λk h=>by simp[h]) hR hx
  exact⟨_,by simp[execOp,ho,h1,Op.unary],rfl⟩
theorem Tj {src dst:TypeId}{k k':IntKind}(hp:Pl n o t)(ho:o.op=.convert src dst x)(hs:(P.underlying src).isSome=true)(hd:P.underlying dst=some (.int k))(hx:S.opd x=iC k' p)
 (hz:k.wrap p=z):aB n P ops o (aG x) (iC k z) [] S:=
 aZ hp λC T g a w hA hR=>by
  have h1:=bf (x:=x) hA (λk h=>by simp[h]) hR hx
  refine⟨.int k z,?_,rfl⟩
  simp_all[Program.intKind,run_convert_int,execOp]
theorem dB (h1:-9223372036854775808<=z)(h2:z<=9223372036854775807):IntKind.i64.wrap z=z:=IntWalk.i64_in z ⟨h1,h2⟩
def Ny (v:Value):Cnt:=.per (ai v)
theorem gS {T:Nat}(h:P.cellsOf T=k)(hk:0<k)(w:World):(sizeOf T).run P w=.ok k w:=by
 unfold Program.cellsOf at h
 cases hi:P.info? T<;>grind[run_sizeOf,Program.cellsOf]
def iJ:TypeDesc->Bool
 | .struct _|.array _ _=>true
 | _=>false
theorem pG {T:TypeId}(h:P.underlying T=some d)(w:World):(isAgg T).run P w=.ok (iJ d) w:=by
 unfold isAgg
 rw[Sem.run_bind,run_underlying h]
 cases d<;>rfl
theorem zf {w:World}{b o:Nat}{cs:List Value}(h:∀(j:Nat)(v:Value),cs[j]?=some v->w.cell? ⟨b,o+j,none⟩=some v) :
 (loadCells ⟨b,o,none⟩ cs.length).run P w=.ok cs.toArray w:=
 run_loadCells_list w ⟨b,o,none⟩ cs (λj v hj=>by rw[Addr.add_lit];exact h j v hj)
theorem k8 {w:World}{b o:Nat}{T:TypeId}{y:Value}(hT:P.underlying T=some d)(hd:iJ d=false)(h:w.cell? ⟨b,o,none⟩=some y) :
 (Instr.loadAt T (.pointer (some ⟨b,o,none⟩))).run P w=.ok y w:=by simp_all[Instr.loadAt,Instr.sureAddr,loadVar,pG]
theorem fD {w:World}{b o:Nat}{T:TypeId}{cs:List Value}(hT:P.underlying T=some d)(hd:iJ d=true)(hk:P.cellsOf T=cs.length)(h0:0<cs.length)
 (h:∀(j:Nat)(v:Value),cs[j]?=some v->w.cell? ⟨b,o+j,none⟩=some v) :
 (Instr.loadAt T (.pointer (some ⟨b,o,none⟩))).run P w=.ok (.agg cs.toArray) w:=by simp_all[Instr.loadAt,Instr.sureAddr,loadVar,pG,gS,zf]
theorem eh {w:World}{f:Nat->Option Value}:∀(cs:List PV),(∀(j:Nat)(A:PV),cs[j]?=some A->∃y,f j=some y/\y.oneCell'=true/\A.p N w y) ->
 ∃vs:List Value,vs.length=cs.length/\(∀(j:Nat)(v:Value),vs[j]?=some v->f j=some v)/\iq N w vs.toArray cs:=by
 intro cs
 induction cs generalizing f with
 | nil=>intro _;exact⟨[],rfl,λj v h=>by simp at h,rfl,λj A h=>by simp at h⟩
 | cons A cs ih=>
  intro h
  obtain⟨y,h1,h2,h3⟩:=h 0 A rfl
  obtain⟨vs,g1,g2,g3,g4⟩:=ih (f:=λj=>f (j+1)) (λj A' hj=>h (j+1) A' (by simpa using hj))
  refine⟨y::vs,by simp[g1],λj v hj=>?_,by simp[g1],λj A' hj=>?_⟩
  all_goals grind
theorem Dd (hp:Pl n o t)(ho:o.op=.load ty x)(hT:P.underlying ty=some d)(hd:iJ d=false)
 (hx:S.opd x=.per (em cs)) (hA:cs[0]?=some A):aB n P ops o (aG x) (.per A) [] S:=
 aZ hp λC T g a w hAg hR=>by
  have h:=aM (x:=x) hAg (λk h=>h) hR
  rw[hx]at h
  obtain⟨b,of,hv,hb,hn,hc⟩:=h
  obtain⟨y,h1,h2,h3⟩:=hc 0 A hA
  rw[abo]at h1
  refine⟨y,?_,h3⟩
  simp_all[execOp,k8]
theorem De (hp:Pl n o t)(ho:o.op=.load ty x)(hT:P.underlying ty=some d)(hd:iJ d=true)(hk:P.cellsOf ty=cs.length)(h0:0<cs.length)
 (hx:S.opd x=.per (em cs)):aB n P ops o (aG x) (.per (cu cs)) [] S:=
 aZ hp λC T g a w hAg hR=>by
  have h:=aM (x:=x) hAg (λk h=>h) hR
  rw[hx]at h
  obtain⟨b,of,hv,hb,hn,hc⟩:=h
  obtain⟨vs,g1,g2,g3⟩:=eh cs hc
  refine⟨.agg vs.toArray,?_,⟨vs.toArray,rfl,g3⟩⟩
  simp only[execOp,ho,hv,Sem.run_bind,fD hT hd (by rw[hk,g1]) ae g2];rfl
theorem zG {w:World}{b:Nat}(h:∀(j:Nat)(A:PV),cs[j]?=some A->∃y,w.cell? ⟨b,q+j,none⟩=some y/\y.oneCell'=true/\A.p N w y) :
 ∀(j:Nat)(A:PV),(cs.drop off)[j]?=some A->∃y,w.cell? ⟨b,q+off+j,none⟩=some y/\y.oneCell'=true/\A.p N w y:=by grind
theorem lM {w:World}{b o f:Nat}{T:TypeId}{fs:Array Field}{fld:Field}(hT:P.underlying T=some (.struct fs))(hf:fs[f]?=some fld)(hoff:fld.offset=off)(hk:P.cellsOf fld.type=k)(h0:0<k) :
 (Instr.fieldAt T (.pointer (some ⟨b,o,none⟩)) f).run P w=.ok (.pointer (some ⟨b,o+off,none⟩)) w:=by
 unfold Instr.fieldAt
 rw[Sem.run_bind,run_underlying hT]
 simp only[Result.andThen_ok,hf,Instr.sureAddr,Sem.run_bind,Sem.run_pure,fieldPlace,gS hk h0]
 rw[aab ae]
 simp[hoff,Addr.add_lit]
structure Wf (P:Program)(T f off:Nat):Prop where
 ex:∃fs fld k,P.underlying T=some (.struct fs)/\fs[f]?=some fld/\fld.offset=off/\P.cellsOf fld.type=k/\0<k
theorem Wf.mk' {T f:Nat}{fs:Array Field}(hT:P.underlying T=some (.struct fs))(h:(fs[f]?).map (λx=>(x.offset,Nat.blt 0 (P.cellsOf x.type)))=some (off,true)):Wf P T f off:=by
 cases hf:fs[f]? with
 | none=>rw[hf]at h;cases h
 | some fld=>
  rw[hf]at h
  simp at h
  exact⟨fs,fld,_,hT,hf,h.1,rfl,h.2⟩
theorem Df {T f:Nat}(hp:Pl n o t)(ho:o.op=.fieldAddr T x f)(hf:Wf P T f off)(hx:S.opd x=.per (em cs)):aB n P ops o (aG x) (.per (em (cs.drop off))) [] S:=
 aZ hp λC T g a w hAg hR=>by
  obtain⟨fs,fld,k,h1,h2,h3,h4,h5⟩:=hf.ex
  have h:=aM (x:=x) hAg (λk h=>h) hR
  rw[hx]at h
  obtain⟨b,q,hv,hb,hn,hc⟩:=h
  refine⟨_,by simp_all[execOp,lM],b,q+off,rfl,hb,hn,zG hc⟩
theorem Dg {T f:Nat}(hp:Pl n o t)(ho:o.op=.fieldAddr T x f)(hf:Wf P T f off)(hx:S.opd x=.bpt cs):aB n P ops o (aG x) (.bpt (cs.drop off)) [] S:=
 aZ hp λC T g a w hAg hR=>by
  obtain⟨fs,fld,k,h1,h2,h3,h4,h5⟩:=hf.ex
  have h:=aM (x:=x) hAg (λk h=>h) hR
  rw[hx]at h
  obtain⟨b,q,hv,hb,hn,hc⟩:=h
  refine⟨_,by simp_all[execOp,lM],b,q+off,rfl,hb,hn,zG hc⟩
theorem Dh (hp:Pl n o t)(ho:o.op=.load ty x)(hT:P.underlying ty=some d)(hd:iJ d=false)
 (hx:S.opd x=.bpt cs) (hA:cs[0]?=some A):aB n P ops o (aG x) (.per A) [] S:=
 aZ hp λC T g a w hAg hR=>by
  have h:=aM (x:=x) hAg (λk h=>h) hR
  rw[hx]at h
  obtain⟨b,of,hv,hb,hn,hc⟩:=h
  obtain⟨y,h1,h2,h3⟩:=hc 0 A hA
  rw[abo]at h1
  refine⟨y,?_,h3⟩
  simp_all[execOp,k8]
theorem Di (hp:Pl n o t)(ho:o.op=.load ty x)(hT:P.underlying ty=some d)(hd:iJ d=true)(hk:P.cellsOf ty=cs.length)(h0:0<cs.length)
 (hx:S.opd x=.bpt cs):aB n P ops o (aG x) (.per (cu cs)) [] S:=
 aZ hp λC T g a w hAg hR=>by
  have h:=aM (x:=x) hAg (λk h=>h) hR
  rw[hx]at h
  obtain⟨b,of,hv,hb,hn,hc⟩:=h
  obtain⟨vs,g1,g2,g3⟩:=eh cs hc
  refine⟨.agg vs.toArray,?_,⟨vs.toArray,rfl,g3⟩⟩
  simp only[execOp,ho,hv,Sem.run_bind,fD hT hd (by rw[hk,g1]) ae g2];rfl
end
def Gh.mk1 (g:Gh)(t q:Nat)(v:Value):Gh:=⟨λb=>if b=q then some t else g.ow b,λi=>if i=t then q else g.ph i,λi=>if i=t then v else g.rh i⟩
section
variable {P:Program} {n:Nat} {ops:Array Oper} {o:Oper} {F:List Nat} {S T:St} {C:Ctx} {g:Gh} {a:Act} {w w':World} {t:Nat}
theorem Nz {vr:Nat->Nat}(hR:RG C n T g a w)(hx:bQ w w')(h1:w.heap.size<=q)(h2:q<w'.heap.size)(hvr:T.ver=vr)(h:∀i,vr' i=if i=t then vr t+1 else vr i)(hfx:eL t=false) :
 oi C (λi=>i=t) vr vr' g (g.mk1 t q v) w w':=by
 subst hvr
 refine⟨hx.size,λb hb _=>hx.block b hb,λb hb _=>?_,λb hb hn=>?_,λb id e=>?_,λi=>?_,λi hi=>?_,λi hi=>?_,hx.os,hx.tape,hx.output⟩
 ·show(if b=q then some t else g.ow b)=_
  rw[aab ae]
 ·change (if b=q then some t else g.ow b)≠none at hn
  rwa [aab ae]at hn
 ·change (if b=q then some t else g.ow b)=some id at e
  by_cases hb:b=q
  ·subst hb;exact⟨h2,.inl (abk hR.size h1)⟩
  ·rw[aab hb]at e
   exact⟨aa4 (hR.dom b id e).1 hx.size,(hR.dom b id e).2⟩
 ·rw[h]
  by_cases hi:i=t
  all_goals grind
 ·rw[h]at hi
  by_cases hit:i=t
  ·grind
  ·exact⟨aab hit,aab hit⟩
 ·have hit:i≠t:=λe=>by grind
  exact⟨aab hit,aab hit⟩
theorem Pl.nofix (h:Pl n o t)(hR:RG C n T g a w):eL t=false:=Nn (by have:=aaq h.2.2;have:=hR.nle;omega)
theorem rM (hp : Pl n o t) {c : Cnt} {B : Blk} (hF : 2 * t + 1 ∈ F) (h : ∀ C T g a w, ed F T S -> RG C n T g a w -> ∃ v w' q, (execOp a.eval o).run P w = .ok (.value v) w' /\ bQ w w' /\ w.heap.size <= q /\ q < w'.heap.size /\
     ∀vr',(∀i,vr' i=if i=t then S.ver t+1 else T.ver i)->oi C (λi=>i=t) T.ver vr' g (g.mk1 t q v) w w'->crep C vr' (g.mk1 t q v) w' v c/\brep C vr' (g.mk1 t q v) w' t B) :
 aB n P ops o F c [(t,S.ver t+1,B)] S:=by
 refine⟨?_⟩
 intro C T hA a w ⟨g,hR⟩
 obtain⟨v,w',q,h1,h2,h3,h4,h5⟩:=h C T g a w hA hR
 unfold jg
 rw[aae (hp.wanted a)]
 unfold Oper.wp
 rw[h1,Oper.upon_value]
 have hv:=(hA.2 t hF).2
 have hvr:∀i,(T.app o.dst c [(t,S.ver t+1,B)]).ver i=if i=t then S.ver t+1 else T.ver i:=λi=>St.app_some_ver _ _ _ _ _ _ _
 have hst:=Nz (v:=v) hR h2 h3 h4 rfl (t:=t) (vr':=(T.app o.dst c [(t,S.ver t+1,B)]).ver) (by intro i;rw[hvr i,hv]) (hp.nofix hR)
 obtain⟨h6,h7⟩:=h5 _ hvr hst
 exact⟨g.mk1 t q v,hR.app1 hp.dOk hst h6 h7⟩
theorem gU (w:World)(ob:Obj):w.heap.size<(w.alloc ob).heap.size:=by rw[show(w.alloc ob).heap.size=w.heap.size+1 by simp];omega
theorem rN {vs:Array Value}{e:TypeId}(hsz:vs.size=cells.length)
 (h:∀(j:Nat)(c:Cnt),cells[j]?=some c->∃y,vs[j]?=some y/\y.oneCell'=true/\crep C vr' (g.mk1 t w.heap.size v) (w.alloc (.cells vs e)) y c) :
 brep C vr' (g.mk1 t w.heap.size v) (w.alloc (.cells vs e)) t (.box e cells):=
 ⟨vs,by show(w.alloc (.cells vs e)).heap[if t=t then w.heap.size else g.ph t]?=_;rw[aae rfl];exact heap_alloc_new w _,
  by show(if(if t=t then w.heap.size else g.ph t)=w.heap.size then some t else _)=some t;rw[aae rfl,aae rfl],hsz,h⟩
theorem kF {r:Nat}(h:vr' t=r)(hv:v=.pointer (some ⟨q,0,none⟩)):crep C vr' (g.mk1 t q v) w v (.ptr t r 0):=
 ⟨ae,λ_=>by rw[hv];show _=Value.pointer (some ⟨if t=t then q else g.ph t,0,none⟩);rw[aae rfl]⟩
theorem wt {e:TypeId}(hp:Pl n o t)(ho:o.op=.box e x)(hx:S.opd x=.per (cu cs)) :
 aB n P ops o ((2*t+1)::aG x) (.ptr t (S.ver t+1) 0) [(t,S.ver t+1,.box e (cs.map .per))] S:=
 rM hp aA λC T g a w hA hR=>by
  have h:=aM (x:=x) hA (λk h=>by simp[h]) hR
  rw[hx]at h
  obtain⟨vs,hv,h1,h2⟩:=h
  refine⟨.pointer (some ⟨w.heap.size,0,none⟩),w.alloc (.cells vs e),w.heap.size,?_,(bQ.refl w).alloc _,aaf _,gU _ _,λvr' hvr hst=>⟨?_,?_⟩⟩
  ·simp only[execOp,ho,hv,Instr.box,newVar,newRow,Value.cells,newObj,Sem.run_bind,Sem.run_pure]
   rfl
  ·grind[kF]
  ·refine rN (by simp[h1]) (λj c hj=>?_)
   rw[List.getElem?_map]at hj
   cases hA:cs[j]? with
   | none=>rw[hA]at hj;cases hj
   | some A=>
    rw[hA]at hj;cases hj
    obtain⟨y,g1,g2,g3⟩:=h2 j A hA
    exact⟨y,g1,g2,hst.crep (c:=.per A) g3⟩
def qv (A:PV):Prop:=∀N w v,A.p N w v->v.oneCell'=true/\v.cells=#[v]
theorem dC (h:v.oneCell'=true)(h':v.cells=#[v]):qv (ai v):=λ_ _ _ e=>by cases e;exact⟨h,h'⟩
theorem dU:qv (cn k es):=λ_ _ _ ⟨_,_,_,_,e,_⟩=>by subst e;exact⟨rfl,rfl⟩
theorem fv:qv (em cs):=λ_ _ _ ⟨_,_,e,_⟩=>by subst e;exact⟨rfl,rfl⟩
theorem wu {e:TypeId}(hp:Pl n o t)(ho:o.op=.box e x)(hx:S.opd x=.per A)(h1:qv A) :
 aB n P ops o ((2*t+1)::aG x) (.ptr t (S.ver t+1) 0) [(t,S.ver t+1,.box e [.per A])] S:=
 rM hp aA λC T g a w hA hR=>by
  have h:=aM (x:=x) hA (λk h=>by simp[h]) hR
  rw[hx]at h
  obtain⟨g1,g2⟩:=h1 _ _ _ h
  refine⟨.pointer (some ⟨w.heap.size,0,none⟩),w.alloc (.cells #[a.eval x] e),w.heap.size,?_,(bQ.refl w).alloc _,aaf _,gU _ _,λvr' hvr hst=>⟨?_,?_⟩⟩
  ·simp only[execOp,ho,Instr.box,newVar,newRow,g2,newObj,Sem.run_bind,Sem.run_pure]
   rfl
  ·grind[kF]
  ·refine rN rfl (λj c hj=>?_)
   cases j with
   | zero=>simp at hj;subst hj;exact⟨_,rfl,g1,hst.crep (c:=.per A) h⟩
   | succ j=>simp at hj
theorem NA {e:TypeId}{z:Value}(hp:Pl n o t)(ho:o.op=.alloc e)(hz:(P.info? e).bind (·.zero)=some z)(h1:z.cells.toList.all (·.oneCell')=true) :
 aB n P ops o [2*t+1] (.ptr t (S.ver t+1) 0) [(t,S.ver t+1,.box e (z.cells.toList.map Ny))] S:=
 rM hp aA λC T g a w hA hR=>by
  have hzv:(zeroValue e).run P w=.ok z w:=by
   cases hi:P.info? e with
   | none=>rw[hi]at hz;cases hz
   | some i=>
    rw[hi]at hz
    simp_all[zeroValue,typeInfo]
  refine⟨.pointer (some ⟨w.heap.size,0,none⟩),w.alloc (.cells z.cells e),w.heap.size,?_,(bQ.refl w).alloc _,aaf _,gU _ _,λvr' hvr hst=>⟨?_,?_⟩⟩
  ·simp only[execOp,ho,Instr.alloc,newVar,newRow,newObj,Sem.run_bind,Sem.run_pure,hzv,Result.andThen_ok]
   rfl
  ·grind[kF]
  ·refine rN aA (λj c hj=>?_)
   rw[List.getElem?_map]at hj
   cases hv:z.cells.toList[j]? with
   | none=>rw[hv]at hj;cases hj
   | some y=>
    rw[hv]at hj;cases hj
    refine⟨y,by simpa using hv,?_,rfl⟩
    rw[aaH]at h1
    grind
theorem tQ {e:TypeId}(hA:ed F T S)(hF:∀k∈aG x,k∈F)(hF':2*id+1∈F)(hR:RG C n T g a w)(hx:S.opd x=.ptr id vr off)(hv:S.ver id=vr)(hb:S.blk id=.box e cells) :
 a.eval x=.pointer (some ⟨g.ph id,off,none⟩)/\∃cs:Array Value,w.heap[g.ph id]?=some (.cells cs e (0,0))/\g.ow (g.ph id)=some id/\cs.size=cells.length /\
  ∀(j:Nat)(c:Cnt),cells[j]?=some c->∃y,cs[j]?=some y/\y.oneCell'=true/\crep C T.ver g w y c:=by
 have h:=aM hA hF hR
 rw[hx]at h
 have h2:=hA.2 id hF'
 have h3:=hR.blks id
 rw[h2.1,hb]at h3
 exact⟨h.2 (by rw[h2.2,hv]),h3⟩
theorem ei {w:World}{cs:Array Value}{e:TypeId}{fz:Nat×Nat}(h:w.heap[q]?=some (.cells cs e fz))(j:Nat):w.cell? ⟨q,j,none⟩=cs[j]?:=cell_of_row w q j _ _ _ h
theorem NB {e:TypeId}{c:Cnt}(hp:Pl n o t)(ho:o.op=.load ty x)(hT:P.underlying ty=some d)(hd:iJ d=false)
 (hx:S.opd x=.ptr id vr off) (hv:S.ver id=vr) (hb:S.blk id=.box e cells) (hc:cells[off]?=some c):aB n P ops o ((2*id+1)::aG x) c [] S:=
 aZ hp λC T g a w hA hR=>by
  obtain⟨h1,cs,h2,_,_,h5⟩:=tQ hA (λk h=>by simp[h]) aA hR hx hv hb
  obtain⟨y,g1,g2,g3⟩:=h5 off c hc
  refine⟨y,?_,g3⟩
  simp only[execOp,ho,h1,Sem.run_bind,k8 (b:=g.ph id) (o:=off) hT hd (by rw[ei h2];exact g1)];rfl
def vp:List Cnt->Option (List PV)
 | []=>some []
 | .per A::l=>match vp l with
  | some r=>some (A::r)
  | none=>none
 | _=>none
theorem pH:∀{l:List Cnt} {r:List PV},vp l=some r->l=r.map .per:=by
 intro l
 induction l with
 | nil=>intro r h;cases h;rfl
 | cons c l ih=>
  intro r h
  unfold vp at h
  grind
theorem NC {e:TypeId}(hp:Pl n o t)(ho:o.op=.load ty x)(hT:P.underlying ty=some d)(hd:iJ d=true)(hk:P.cellsOf ty=k)(h0:Nat.blt 0 k=true)
 (hx:S.opd x=.ptr id vr off) (hv:S.ver id=vr) (hb:S.blk id=.box e cells) (hl:Nat.ble (off+k) cells.length=true) (hc:vp ((cells.drop off).take k)=some As):aB n P ops o ((2*id+1)::aG x) (.per (cu As)) [] S:=
 aZ hp λC T g a w hA hR=>by
  obtain⟨h1,cs,h2,_,_,h5⟩:=tQ hA (λk h=>by simp[h]) aA hR hx hv hb
  have h0:=aaq h0
  have hl:=aaq hl
  have hm:=pH hc
  have hlen:As.length=k:=by
   have:=aaA List.length hm
   simp at this;omega
  obtain⟨vs,g1,g2,g3⟩:=eh (N:=g.N C) (w:=w) (f:=λj=>w.cell? ⟨g.ph id,off+j,none⟩) As (λj A hj=>by
   have hcj:cells[off+j]?=some (.per A):=by
    have:((cells.drop off).take k)[j]?=some (.per A):=by rw[hm,List.getElem?_map,hj];rfl
    rw[aaW]at this
    grind
   obtain⟨y,q1,q2,q3⟩:=h5 _ _ hcj
   exact⟨y,by rw[ei h2];exact q1,q2,q3⟩)
  refine⟨.agg vs.toArray,?_,⟨vs.toArray,rfl,g3⟩⟩
  simp only[execOp,ho,h1,Sem.run_bind,fD (b:=g.ph id) (o:=off) hT hd (by rw[hk,g1,hlen]) ae g2];rfl
theorem ND {ty f:Nat}(hp:Pl n o t)(ho:o.op=.fieldAddr ty x f)(hf:Wf P ty f fo)(hx:S.opd x=.ptr id vr off)(hv:S.ver id=vr) :
 aB n P ops o ((2*id+1)::aG x) (.ptr id vr (off+fo)) [] S:=
 aZ hp λC T g a w hA hR=>by
  obtain⟨fs,fld,k,h1,h2,h3,h4,h5⟩:=hf.ex
  have h:=aM (x:=x) hA (λk h=>by simp[h]) hR
  rw[hx]at h
  have hv':=(hA.2 id aA).2
  have hev:=h.2 ae
  refine⟨.pointer (some ⟨g.ph id,off+fo,none⟩),?_,⟨ae,λ_=>rfl⟩⟩
  simp_all[execOp,lM]
theorem pI {e:TypeId}{cs cs':Array Value}(hR:RG C n T g a w)(hq:q=g.ph id)(hh:w.heap[q]?=some (.cells cs e (0,0)))(how:g.ow q=some id):oi C (λi=>i=id) T.ver T.ver g g w (w.setRow q cs'):=by
 subst hq
 have hlt:=(hR.dom _ _ how).1
 refine⟨by simp[World.setRow],λb hb hn=>?_,λb _ _=>rfl,λb _ h=>h,λb i e=>by have:=hR.dom b i e;grind[World.setRow],λ_=>.inl rfl,λ_ _=>⟨rfl,rfl⟩,λ_ _=>⟨rfl,rfl⟩,rfl,rfl,rfl⟩
 have:b≠g.ph id:=λe=>hn id rfl (by rw[e];exact how)
 grind[World.setRow]
end
section
variable {P:Program} {n:Nat} {ops:Array Oper} {o:Oper} {F:List Nat} {S T:St} {C:Ctx} {g:Gh} {a:Act} {w w':World} {t:Nat}
def Gi (o:Oper):Prop:=o.guard=none/\o.dst=none
theorem lN {w:World}{e:TypeId}{cs:Array Value}(hh:w.heap[q]?=some (.cells cs e (0,0)))(hk:P.cellsOf ty=v.cells.size)(h0:0<v.cells.size)(hl:off+v.cells.size<=cs.size)
 (h1:∀u∈v.cells.toList,u.oneCell'=true) :
 (Instr.storeAt ty (.pointer (some ⟨q,off,none⟩)) v).run P w=.ok () (w.setRow q (cs.toList.take off++v.cells.toList++cs.toList.drop (off+v.cells.size)).toArray):=by
 simp only[Instr.storeAt,Instr.sureAddr,Sem.run_bind,Sem.run_pure,Result.andThen_ok,storeVar,gS hk h0]
 rw[aab aA]
 have:=run_storeCells_at (P:=P) q off e v.cells.toList 0 cs w hh (by simpa using hl) h1
 simpa using this
def lH (cells:List Cnt)(off:Nat)(l:List Cnt):List Cnt:=cells.take off++(l++cells.drop (off+l.length))
theorem rO {e:TypeId}{new:List Cnt}(hp:Gi o)(ho:o.op=.store ty x y)(hk:P.cellsOf ty=k)(h0:Nat.blt 0 k=true)
 (hx:S.opd x=.ptr id vr off) (hv:S.ver id=vr) (hb:S.blk id=.box e cells) (hl:Nat.ble (off+k) cells.length=true) (hnl:new.length=k)
 (hy:∀C T g a w,ed ((2*id+1)::(aG x++aG y)) T S->RG C n T g a w->(a.eval y).cells.size=k/\∀(j:Nat)(c:Cnt),new[j]?=some c->∃u,(a.eval y).cells[j]?=some u/\u.oneCell'=true/\crep C T.ver g w u c) :
 aB n P ops o ((2*id+1)::(aG x++aG y)) .any [(id,vr,.box e (lH cells off new))] S:=by
 refine⟨?_⟩
 intro C T hA a w ⟨g,hR⟩
 obtain⟨h1,cs,h2,h3,h4,h5⟩:=tQ hA (λk h=>by simp[h]) aA hR hx hv hb
 obtain⟨hys,hyc⟩:=hy C T g a w hA hR
 have h0:=aaq h0
 have hl:=aaq hl
 have hvt:=(hA.2 id aA).2
 unfold jg
 rw[aae (by simp[Region.wanted,hp.1])]
 unfold Oper.wp
 have hone:∀u∈(a.eval y).cells.toList,u.oneCell'=true:=by
  intro u hu
  obtain⟨j,hj,rfl⟩:=List.getElem_of_mem hu
  have hj':j<new.length:=by rw[hnl,<-hys];simpa using hj
  obtain⟨u',g1,g2,_⟩:=hyc j new[j] (by simp[hj'])
  grind
 have hrun:=lN (P:=P) (ty:=ty) (off:=off) h2 (by rw[hk,hys]) ae ae hone
 have hex:(execOp a.eval o).run P w=.ok .skip (w.setRow (g.ph id) (cs.toList.take off++(a.eval y).cells.toList++cs.toList.drop (off+(a.eval y).cells.size)).toArray):=by simp_all[execOp]
 rw[hex,Oper.upon_skip]
 have hst:=pI (cs':=(cs.toList.take off++(a.eval y).cells.toList++cs.toList.drop (off+(a.eval y).cells.size)).toArray) hR rfl h2 h3
 have hver:(T.app o.dst .any [(id,vr,.box e (lH cells off new))]).ver=T.ver:=by
  funext i
  rw[St.app_some_ver]
  grind
 refine⟨g,hR.app1 (c:=.any) (λt h=>by rw[hp.2]at h;cases h) (by rw[hver];exact hst) trivial ?_⟩
 rw[hver]
 refine⟨_,setRow_heap _ _ _ _ _ _ h2,h3,?_,λj c hj=>?_⟩
 ·simp[lH];omega
 ·unfold lH at hj
  have hta:(cells.take off).length=off:=bD
  have htb:(cs.toList.take off).length=off:=bD
  rcases aaF j off with hlt|hge
  ·rw[aaz ae,aaW,aae hlt]at hj
   obtain⟨u,q1,q2,q3⟩:=h5 j c hj
   refine⟨u,?_,q2,hst.crep q3⟩
   rw[abd,aal,aaz ae,aaW,aae hlt]
   simpa using q1
  ·rw[List.getElem?_append_right ae,hta]at hj
   rcases aaF j (off+k)with hlt|hge2
   ·rw[aaz ae]at hj
    obtain⟨u,q1,q2,q3⟩:=hyc _ c hj
    refine⟨u,?_,q2,hst.crep q3⟩
    rw[abd,aal,List.getElem?_append_right ae,htb,aaz bD]
    simpa using q1
   ·rw[List.getElem?_append_right ae,hnl,abn]at hj
    obtain⟨u,q1,q2,q3⟩:=h5 _ c hj
    refine⟨u,?_,q2,hst.crep q3⟩
    rw[abd,aal,List.getElem?_append_right ae,htb,List.getElem?_append_right bD,abn]
    grind
theorem KH {e:TypeId}(hp:Gi o)(ho:o.op=.store ty x y)(hk:P.cellsOf ty=1)
 (hx:S.opd x=.ptr id vr off) (hv:S.ver id=vr) (hb:S.blk id=.box e cells) (hl:Nat.ble (off+1) cells.length=true) (hy:S.opd y=.per A) (h1:qv A) :
 aB n P ops o ((2*id+1)::(aG x++aG y)) .any [(id,vr,.box e (lH cells off [.per A]))] S:=
 rO hp ho hk rfl hx hv hb hl rfl λC T g a w hA hR=>by
  have h:=aM (x:=y) hA (λk h=>by simp[h]) hR
  rw[hy]at h
  obtain⟨g1,g2⟩:=h1 _ _ _ h
  rw[g2]
  grind
theorem KI {e:TypeId}(hp:Gi o)(ho:o.op=.store ty x y)(hk:P.cellsOf ty=k)(h0:Nat.blt 0 k=true)
 (hx:S.opd x=.ptr id vr off) (hv:S.ver id=vr) (hb:S.blk id=.box e cells) (hl:Nat.ble (off+k) cells.length=true) (hy:S.opd y=.per (cu As)) (hn:As.length=k) :
 aB n P ops o ((2*id+1)::(aG x++aG y)) .any [(id,vr,.box e (lH cells off (As.map .per)))] S:=
 rO hp ho hk h0 hx hv hb hl (by simp[hn]) λC T g a w hA hR=>by
  have h:=aM (x:=y) hA (λk h=>by simp[h]) hR
  rw[hy]at h
  obtain⟨vs,hv,q1,q2⟩:=h
  rw[hv]
  refine⟨by show vs.size=k;omega,λj c hj=>?_⟩
  rw[List.getElem?_map]at hj
  cases hAj:As[j]? with
  | none=>rw[hAj]at hj;cases hj
  | some A=>
   rw[hAj]at hj;cases hj
   exact q2 j A hAj
theorem j8 {w:World}{e:TypeId}{cap i:Nat}{b of:Nat}(hT:P.underlying ty=some (.slice e))(hk:P.cellsOf e=k)(h0:0<k)(hi:i<len) :
 (Instr.indexAt ty (.slice (some ⟨b,of,none⟩) len cap) (.int kk (i:Int))).run P w=.ok (.pointer (some ⟨b,of+i*k,none⟩)) w:=by simp_all[Program.elem,run_indexAt_slice,gS,Addr.add_lit]
theorem NF {e:TypeId}{i:Nat}(hp:Pl n o t)(ho:o.op=.indexAddr ty x ix)(hT:P.underlying ty=some (.slice e))(hk:P.cellsOf e=k)(h0:Nat.blt 0 k=true)
 (hx:S.opd x=.per (cn k es)) (hi:S.opd ix=iC kk z) (hz:z=(i:Int)) (hc:es[i]?=some cs):aB n P ops o (aG x++aG ix) (.per (em cs)) [] S:=
 aZ hp λC T g a w hA hR=>by
  have h:=aM (x:=x) hA (λk h=>by simp[h]) hR
  have h2:=bf (x:=ix) hA (λk h=>by simp[h]) hR hi
  rw[hx]at h
  obtain⟨ad,c,b,of,hv,_,_,_,h5,h6⟩:=h
  have hlt:i<es.length:=by grind
  obtain⟨rfl,q2,q3⟩:=h5 ae
  obtain⟨q4,q5⟩:=h6 i cs hc
  refine⟨.pointer (some ⟨b,of+i*k,none⟩),?_,b,of+i*k,rfl,q2,q3,q5⟩
  simp_all[execOp,j8]
theorem Gu {e:TypeId}{i:Nat}(hp:Pl n o t)(ho:o.op=.indexAddr ty x ix)(hT:P.underlying ty=some (.slice e))(hk:P.cellsOf e=k)(h0:Nat.blt 0 k=true)
 (hx:S.opd x=.bor k es) (hi:S.opd ix=iC kk z) (hz:z=(i:Int)) (hc:es[i]?=some cs):aB n P ops o (aG x++aG ix) (.bpt cs) [] S:=
 aZ hp λC T g a w hA hR=>by
  have h:=aM (x:=x) hA (λk h=>by simp[h]) hR
  have h2:=bf (x:=ix) hA (λk h=>by simp[h]) hR hi
  rw[hx]at h
  obtain⟨ad,c,b,of,hv,_,_,_,h5,h6⟩:=h
  have hlt:i<es.length:=by grind
  obtain⟨rfl,q2,q3⟩:=h5 ae
  obtain⟨q4,q5⟩:=h6 i cs hc
  refine⟨.pointer (some ⟨b,of+i*k,none⟩),?_,b,of+i*k,rfl,q2,q3,q5⟩
  simp_all[execOp,j8]
theorem KJ {i:Nat}{c:UInt8}(hp:Pl n o t)(ho:o.op=.index ty x ix)(hT:P.underlying ty=some .string)
 (hx:S.opd x=sC s) (hi:S.opd ix=iC kk z) (hz:z=(i:Int)) (hc:s.data.toList[i]?=some c):aB n P ops o (aG x++aG ix) (iC .u8 (c.toNat:Int)) [] S:=
 aZ hp λC T g a w hA hR=>by
  have h1:=bf (x:=x) hA (λk h=>by simp[h]) hR hx
  have h2:=bf (x:=ix) hA (λk h=>by simp[h]) hR hi
  subst hz
  have hs:s[i]?=some c:=by
   have:s[i]?=s.data[i]?:=by
    by_cases h:i<s.size
    ·rw[getElem?_pos s i h,abw (by exact h)];rfl
    simp_all
   rw[this];simpa using hc
  refine⟨.int .u8 (c.toNat:Int),?_,rfl⟩
  simp_all[execOp,Instr.index,asIntOf,run_underlying]
theorem wv {e:TypeId}{ad:Option Addr}{l c:Nat}(hT:P.underlying ty=some (.slice e))(w:World):(Builtin.len_ #[ty] ty' #[.slice ad l c]).run P w=.ok (.int .i64 (l:Int)) w:=by simp[Builtin.len_,run_underlying hT,goInt]
def k9 (o:Oper)(ty:TypeId)(x:Operand):Prop:=o.op=.call { callee:=.builtin .len,args:=#[x],argTypes:=#[ty] }
theorem pJ {r:Value}(ho:k9 o ty x)(hx:a.eval x=v)(h:(Builtin.len_ #[ty] o.type #[v]).run P w=.ok r w):(execOp a.eval o).run P w=.ok (.value r) w:=by simp_all[k9,execOp,resolve,invoke,builtin]
theorem WZ {e:TypeId}(hp:Pl n o t)(ho:k9 o ty x)(hT:P.underlying ty=some (.slice e))(hx:S.opd x=.per (cn k es)):aB n P ops o (aG x) (iC .i64 (es.length:Int)) [] S:=
 aZ hp λC T g a w hA hR=>by
  have h:=aM (x:=x) hA (λk h=>by simp[h]) hR
  rw[hx]at h
  obtain⟨ad,c,b,of,hv,_⟩:=h
  exact⟨_,pJ ho hv (wv hT w),rfl⟩
theorem NG {e:TypeId}(hp:Pl n o t)(ho:k9 o ty x)(hT:P.underlying ty=some (.slice e))(hx:S.opd x=.bor k es):aB n P ops o (aG x) (iC .i64 (es.length:Int)) [] S:=
 aZ hp λC T g a w hA hR=>by
  have h:=aM (x:=x) hA (λk h=>by simp[h]) hR
  rw[hx]at h
  obtain⟨ad,c,b,of,hv,_⟩:=h
  exact⟨_,pJ ho hv (wv hT w),rfl⟩
theorem NH (hp:Pl n o t)(ho:k9 o ty x)(hT:P.underlying ty=some .string)(hx:S.opd x=sC s):aB n P ops o (aG x) (iC .i64 (s.size:Int)) [] S:=
 aZ hp λC T g a w hA hR=>by
  have h1:=bf (x:=x) hA (λk h=>by simp[h]) hR hx
  exact⟨_,pJ ho h1 (by simp[Builtin.len_,run_underlying hT,goInt]),rfl⟩
theorem oH (hA:ed F T S)(hF:∀k∈aG x,k∈F)(hF':2*id+1∈F)(hR:RG C n T g a w)(hx:S.opd x=.row id vr)(hv:S.ver id=vr)(hb:S.blk id=.row e k es) :
 a.eval x=g.rh id/\brep C T.ver g w id (.row e k es):=by
 have h:=aM hA hF hR
 rw[hx]at h
 have h2:=hA.2 id hF'
 have h3:=hR.blks id
 rw[h2.1,hb]at h3
 exact⟨h.2 (by rw[h2.2,hv]),h3⟩
theorem Bv (ht:∀b,b<w.heap.size->¬top b)(hR:RG C n T g a w)(h:brep C T.ver g w id (.row e k es)):eW top (g.N C) k es w (g.rh id):=by
 rcases h with⟨h1,rfl⟩|⟨cap,cs,h1,h2,h3,h4,h5,h6,h7⟩
 ·exact⟨none,0,0,0,by rw[h1];rfl,aA,bP,λ_=>rfl,aA,λi cs hi=>by simp at hi⟩
 ·have hlt:=(hR.dom _ _ h3).1
  refine⟨_,cap,g.ph id,0,h1,h4,h5,aA,λ_=>⟨rfl,hlt,ht _ hlt⟩,λi ps hi=>?_⟩
  grind[ei]
theorem NI (hp:Pl n o t)(ho:k9 o ty x)(hT:P.underlying ty=some (.slice e'))(hx:S.opd x=.row id vr)(hv:S.ver id=vr)(hb:S.blk id=.row e k es) :
 aB n P ops o ((2*id+1)::aG x) (iC .i64 (es.length:Int)) [] S:=
 aZ hp λC T g a w hA hR=>by
  obtain⟨h1,h2⟩:=oH hA (λk h=>by simp[h]) aA hR hx hv hb
  obtain⟨ad,c,b,of,hv,_⟩:=Bv (top:=λ_=>False) (λ_ _ h=>h) hR h2
  exact⟨_,pJ ho (h1.trans hv) (wv hT w),rfl⟩
theorem Gv {i:Nat}(hp:Pl n o t)(ho:o.op=.indexAddr ty x ix)(hT:P.underlying ty=some (.slice e'))(hk:P.cellsOf e'=k)(h0:Nat.blt 0 k=true)
 (hx:S.opd x=.row id vr) (hv:S.ver id=vr) (hb:S.blk id=.row e k es) (hi:S.opd ix=iC kk z) (hz:z=(i:Int)) (hlt:i<es.length):aB n P ops o ((2*id+1)::(aG x++aG ix)) (.ept id vr k i 0) [] S:=
 aZ hp λC T g a w hA hR=>by
  obtain⟨h1,h2⟩:=oH (x:=x) hA (λk h=>by simp[h]) aA hR hx hv hb
  have h3:=bf (x:=ix) hA (λk h=>by simp[h]) hR hi
  have hvt:=(hA.2 id aA).2
  rcases h2 with⟨_,rfl⟩|⟨cap,cs,q1,_⟩
  ·simp at hlt
  ·refine⟨.pointer (some ⟨g.ph id,0+i*k,none⟩),?_,⟨ae,λ_=>aA⟩⟩
   simp_all[execOp,j8]
theorem Gx {ty f:Nat}{i j:Nat}(hp:Pl n o t)(ho:o.op=.fieldAddr ty x f)(hf:Wf P ty f fo)(hx:S.opd x=.ept id vr k i j)(hv:S.ver id=vr) :
 aB n P ops o ((2*id+1)::aG x) (.ept id vr k i (j+fo)) [] S:=
 aZ hp λC T g a w hA hR=>by
  obtain⟨fs,fld,k',h1,h2,h3,h4,h5⟩:=hf.ex
  have h:=aM (x:=x) hA (λk h=>by simp[h]) hR
  rw[hx]at h
  have hv':=(hA.2 id aA).2
  have hev:=h.2 ae
  refine⟨.pointer (some ⟨g.ph id,i*k+j+fo,none⟩),?_,⟨ae,λ_=>by rw[Nat.add_assoc]⟩⟩
  simp_all[execOp,lM]
theorem Dj {i j:Nat}(hA:ed F T S)(hF:∀k∈aG x,k∈F)(hF':2*id+1∈F)(hR:RG C n T g a w)(hx:S.opd x=.ept id vr k i j)(hv:S.ver id=vr)(hb:S.blk id=.row e k es)(hi:es[i]?=some ps) :
 a.eval x=.pointer (some ⟨g.ph id,i*k+j,none⟩)/\∀(q:Nat)(A:PV),ps[q]?=some A->∃y,w.cell? ⟨g.ph id,i*k+q,none⟩=some y/\y.oneCell'=true/\A.p (g.N C) w y:=by
 have h:=aM hA hF hR
 rw[hx]at h
 have h2:=hA.2 id hF'
 have h3:=hR.blks id
 rw[h2.1,hb]at h3
 refine⟨h.2 (by rw[h2.2,hv]),λq A hq=>?_⟩
 rcases h3 with⟨_,rfl⟩|⟨cap,cs,_,r2,_,_,_,_,r7⟩
 all_goals grind[ei]
theorem Gy {i j:Nat}(hp:Pl n o t)(ho:o.op=.load ty x)(hT:P.underlying ty=some d)(hd:iJ d=false)
 (hx:S.opd x=.ept id vr k i j) (hv:S.ver id=vr) (hb:S.blk id=.row e k es) (hi:es[i]?=some ps) (hj:ps[j]?=some A):aB n P ops o ((2*id+1)::aG x) (.per A) [] S:=
 aZ hp λC T g a w hA hR=>by
  obtain⟨h1,h2⟩:=Dj hA (λk h=>by simp[h]) aA hR hx hv hb hi
  obtain⟨y,g1,g2,g3⟩:=h2 j A hj
  refine⟨y,?_,g3⟩
  simp_all[execOp,k8]
theorem Gz {i j m:Nat}(hp:Pl n o t)(ho:o.op=.load ty x)(hT:P.underlying ty=some d)(hd:iJ d=true)(hk:P.cellsOf ty=m)(h0:Nat.blt 0 m=true)
 (hx:S.opd x=.ept id vr k i j) (hv:S.ver id=vr) (hb:S.blk id=.row e k es) (hi:es[i]?=some ps) (hj:(ps.drop j).take m=As) (hl:As.length=m):aB n P ops o ((2*id+1)::aG x) (.per (cu As)) [] S:=
 aZ hp λC T g a w hA hR=>by
  obtain⟨h1,h2⟩:=Dj hA (λk h=>by simp[h]) aA hR hx hv hb hi
  have h0:=aaq h0
  obtain⟨vs,g1,g2,g3⟩:=eh (N:=g.N C) (w:=w) (f:=λq=>w.cell? ⟨g.ph id,i*k+j+q,none⟩) As (λq A hq=>by
   rw[<-hj,aaW]at hq
   grind)
  refine⟨.agg vs.toArray,?_,⟨vs.toArray,rfl,g3⟩⟩
  simp only[execOp,ho,h1,Sem.run_bind,fD (b:=g.ph id) (o:=i*k+j) hT hd (by rw[hk,g1,hl]) ae g2];rfl
theorem Dk {c d:Cnt}(hp:Pl n o t)(ho:o.op=.extract x 0)(hx:S.opd x=.tup2 c d):aB n P ops o (aG x) c [] S:=
 aZ hp λC T g a w hA hR=>by
  have h:=aM (x:=x) hA (λk h=>by simp[h]) hR
  rw[hx]at h
  obtain⟨u,v,hv,h1,h2⟩:=h
  simp_all[execOp,Instr.extract]
theorem Dl {c d:Cnt}(hp:Pl n o t)(ho:o.op=.extract x 1)(hx:S.opd x=.tup2 c d):aB n P ops o (aG x) d [] S:=
 aZ hp λC T g a w hA hR=>by
  have h:=aM (x:=x) hA (λk h=>by simp[h]) hR
  rw[hx]at h
  obtain⟨u,v,hv,h1,h2⟩:=h
  simp_all[execOp,Instr.extract]
theorem Dm {c d e:Cnt}(hp:Pl n o t)(ho:o.op=.extract x 0)(hx:S.opd x=.tup3 c d e):aB n P ops o (aG x) c [] S:=
 aZ hp λC T g a w hA hR=>by
  have h:=aM (x:=x) hA (λk h=>by simp[h]) hR
  rw[hx]at h
  obtain⟨u,v,z,hv,h1,h2,h3⟩:=h
  simp_all[execOp,Instr.extract]
theorem Dn {c d e:Cnt}(hp:Pl n o t)(ho:o.op=.extract x 1)(hx:S.opd x=.tup3 c d e):aB n P ops o (aG x) d [] S:=
 aZ hp λC T g a w hA hR=>by
  have h:=aM (x:=x) hA (λk h=>by simp[h]) hR
  rw[hx]at h
  obtain⟨u,v,z,hv,h1,h2,h3⟩:=h
  simp_all[execOp,Instr.extract]
theorem Dp {c d e:Cnt}(hp:Pl n o t)(ho:o.op=.extract x 2)(hx:S.opd x=.tup3 c d e):aB n P ops o (aG x) e [] S:=
 aZ hp λC T g a w hA hR=>by
  have h:=aM (x:=x) hA (λk h=>by simp[h]) hR
  rw[hx]at h
  obtain⟨u,v,z,hv,h1,h2,h3⟩:=h
  simp_all[execOp,Instr.extract]
def j9 (F:List Nat)(S:St)(x:Operand)(c:Cnt):Prop:=∀(n:Nat)(C:Ctx)(T:St)(g:Gh)(a:Act)(w:World),ed F T S->RG C n T g a w ->
 crep ⟨w,λb=>b<w.heap.size/\g.N C b,λ_=>False,g0⟩ (λ_=>0) g0 w (a.eval x) c
theorem ZW {b:Nat}(h:(g0.N ⟨w,λb=>b<w.heap.size/\g.N C b,λ_=>False,g0⟩) b):g.N C b:=by
 rcases h with h|h
 ·exact h.2
 ·exact absurd rfl h
theorem KK (hx:S.opd x=.per A)(hF:∀k∈aG x,k∈F):j9 F S x (.per A):=λn C T g a w hA hR=>by
 have h:=aM (x:=x) hA hF hR
 rw[hx]at h
 exact A.mono (aaf _) (λ_ _ _=>rfl) (λb _ hb=>ZW hb) h
theorem vG {N':BP}(hn:∀b,N' b->N b)(h:eW top N k es w v):eW g0.M N' k es w v:=by
 obtain⟨ad,c,b,of,h1,h2,h3,h4,h5,h6⟩:=h
 refine⟨ad,c,b,of,h1,h2,h3,h4,λh0=>⟨(h5 h0).1,(h5 h0).2.1,λh=>h rfl⟩,λi cs hi=>⟨(h6 i cs hi).1,λj A hj=>?_⟩⟩
 obtain⟨y,q1,q2,q3⟩:=(h6 i cs hi).2 j A hj
 exact⟨y,q1,q2,A.mono (aaf _) (λ_ _ _=>rfl) (λb _ hb=>hn b hb) q3⟩
theorem KL (hx:S.opd x=.per (cn k es))(hF:∀k∈aG x,k∈F):j9 F S x (.bor k es):=λn C T g a w hA hR=>by
 have h:=aM (x:=x) hA hF hR
 rw[hx]at h
 exact vG (λb hb=>ZW hb) h
theorem KM (hx:S.opd x=.bor k es)(hF:∀k∈aG x,k∈F):j9 F S x (.bor k es):=λn C T g a w hA hR=>by
 have h:=aM (x:=x) hA hF hR
 rw[hx]at h
 exact vG (λb hb=>ZW hb) h
theorem KN (hx:S.opd x=.row id vr)(hv:S.ver id=vr)(hb:S.blk id=.row e k es)(hF:∀k∈aG x,k∈F)(hF':2*id+1∈F):j9 F S x (.bor k es):=λn C T g a w hA hR=>by
 obtain⟨h1,h2⟩:=oH (x:=x) hA hF hF' hR hx hv hb
 rw[h1]
 exact vG (λb hb=>ZW hb) (Bv (top:=λ_=>False) (λ_ _ h=>h) hR h2)
theorem KO (hx:S.opd x=.per (ai (.slice none 0 0)))(hF:∀k∈aG x,k∈F):j9 F S x (.bor k []):=λn C T g a w hA hR=>by
 have h:=bf (x:=x) hA hF hR hx
 rw[h]
 exact⟨none,0,0,0,rfl,aA,bP,λ_=>rfl,aA,λi cs hi=>by simp at hi⟩
theorem GA (hx:S.opd x=.per (ai (.slice none 0 0)))(hF:∀k∈aG x,k∈F):j9 F S x (.per (cn k [])):=λn C T g a w hA hR=>by
 have h:=bf (x:=x) hA hF hR hx
 rw[h]
 exact⟨none,0,0,0,rfl,aA,bP,λ_=>rfl,aA,λi cs hi=>by simp at hi⟩
inductive nh (F:List Nat)(S:St):List Operand->List Cnt->Prop
 | nil:nh F S [] []
 | cons {x:Operand} {c:Cnt} {xs:List Operand} {cs:List Cnt} (h:j9 F S x c) (t:nh F S xs cs):nh F S (x::xs) (c::cs)
theorem nh.rep {cs:List Cnt}(h:nh F S xs cs)(hA:ed F T S)(hR:RG C n T g a w):rJ (λb=>b<w.heap.size/\g.N C b) w (xs.map a.eval) cs:=by
 induction h with
 | nil=>exact⟨rfl,λi v c hi=>by simp at hi⟩
 | cons h t ih=>
  refine⟨by simp[ih.1],λi v c hi hc=>?_⟩
  cases i with
  | zero=>
   simp at hi hc;subst hi;subst hc
   exact h n C T g a w hA hR
  | succ i=>exact ih.2 i v c (by simpa using hi) (by simpa using hc)
def ww (t v:Nat):Ret->Cnt
 | .per A=>.per A
 | .own _ _ _=>.row t v
 | .tup2 c d=>.tup2 (ww t v c) (ww t v d)
 | .tup3 c d e=>.tup3 (ww t v c) (ww t v d) (ww t v e)
def kx (o:Oper)(f:FuncId)(xs:List Operand):Prop:=∃tys,o.op=.call { callee:=.value (.func f),args:=xs.toArray,argTypes:=tys }
theorem Bw {f:FuncId}{K:Act->World->Prop}{R:Value->World->Prop}(hE:Wd P f)(ho:kx o f xs)(h:Calls P f (xs.map a.eval).toArray w (λe w'=>∃v,e=.returned v/\R v w'))(hk:∀v w',R v w'->K (a.put o.dst v) w') :
 o.wp P a w K (λ_ _ _=>False):=by
 obtain⟨fn,h1,h2,h3⟩:=hE
 obtain⟨tys,ho⟩:=ho
 unfold Oper.wp
 have:(execOp a.eval o).run P w=.ok (.enter f (xs.map a.eval).toArray) w:=by
  simp only[execOp,ho,resolve,Act.eval,Deferred.ofValue,Sem.run_bind,Sem.run_pure,Result.andThen_ok,invoke,callFunc,List.map_toArray]
  simp only[program,Sem.run,Result.andThen_ok,h1,h2,h3,aaL,if_false]
  simp
 rw[this,Oper.upon_enter]
 refine Calls.mono h ?_
 grind
theorem NJ {g':Gh}(hg:∀b,b<w.heap.size->g'.ow b≠none->g.ow b≠none)(hn:∀b,w.heap.size<=b->¬C.N0 b)
 (hfr:∀b,w.heap.size<=b->b<w'.heap.size->g'.ow b=none) (h:A.p (λb=>b<w.heap.size/\g.N C b) w' v):A.p (g'.N C) w' v:=
 A.mono (aaf _) (λ_ _ _=>rfl) (λb hb hbn=>by
  rcases aaF b w.heap.size with hlt|hge
  ·refine⟨hlt,?_⟩
   rcases hbn with q|q
   ·exact .inl q
   ·exact .inr (hg b hlt q)
  ·rcases hbn with q|q
   all_goals grind) h
def Ret.plain:Ret->Bool
 | .per _=>true
 | .own _ _ _=>false
 | .tup2 c d=>c.plain&&d.plain
 | .tup3 c d e=>c.plain&&d.plain&&e.plain
theorem Jp (hR:RG C n T g a w):∀b,w.heap.size<=b->¬C.N0 b:=λb hb h=>by have:=hR.n0 b h;have:=hR.size;omega
theorem vH (hR:RG C n T g a w):∀b,w.heap.size<=b->g.ow b=none:=λb hb=>by
 cases h:g.ow b with
 | none=>rfl
 | some id=>have:=(hR.dom b id h).1;omega
theorem zH (hR:RG C n T g a w):∀{r:Ret} {v:Value},r.plain=true->r.rep (λb=>b<w.heap.size/\g.N C b) w w' v->crep C T.ver g w' v (ww t 0 r):=by
 intro r
 induction r with
 | per A=>intro v _ h;exact NJ (λ_ _ h=>h) (Jp hR) (λb hb _=>vH hR b hb) h
 | own e k es=>intro v h;cases h
 | tup2 c d ih1 ih2=>
  rintro v hp ⟨x,y,rfl,h1,h2⟩
  simp only[Ret.plain,aaC]at hp
  exact⟨x,y,rfl,ih1 hp.1 h1,ih2 hp.2 h2⟩
 | tup3 c d e ih1 ih2 ih3=>
  rintro v hp ⟨x,y,z,rfl,h1,h2,h3⟩
  simp only[Ret.plain,aaC]at hp
  exact⟨x,y,z,rfl,ih1 hp.1.1 h1,ih2 hp.1.2 h2,ih3 hp.2 h3⟩
theorem Tk {f:FuncId}{As:List Cnt}(hp:Pl n o t)(ho:kx o f xs)(hf:Fn P f As r)(hpl:r.plain=true)(hg:nh F S xs As):aB n P ops o F (ww t 0 r) [] S:=by
 refine⟨?_⟩
 intro C T hA a w ⟨g,hR⟩
 unfold jg
 rw[aae (hp.wanted a)]
 refine Bw hf.ent ho (hf.run _ w (xs.map a.eval) (λb h=>h.1) (hg.rep hA hR)) ?_
 rintro v w' ⟨hx,hr⟩
 exact⟨g,hR.app0 hx hp.dOk (zH hR hpl hr)⟩
end
def Gh.mkN (g:Gh)(t:Nat)(v:Value):Gh:=⟨g.ow,g.ph,λi=>if i=t then v else g.rh i⟩
section
variable {P:Program} {n:Nat} {ops:Array Oper} {o:Oper} {F:List Nat} {S T:St} {C:Ctx} {g:Gh} {a:Act} {w w':World} {t:Nat}
theorem ni (hR:RG C n T g a w)(hx:bQ w w')(h:∀i,vr' i=if i=t then T.ver t+1 else T.ver i)(hfx:eL t=false):oi C (λi=>i=t) T.ver vr' g (g.mkN t v) w w':=by
 refine⟨hx.size,λb hb _=>hx.block b hb,λ_ _ _=>rfl,λ_ _ h=>h,λb id e=>⟨aa4 (hR.dom b id e).1 hx.size,(hR.dom b id e).2⟩,λi=>?_,λi hi=>?_,λi hi=>?_,hx.os,hx.tape,hx.output⟩
 ·rw[h]
  by_cases hi:i=t
  all_goals grind
 ·rw[h]at hi
  by_cases hit:i=t
  ·grind
  ·exact⟨rfl,aab hit⟩
 ·exact⟨rfl,aab (λe=>by grind)⟩
theorem NK (hR:RG C n T g a w)(hx:bQ w w')(hvr:∀i,vr' i=if i=t then T.ver t+1 else T.ver i)(hfx:eL t=false)
 (h:(Ret.own e k es).rep (λb=>b<w.heap.size/\g.N C b) w w' v) :
 ∃g',oi C (λi=>i=t) T.ver vr' g g' w w'/\g'.rh t=v/\brep C vr' g' w' t (.row e k es):=by
 rcases h with⟨h1,h2⟩|⟨q,cap,cs,h1,h2,h3,h4,h5,h6,h7⟩
 ·exact⟨g.mkN t v,ni hR hx hvr hfx,aae rfl,.inl ⟨by show(if t=t then v else _)=_;rw[aae rfl];exact h1,h2⟩⟩
 ·have hq:q<w'.heap.size:=(Array.getElem?_eq_some_iff.1 h3).1
  have hst:=Nz (v:=v) (w':=w') hR hx h2 hq rfl hvr hfx
  have hph:(g.mk1 t q v).ph t=q:=aae rfl
  have hrh:(g.mk1 t q v).rh t=v:=aae rfl
  refine⟨g.mk1 t q v,hst,hrh,.inr ⟨cap,cs,by rw[hrh,hph];exact h1,by rw[hph];exact h3,by rw[hph];exact aae rfl,h4,h5,h6,λi ps hi=>?_⟩⟩
  obtain⟨r1,r2⟩:=h7 i ps hi
  refine⟨r1,λj A hj=>?_⟩
  obtain⟨y,s1,s2,s3⟩:=r2 j A hj
  refine⟨y,s1,s2,?_⟩
  refine A.mono (aaf _) (λ_ _ _=>rfl) (λb hb hbn=>?_) s3
  rcases aaF b w.heap.size with hlt|hge
  ·exact .inl ⟨hlt,hst.n b hlt hbn⟩
  ·rcases hbn with hbn|hbn
   ·grind[Jp]
   ·refine .inr ?_
    change (if b=q then some t else g.ow b)≠none at hbn
    by_cases hbq:b=q
    all_goals grind[vH]
theorem Dq {f:FuncId}{As:List Cnt}(hp:Pl n o t)(ho:kx o f xs)(hf:Fn P f As (.own e k es))(hg:nh F S xs As)(hF:2*t+1∈F) :
 aB n P ops o F (.row t (S.ver t+1)) [(t,S.ver t+1,.row e k es)] S:=by
 refine⟨?_⟩
 intro C T hA a w ⟨g,hR⟩
 unfold jg
 rw[aae (hp.wanted a)]
 refine Bw hf.ent ho (hf.run _ w (xs.map a.eval) (λb h=>h.1) (hg.rep hA hR)) ?_
 rintro v w' ⟨hx,hr⟩
 have hvt:=(hA.2 t hF).2
 have hvr:∀i,(T.app o.dst (.row t (S.ver t+1)) [(t,S.ver t+1,.row e k es)]).ver i=if i=t then T.ver t+1 else T.ver i:=λi=>by rw[St.app_some_ver,hvt]
 obtain⟨g',h1,h2,h3⟩:=NK hR hx hvr (hp.nofix hR) hr
 exact⟨g',hR.app1 hp.dOk h1 ⟨by rw[hvr,aae rfl,hvt];exact aaf _,λ_=>h2.symm⟩ h3⟩
theorem Bx {f:FuncId}{As:List Cnt}(hp:Pl n o t)(ho:kx o f xs)(hf:Fn P f As (.tup2 (.own e k es) (.per (ai u))))(hg:nh F S xs As)(hF:2*t+1∈F) :
 aB n P ops o F (.tup2 (.row t (S.ver t+1)) (.per (ai u))) [(t,S.ver t+1,.row e k es)] S:=by
 refine⟨?_⟩
 intro C T hA a w ⟨g,hR⟩
 unfold jg
 rw[aae (hp.wanted a)]
 refine Bw hf.ent ho (hf.run _ w (xs.map a.eval) (λb h=>h.1) (hg.rep hA hR)) ?_
 rintro v w' ⟨hx,x,y,rfl,hr,hu⟩
 have hvt:=(hA.2 t hF).2
 have hvr:∀i,(T.app o.dst (.tup2 (.row t (S.ver t+1)) (.per (ai u))) [(t,S.ver t+1,.row e k es)]).ver i=if i=t then T.ver t+1 else T.ver i:=λi=>by rw[St.app_some_ver,hvt]
 obtain⟨g',h1,h2,h3⟩:=NK hR hx hvr (hp.nofix hR) hr
 exact⟨g',hR.app1 hp.dOk h1 ⟨x,y,rfl,⟨by rw[hvr,aae rfl,hvt];exact aaf _,λ_=>h2.symm⟩,hu⟩ h3⟩
def GB (F:List Nat)(S:St)(x:Operand)(k:Nat)(ns:List (List PV)):Prop:=∀(n:Nat)(C:Ctx)(T:St)(g:Gh)(a:Act)(w:World),ed F T S->RG C n T g a w ->
 eW (λ_=>False) (g.N C) k ns w (a.eval x)
theorem Dr {top':BP}(ht:∀b,top' b->top b)(h:eW top N k es w v):eW top' N k es w v:=
 eW.mono (aaf _) (λ_ _ _=>rfl) (λ_ _ _=>rfl) (λb _ hb=>ht b hb) (λ_ _ h=>h) h
theorem Tl (hx:S.opd x=.per (cn k ns))(hF:∀k∈aG x,k∈F):GB F S x k ns:=λn C T g a w hA hR=>by
 have h:=aM (x:=x) hA hF hR
 rw[hx]at h
 exact Dr (λ_ h=>h.elim) h
theorem Tm (hx:S.opd x=.bor k ns)(hF:∀k∈aG x,k∈F):GB F S x k ns:=λn C T g a w hA hR=>by
 have h:=aM (x:=x) hA hF hR
 rw[hx]at h
 exact Dr (λ_ h=>h.elim) h
theorem Tn (hx:S.opd x=.row id vr)(hv:S.ver id=vr)(hb:S.blk id=.row e k es)(hF:∀k∈aG x,k∈F)(hF':2*id+1∈F):GB F S x k es:=λn C T g a w hA hR=>by
 obtain⟨h1,h2⟩:=oH (x:=x) hA hF hF' hR hx hv hb
 rw[h1];grind[Bv]
theorem KP : ∀ {es : List (List PV)} {b of : Nat}, (∀ (i : Nat) (cs : List PV), es[i]? = some cs -> cs.length = k /\ ∀ (j : Nat) (A : PV), cs[j]? = some A ->
     ∃y,w.cell? ⟨b,of+i*k+j,none⟩=some y/\y.oneCell'=true/\A.p N w y) ->
 ∃vs:List Value,vs.length=es.length*k/\(∀(j:Nat)(u:Value),vs[j]?=some u->w.cell? ⟨b,of+j,none⟩=some u)/\(∀u∈vs,u.oneCell'=true) /\
  ∀(i:Nat)(cs:List PV),es[i]?=some cs->cs.length=k/\∀(j:Nat)(A:PV),cs[j]?=some A->∃y,vs[i*k+j]?=some y/\y.oneCell'=true/\A.p N w y:=by
 intro es
 induction es with
 | nil=>simp_all
 | cons cs es ih=>
  intro b of h
  obtain⟨h0,h1⟩:=h 0 cs rfl
  obtain⟨us,g1,g2,g3⟩:=eh (N:=N) (w:=w) (f:=λj=>w.cell? ⟨b,of+j,none⟩) cs (λj A hj=>by grind)
  obtain⟨vs,r1,r2,r3,r4⟩:=ih (b:=b) (of:=of+k) (λi cs' hi=>by
   obtain⟨q1,q2⟩:=h (i+1) cs' (by simpa using hi)
   grind)
  have hul:us.length=k:=ae
  refine⟨us++vs,by grind,λj u hj=>?_,λu hu=>?_,λi cs' hi=>?_⟩
  ·grind
  ·rcases aaS.1 hu with q|q
   ·obtain⟨j,hj,rfl⟩:=List.getElem_of_mem q
    obtain⟨y,s1,s2,_⟩:=g3.2 j cs[j] aA
    grind
   ·exact r3 u q
  ·cases i<;>grind
def rP (o:Oper)(ty:TypeId)(s x:Operand):Prop:=o.op=.call { callee:=.builtin .append,args:=#[s,x],argTypes:=#[ty,ty] }
theorem Tp {s:Operand}{r:Value}(ho:rP o ty s x)(hs:a.eval s=u)(hx:a.eval x=v)(h:(Builtin.append_ #[ty,ty] o.type #[u,v]).run P w=.ok r w'):(execOp a.eval o).run P w=.ok (.value r) w':=by simp_all[rP,execOp,resolve,invoke,builtin]
theorem KQ (hb:brep C T.ver g w id (.row e k es)):∃xs:List Value,w.ownsRow 0 e k (g.rh id) es.length xs /\
 ∀(i:Nat)(cs:List PV),es[i]?=some cs->cs.length=k/\∀(j:Nat)(A:PV),cs[j]?=some A->∃y,xs[i*k+j]?=some y/\y.oneCell'=true/\A.p (g.N C) w y:=by
 rcases hb with⟨q1,rfl⟩|⟨cap,cs,q1,q2,q3,q4,q5,q6,q7⟩
 ·exact⟨[],⟨aA,.inl ⟨q1,rfl⟩⟩,λi cs h=>by simp at h⟩
 ·have hmul:es.length*k<=cap*k:=aaT k q4
  refine⟨cs.toList.take (es.length*k),⟨bD,.inr ⟨g.ph id,cap,cs,q1,aag _,q2,q4,q5,q6,rfl⟩⟩,λi ps hi=>?_⟩
  obtain⟨r1,r2⟩:=q7 i ps hi
  refine⟨r1,λj A hj=>?_⟩
  obtain⟨y,t1,t2⟩:=r2 j A hj
  have hil:i<es.length:=by grind
  have hjl:j<k:=by grind
  have:i*k+j<es.length*k:=by
   have:=aaT k (show i+1<=es.length from hil)
   rw[abj]at this;omega
  grind
theorem Tq (hb:brep C T.ver g w id (.row e k es)):∀q,(g.rh id).ownBlock=some q->g.ow q=some id/\q=g.ph id:=by
 intro q hq
 rcases hb with⟨q1,_⟩|⟨cap,cs,q1,q2,q3,_⟩
 ·rw[q1]at hq;cases hq
 ·rw[q1]at hq;cases hq;exact⟨q3,rfl⟩
theorem Ts {m:Nat}{v':Value}{xs news:List Value}(hm:ns.length=m)(hR:RG C n T g a w)(hb:brep C T.ver g w id (.row e k es))
 (how:w.ownsRow 0 e k (g.rh id) es.length xs)
 (hxs:∀(i:Nat)(cs:List PV),es[i]?=some cs->cs.length=k/\∀(j:Nat)(A:PV),cs[j]?=some A->∃y,xs[i*k+j]?=some y/\y.oneCell'=true/\A.p (g.N C) w y)
 (n4:∀(i:Nat)(cs:List PV),ns[i]?=some cs->cs.length=k/\∀(j:Nat)(A:PV),cs[j]?=some A->∃y,news[i*k+j]?=some y/\y.oneCell'=true/\A.p (g.N C) w y)
 (r2:w'.ownsRow 0 e k v' (es.length+m) (xs++news)) (r3:w.grownBy w' (g.rh id).ownBlock) (r4:v'.ownBlock=(g.rh id).ownBlock\/∀q,v'.ownBlock=some q->w.heap.size<=q)
 (hfx:eL id=false) (hvr:∀i,vr' i=if i=id then T.ver id+1 else T.ver i):∃g',oi C (λi=>i=id) T.ver vr' g g' w w'/\g'.rh id=v'/\brep C vr' g' w' id (.row e k (es++ns)):=by
 subst hm
 have hown_blk:=Tq hb
 have hlen2:(es++ns).length=es.length+ns.length:=aA
 have hheap:∀b,b<w.heap.size->g.ow b≠some id->w'.heap[b]?=w.heap[b]?:=λb hb hne=>r3.block b hb (λe=>hne (hown_blk b e.symm).1)
 have hver:∀j,vr' j=T.ver j\/(j=id/\T.ver j<vr' j):=λj=>by
  rw[hvr]
  by_cases hj:j=id
  all_goals grind
 have helems:∀{g':Gh},oi C (λi=>i=id) T.ver vr' g g' w w'->∀(i:Nat)(ps:List PV),(es++ns)[i]?=some ps->ps.length=k/\∀(j:Nat)(A:PV),ps[j]?=some A->∃y,(xs++news)[i*k+j]?=some y/\y.oneCell'=true/\A.p (g'.N C) w' y:=by
  intro g' hst i ps hi
  have hxl:xs.length=es.length*k:=how.1
  rcases aaF i es.length with hlt|hge
  ·rw[aaz hlt]at hi
   obtain⟨q1,q2⟩:=hxs i ps hi
   refine⟨q1,λj A hj=>?_⟩
   obtain⟨y,t1,t2,t3⟩:=q2 j A hj
   have:i*k+j<xs.length:=by grind
   exact⟨y,by rw[aaz this];exact t1,t2,A.mono hst.sz hst.keepN hst.n t3⟩
  ·rw[List.getElem?_append_right hge]at hi
   obtain⟨q1,q2⟩:=n4 _ ps hi
   refine⟨q1,λj A hj=>?_⟩
   obtain⟨y,t1,t2,t3⟩:=q2 j A hj
   have hm:i*k=es.length*k+(i-es.length)*k:=by rw[<-Nat.add_mul];congr 1;omega
   exact⟨y,by rw[List.getElem?_append_right ae,hxl,show i*k+j-es.length*k=(i-es.length)*k+j by omega];exact t1,t2,A.mono hst.sz hst.keepN hst.n t3⟩
 rcases r2.2 with⟨hv',hn0⟩|⟨q,cap,cur,hv',_,hh,hle,hcm,hcs,htk⟩
 ·-- nothing at all
  have hst:oi C (λi=>i=id) T.ver vr' g (g.mkN id v') w w':=by
   refine⟨r3.size,λb hb hne=>hheap b hb (hne id rfl),λ_ _ _=>rfl,λ_ _ h=>h,λb i e=>⟨aa4 (hR.dom b i e).1 r3.size,(hR.dom b i e).2⟩,hver,λi hi=>?_,λi hi=>⟨rfl,aab (λe=>by grind)⟩,r3.os,r3.tape,r3.output⟩
   by_cases hid:i=id
   ·grind
   ·exact⟨rfl,aab hid⟩
  refine⟨_,hst,aae rfl,.inl ⟨by show(if id=id then v' else _)=_;rw[aae rfl];exact hv',?_⟩⟩
  grind
 ·have hq:q<w'.heap.size:=(Array.getElem?_eq_some_iff.1 hh).1
  have hqq:(g.ow q=some id)\/w.heap.size<=q:=by
   have hvb:v'.ownBlock=some q:=by rw[hv'];rfl
   grind
  have hst:oi C (λi=>i=id) T.ver vr' g (g.mk1 id q v') w w':=by
   refine⟨r3.size,λb hb hne=>hheap b hb (hne id rfl),λb hb hne=>?_,λb hb hn=>?_,λb i e=>?_,hver,λi hi=>?_,λi hi=>⟨aab (λe=>by grind),aab (λe=>by grind)⟩,r3.os,r3.tape,r3.output⟩
   ·show(if b=q then some id else g.ow b)=_
    grind
   ·change (if b=q then some id else g.ow b)≠none at hn
    by_cases e:b=q
    all_goals grind
   ·change (if b=q then some id else g.ow b)=some i at e
    by_cases e':b=q
    ·subst e'
     rw[aae rfl]at e;cases e
     refine⟨hq,?_⟩
     rcases hqq with r|r
     ·exact(hR.dom _ _ r).2
     ·exact .inl (abk hR.size r)
    ·rw[aab e']at e
     exact⟨aa4 (hR.dom b i e).1 r3.size,(hR.dom b i e).2⟩
   ·by_cases hid:i=id
    ·grind
    ·exact⟨aab hid,aab hid⟩
  have hph:(g.mk1 id q v').ph id=q:=aae rfl
  have hrh:(g.mk1 id q v').rh id=v':=aae rfl
  refine⟨_,hst,hrh,.inr ⟨cap,cur,by rw[hrh,hph,hlen2];exact hv',by rw[hph];exact hh,by rw[hph];exact aae rfl,ae,hcm,hcs,λi ps hi=>?_⟩⟩
  grind
theorem Tt {ty ty':Nat}(hT:TI P ty e k bytes)(hk:0<k)(hR:RG C n T g a w)(hfx:eL id=false)(hb:brep C T.ver g w id (.row e k es))(hsrc:eW (λ_=>False) (g.N C) k ns w v)
 (hlen:es.length+ns.length<=maxLen) (hby:(es.length+ns.length)*bytes<=140737488355328) :
 ∃v' w',(Builtin.append_ #[ty,ty] ty' #[g.rh id,v]).run P w=.ok v' w'/\∀{vr':Nat->Nat},(∀i,vr' i=if i=id then T.ver id+1 else T.ver i)->∃g',oi C (λi=>i=id) T.ver vr' g g' w w'/\g'.rh id=v'/\brep C vr' g' w' id (.row e k (es++ns)):=by
 obtain⟨i,z,hi,hz,h1,h2,h3⟩:=hT.info
 obtain⟨ad,c,b,of,rfl,s2,s3,s4,s5,s6⟩:=hsrc
 obtain⟨news,n1,n2,n3,n4⟩:=KP s6
 obtain⟨xs,how,hxs⟩:=KQ hb
 have main:∃v' w',(Builtin.append_ #[ty,ty] ty' #[g.rh id,.slice ad ns.length c]).run P w=.ok v' w'/\w'.ownsRow 0 e k v' (es.length+ns.length) (xs++news)/\w.grownBy w' (g.rh id).ownBlock/\(v'.ownBlock=(g.rh id).ownBlock\/v'.ownBlock=some w.heap.size):=by
  cases ad with
  | none=>
   have hns:ns=[]:=by grind
   subst hns
   obtain rfl:=s4 rfl
   have hn:news=[]:=aax (by simpa using n1)
   subst hn
   refine⟨g.rh id,w,run_append_owned_none (P:=P) (w:=w) 0 ty ty' e i k hT.und hi _ _ _ how,by simpa using how,⟨rfl,rfl,rfl,aaf _,λ_ _ _=>rfl⟩,.inl rfl⟩
  | some ad=>
   have hcell:∀(j:Nat)(u:Value),news[j]?=some u->w.cell? (ad.add j)=some u:=by grind[Addr.add_lit]
   obtain⟨v',w',r1,r2,r3,_,r5⟩:=run_append_own_at (P:=P) w 0 ty ty' e i z k bytes hT.und hi hz h1 h2 h3 hk (g.rh id) es.length xs how ad ns.length c news n1 hcell n3 hlen hby (aag _)
   grind
 obtain⟨v',w',r1,r2,r3,r4⟩:=main
 refine⟨v',w',r1,λ{vr'} hvr=>Ts rfl hR hb how hxs n4 r2 r3 ?_ hfx hvr⟩
 grind
theorem KR {s:Operand}(hp:Pl n o t)(ho:rP o ty s x)(hT:TI P ty e k bytes)(hk:Nat.blt 0 k=true)
 (hs:S.opd s=.row id vr) (hv:S.ver id=vr) (hb:S.blk id=.row e k es) (hx:GB ((2*id+1)::F) S x k ns) (hF:∀k∈aG s,k∈F)
 (hlen:es.length+ns.length<=maxLen) (hby:(es.length+ns.length)*bytes<=140737488355328) (hfx:eL id=false:=by rfl) :
 aB n P ops o ((2*id+1)::F) (.row id (vr+1)) [(id,vr+1,.row e k (es++ns))] S:=by
 refine⟨?_⟩
 intro C T hA a w ⟨g,hR⟩
 obtain⟨h1,h2⟩:=oH (x:=s) hA (λk h=>by simp[hF k h]) aA hR hs hv hb
 have hvt:=(hA.2 id aA).2
 obtain⟨v',w',r1,r2⟩:=Tt (P:=P) (ty':=o.type) hT (aaq hk) hR hfx h2 (hx n C T g a w hA hR) hlen hby
 unfold jg
 rw[aae (hp.wanted a)]
 unfold Oper.wp
 rw[Tp ho h1 rfl r1,Oper.upon_value]
 have hvr:∀i,(T.app o.dst (.row id (vr+1)) [(id,vr+1,.row e k (es++ns))]).ver i=if i=id then T.ver id+1 else T.ver i:=λi=>by rw[St.app_some_ver,hvt,hv]
 obtain⟨g',s1,s2,s3⟩:=r2 hvr
 exact⟨g',hR.app1 hp.dOk s1 ⟨by rw[hvr,aae rfl,hvt,hv];exact aaf _,λ_=>s2.symm⟩ s3⟩
end
def Cnt.rn (vr:Nat->Nat):Cnt->Cnt
 | .row id v=>bif Nat.beq v (vr id)then .row id 0 else .any
 | .ptr id v off=>bif Nat.beq v (vr id)then .ptr id 0 off else .any
 | .ept id v k i j=>bif Nat.beq v (vr id)then .ept id 0 k i j else .any
 | .vw id v k i j=>bif Nat.beq v (vr id)then .vw id 0 k i j else .any
 | .per A=>.per A
 | .bor k es=>.bor k es
 | .bpt cs=>.bpt cs
 | .tup2 c d=>.tup2 (c.rn vr) (d.rn vr)
 | .tup3 c d e=>.tup3 (c.rn vr) (d.rn vr) (e.rn vr)
 | .clo1 f c=>.clo1 f (c.rn vr)
 | .clo2 f c d=>.clo2 f (c.rn vr) (d.rn vr)
 | .clo3 f c d e=>.clo3 f (c.rn vr) (d.rn vr) (e.rn vr)
 | .aggN=>.aggN
 | .aggK c r=>.aggK (c.rn vr) (r.rn vr)
 | .grd _ _=>.any
 | .any=>.any
def Blk.rn (vr:Nat->Nat):Blk->Blk
 | .none=>.none
 | .box e cells=>.box e (cells.map (Cnt.rn vr))
 | .row e k es=>.row e k es
 | .mix e es c=>.mix e es (c.rn vr)
 | .obj A=>.obj A
def zI (t:Nat):List (Nat×Cnt)->Cnt
 | []=>.any
 | (t',c)::l=>bif Nat.beq t t' then c else zI t l
def fb (i:Nat):List (Nat×Blk)->Blk
 | []=>.none
 | (i',c)::l=>bif Nat.beq i i' then c else fb i l
def aF (sl:List (Nat×Cnt))(bl:List (Nat×Blk)):St:=⟨λt=>zI t sl,λi=>fb i bl,λ_=>0⟩
section
variable {P:Program} {n:Nat} {S T:St} {C:Ctx} {g:Gh} {a:Act} {w w':World}
theorem Bz {vr:Nat->Nat}{c:Cnt}:∀{v:Value},crep C vr g w v c->crep C (λ_=>0) g w v (c.rn vr):=by
 induction c with
 | row id r=>
  intro v h
  cases hb:Nat.beq r (vr id)with
  | true=>simp only[Cnt.rn,hb,cond_true];exact⟨aaf _,λ_=>h.2 (bc.1 hb)⟩
  | false=>simp only[Cnt.rn,hb,cond_false];trivial
 | ptr id r off=>
  intro v h
  cases hb:Nat.beq r (vr id)with
  | true=>simp only[Cnt.rn,hb,cond_true];exact⟨aaf _,λ_=>h.2 (bc.1 hb)⟩
  | false=>simp only[Cnt.rn,hb,cond_false];trivial
 | ept id r k i j=>
  intro v h
  cases hb:Nat.beq r (vr id)with
  | true=>simp only[Cnt.rn,hb,cond_true];exact⟨aaf _,λ_=>h.2 (bc.1 hb)⟩
  | false=>simp only[Cnt.rn,hb,cond_false];trivial
 | vw id r k i j=>
  intro v h
  cases hb:Nat.beq r (vr id)with
  | true=>simp only[Cnt.rn,hb,cond_true];exact⟨aaf _,λ_=>h.2 (bc.1 hb)⟩
  | false=>simp only[Cnt.rn,hb,cond_false];trivial
 | per A=>exact λh=>h
 | bor k es=>exact λh=>h
 | bpt cs=>exact λh=>h
 | any=>exact λ_=>trivial
 | grd b c ih=>exact λ_=>trivial
 | tup2 c d ih1 ih2=>rintro v ⟨x,y,e,h1,h2⟩;exact⟨x,y,e,ih1 h1,ih2 h2⟩
 | tup3 c d e ih1 ih2 ih3=>rintro v ⟨x,y,z,e,h1,h2,h3⟩;exact⟨x,y,z,e,ih1 h1,ih2 h2,ih3 h3⟩
 | clo1 f c ih=>rintro v ⟨x,e,h1⟩;exact⟨x,e,ih h1⟩
 | clo2 f c d ih1 ih2=>rintro v ⟨x,y,e,h1,h2⟩;exact⟨x,y,e,ih1 h1,ih2 h2⟩
 | clo3 f c d e ih1 ih2 ih3=>rintro v ⟨x,y,z,e,h1,h2,h3⟩;exact⟨x,y,z,e,ih1 h1,ih2 h2,ih3 h3⟩
 | aggN=>exact λh=>h
 | aggK c r ih1 ih2=>rintro v ⟨x,vs,e,o,h1,h2⟩;exact⟨x,vs,e,o,ih1 h1,ih2 h2⟩
theorem Tu {vr:Nat->Nat}{B:Blk}(h:brep C vr g w id B):brep C (λ_=>0) g w id (B.rn vr):=by
 cases B with
 | none=>trivial
 | row e k es=>exact h
 | obj A=>exact h
 | box e cells=>
  obtain⟨cs,h1,h2,h3,h4⟩:=h
  refine⟨cs,h1,h2,by simp[h3],λj c hj=>?_⟩
  rw[List.getElem?_map]at hj
  grind[Bz]
 | mix e es c=>
  obtain⟨cap,cs,h1,h2,h3,h4,h5,h6,h7,y,q1,q2,q3⟩:=h
  exact⟨cap,cs,h1,h2,h3,h4,h5,h6,h7,y,q1,q2,Bz q3⟩
inductive gp (S:St):List (Nat×Cnt)->Prop
 | nil:gp S []
 | cons {t:Nat} {c:Cnt} {l:List (Nat×Cnt)} (h:(S.get t).rn S.ver=c) (k:gp S l):gp S ((t,c)::l)
inductive gq (S:St):List (Nat×Blk)->Prop
 | nil:gq S []
 | cons {i:Nat} {B:Blk} {l:List (Nat×Blk)} (h:(S.blk i).rn S.ver=B) (k:gq S l):gq S ((i,B)::l)
theorem gp.look {sl:List (Nat×Cnt)}(h:gp S sl)(t:Nat):zI t sl=.any\/zI t sl=(S.get t).rn S.ver:=by induction h<;>grind[zI,bc]
theorem gq.look {sl:List (Nat×Blk)}(h:gq S sl)(t:Nat):fb t sl=.none\/fb t sl=(S.blk t).rn S.ver:=by induction h<;>grind[fb,bc]
theorem kA {sl:List (Nat×Cnt)}{bl:List (Nat×Blk)}(h1:gp S sl)(h2:gq S bl):Le n S (aF sl bl):=by
 rintro C a w ⟨g,h⟩
 refine⟨g,h.defers,h.tsz,h.nle,h.keep,h.os,h.tape,h.output,h.size,h.old,h.n0,h.n0l,h.dom,λt=>?_,λid=>?_⟩
 ·show crep C (λ_=>0) g w _ (zI t sl)
  rcases h1.look t with q|q
  ·rw[q];trivial
  ·rw[q];exact Bz (h.slots t)
 ·show brep C (λ_=>0) g w id (fb id bl)
  rcases h2.look id with q|q
  ·rw[q];trivial
  ·rw[q];exact Tu (h.blks id)
theorem az {S1 S2 S3:St}(h:Le n S1 S2)(k:Le n S2 S3):Le n S1 S3:=λC a w r=>k C a w (h C a w r)
theorem W3 {d:Nat}{c:Cnt}{b:Upd}(hd:d<a.tmps.size)(h:R C n (S.app (some d) c b) (a.put (some d) (a.tmps.getD d undef)) w):R C n (S.app (some d) c b) a w:=by
 have:a.put (some d) (a.tmps.getD d undef)=a:=by
  cases a with
  | mk tm df=>
   simp only[Act.put,Act.mk.injEq,and_true]
   apply Array.ext
   ·simp
   ·intro i h1 h2
    by_cases hi:d=i
    all_goals simp_all
 rw[this]at h;exact h
theorem bS (t id e k:Nat)(ht:Nat.blt t n=true)(h0:S.get t=.per (ai (.slice none 0 0)))(hfx:eL id=false:=by rfl):Le n S (S.app (some t) (.row id (S.ver id+1)) [(id,S.ver id+1,.row e k [])]):=by
 rintro C a w ⟨g,hR⟩
 have hv:a.tmps.getD t undef=.slice none 0 0:=by
  have:=hR.slots t
  rw[h0]at this;exact this
 have hvr:∀i,(S.app (some t) (.row id (S.ver id+1)) [(id,S.ver id+1,.row e k [])]).ver i=if i=id then S.ver id+1 else S.ver i:=λi=>St.app_some_ver _ _ _ _ _ _ _
 have hst:=ni (v:=.slice none 0 0) (t:=id) hR (bQ.refl w) hvr hfx
 refine W3 (by rw[hR.tsz];simp_all) ⟨g.mkN id (.slice none 0 0),hR.app1 (λt' h=>by simp_all) hst ⟨by rw[hvr,aae rfl];exact aaf _,λ_=>?_⟩ (.inl ⟨aae rfl,rfl⟩)⟩
 rw[hv];exact(aae rfl).symm
def ZX (tm:Array Value):ResultVar->Sem Value
 | .tmp t=>pure (tm.getD t undef)
 | .cell a t=>do loadVar t (<-asAddr (tm.getD a undef))
theorem jK (fn:Func)(tm:Array Value):results fn tm=(do let vs <-fn.results.mapM (ZX tm);pure (if h:vs.size=1 then vs[0]else .tuple vs)):=by
 unfold results
 congr 1
def cH (P:Program)(n:Nat)(S:St)(rv:ResultVar)(r:Ret):Prop:=
 ∀(C:Ctx)(g:Gh) a w,(∀b,¬C.L b)->RG C n S g a w->∃v,(ZX a.tmps rv).run P w=.ok v w/\r.rep C.N0 C.W0 w v
theorem cS {t:Nat}(h:S.get t=.per A):cH P n S (.tmp t) (.per A):=λC g a w _ hR=>by
 have:=hR.slots t
 rw[h]at this
 exact⟨_,rfl,A.mono (aaf _) (λ_ _ _=>rfl) (λb _ hb=>.inl hb) this⟩
theorem f9 {t:Nat}(h:S.get t=.row id vr)(hv:S.ver id=vr)(hb:S.blk id=.row e k es):cH P n S (.tmp t) (.own e k es):=λC g a w hL hR=>by
 have hs:=hR.slots t
 rw[h]at hs
 have hB:=hR.blks id
 rw[hb]at hB
 refine⟨_,rfl,?_⟩
 rw[hs.2 hv.symm]
 rcases hB with⟨q1,q2⟩|⟨cap,cs,q1,q2,q3,q4,q5,q6,q7⟩
 ·exact .inl ⟨q1,q2⟩
 ·have hd:=(hR.dom _ _ q3).2
  refine .inr ⟨g.ph id,cap,cs,q1,by grind,q2,q4,q5,q6,λi ps hi=>?_⟩
  obtain⟨r1,r2⟩:=q7 i ps hi
  refine⟨r1,λj A hj=>?_⟩
  obtain⟨y,s1,s2,s3⟩:=r2 j A hj
  exact⟨y,s1,s2,A.mono (aaf _) (λ_ _ _=>rfl) (λb _ hb=>by
   rcases hb with hb|hb
   ·exact .inl hb
   ·exact .inr (by rw[hb,q3];simp)) s3⟩
theorem dG {t:Nat}(h:S.get t=.per (ai (.slice none 0 0))):cH P n S (.tmp t) (.own e k []):=λC g a w _ hR=>by
 have:=hR.slots t
 rw[h]at this
 exact⟨_,rfl,.inl ⟨this,rfl⟩⟩
theorem eZ {t:Nat}(h:S.get t=.per (ai (.slice none 0 0))):cH P n S (.tmp t) (.per (cn k [])):=λC g a w _ hR=>by
 have:=hR.slots t
 rw[h]at this
 refine⟨_,rfl,?_⟩
 rw[show a.tmps.getD t undef=_ from this]
 exact⟨none,0,0,0,rfl,aA,bP,λ_=>rfl,aA,λi cs hi=>by simp at hi⟩
theorem GC {t:Nat}(h:S.get t=.row id vr)(hv:S.ver id=vr)(hb:S.blk id=.row e k es):cH P n S (.tmp t) (.per (cn k es)):=λC g a w hL hR=>by
 have hs:=hR.slots t
 rw[h]at hs
 have hB:=hR.blks id
 rw[hb]at hB
 refine⟨_,rfl,?_⟩
 rw[hs.2 hv.symm]
 rcases hB with⟨q1,rfl⟩|⟨cap,cs,q1,q2,q3,q4,q5,q6,q7⟩
 ·exact⟨none,0,0,0,by rw[q1];rfl,aA,bP,λ_=>rfl,aA,λi cs hi=>by simp at hi⟩
 ·have hd:=hR.dom _ _ q3
  refine⟨_,cap,g.ph id,0,q1,q4,q5,aA,λ_=>⟨rfl,hd.1,λhn=>?_⟩,λi ps hi=>?_⟩
  ·have:=hR.n0 _ hn
   grind
  ·obtain⟨r1,r2⟩:=q7 i ps hi
   refine⟨r1,λj A hj=>?_⟩
   obtain⟨y,s1,s2,s3⟩:=r2 j A hj
   exact⟨y,by rw[aaJ,ei q2];exact s1,s2,A.mono (aaf _) (λ_ _ _=>rfl) (λb _ hb=>.inl hb) s3⟩
theorem NL {t:Nat}{e:TypeId}(hT:P.underlying ty=some d)(hd:iJ d=true)(hk:P.cellsOf ty=k)(h0:Nat.blt 0 k=true)(h:S.get t=.ptr id vr 0)(hv:S.ver id=vr)(hb:S.blk id=.box e cells)
 (hl:cells.length=k) (hc:vp cells=some As):cH P n S (.cell t ty) (.per (cu As)):=λC g a w _ hR=>by
 have hs:=hR.slots t
 rw[h]at hs
 have hB:=hR.blks id
 rw[hb]at hB
 obtain⟨cs,h2,_,h4,h5⟩:=hB
 have hm:=pH hc
 have hlen:As.length=k:=by rw[<-hl,hm];simp
 have h0:=aaq h0
 obtain⟨vs,g1,g2,g3⟩:=eh (N:=g.N C) (w:=w) (f:=λj=>w.cell? ⟨g.ph id,0+j,none⟩) As (λj A hj=>by
  obtain⟨y,q1,q2,q3⟩:=h5 j (.per A) (by rw[hm,List.getElem?_map,hj];rfl)
  exact⟨y,by rw[ei h2,aaJ];exact q1,q2,q3⟩)
 refine⟨.agg vs.toArray,?_,vs.toArray,rfl,g3.mono (aaf _) (λ_ _ _=>rfl) (λb _ hb=>.inl hb)⟩
 have:=fD (P:=P) (w:=w) (b:=g.ph id) (o:=0) hT hd (by rw[hk,g1,hlen]) ae g2
 show(do loadVar ty (<-asAddr (a.tmps.getD t undef))).run P w=_
 rw[hs.2 hv.symm]
 grind[Instr.loadAt,Instr.sureAddr,asAddr]
theorem KS {fn:Func}{rv:ResultVar}(hf:fn.results=#[rv])(h:cH P n S rv r):oG P n fn S r:=λC a w hL ⟨g,hR⟩=>by
 obtain⟨v,h1,h2⟩:=h C g a w hL hR
 simp_all[jK]
theorem Ds {fn:Func}{rv rv':ResultVar}{r':Ret}(hf:fn.results=#[rv,rv'])(h:cH P n S rv r)(h':cH P n S rv' r'):oG P n fn S (.tup2 r r'):=λC a w hL ⟨g,hR⟩=>by
 obtain⟨v,h1,h2⟩:=h C g a w hL hR
 obtain⟨v',h1',h2'⟩:=h' C g a w hL hR
 refine⟨.tuple #[v,v'],?_,v,v',rfl,h2,h2'⟩
 rw[jK,hf]
 simp[h1,h1']
theorem mg {fn:Func}{rv rv' rv'':ResultVar}{r' r'':Ret}(hf:fn.results=#[rv,rv',rv''])(h:cH P n S rv r)(h':cH P n S rv' r')(h'':cH P n S rv'' r''):oG P n fn S (.tup3 r r' r''):=λC a w hL ⟨g,hR⟩=>by
 obtain⟨v,h1,h2⟩:=h C g a w hL hR
 obtain⟨v',h1',h2'⟩:=h' C g a w hL hR
 obtain⟨v'',h1'',h2''⟩:=h'' C g a w hL hR
 refine⟨.tuple #[v,v',v''],?_,v,v',v'',rfl,h2,h2',h2''⟩
 rw[jK,hf]
 simp[h1,h1',h1'']
end
section
variable {P:Program} {n:Nat} {ops:Array Oper} {o:Oper} {F:List Nat} {S T:St} {C:Ctx} {g:Gh} {a:Act} {w w':World} {t:Nat}
def cN (zs:List PV)(off:Nat)(ps:List PV):List PV:=zs.take off++(ps++zs.drop (off+ps.length))
def nR (place:Nat->Option (Nat×Nat))(zs:List PV):List (Nat×List PV)->Option (List PV)
 | []=>some zs
 | (i,ps)::rest=>match place i with
  | none=>none
  | some (off,size)=>bif Nat.beq ps.length size&&Nat.ble (off+size) zs.length then nR place (cN zs off ps) rest else none
theorem zJ (vs:List Value):∀(k off:Nat)(cs:Array Value)(i:Nat),off+k+vs.length<=cs.size ->
 ((vs.zipIdx k).foldl (λcs (c,j)=>cs.setIfInBounds (off+j) c) cs).size=cs.size /\
 ((vs.zipIdx k).foldl (λcs (c,j)=>cs.setIfInBounds (off+j) c) cs)[i]?=if off+k<=i/\i<off+k+vs.length then vs[i-(off+k)]? else cs[i]?:=by
 induction vs with
 | nil=>
  intro k off cs i _
  refine⟨rfl,?_⟩
  rw[aab aA];rfl
 | cons v vs ih=>
  intro k off cs i h
  simp only[aaD]at h
  simp only[List.zipIdx_cons,List.foldl_cons]
  obtain⟨h1,h2⟩:=ih (k+1) off (cs.setIfInBounds (off+k) v) i (by rw[Array.size_setIfInBounds];omega)
  grind
theorem KT {cs:Array Value}{zs:List PV}{vs:Array Value}(h:iq N w cs zs)(hv:iq N w vs ps)(hl:off+ps.length<=zs.length) :
 iq N w (vs.zipIdx.foldl (λcs (c,j)=>cs.setIfInBounds (off+j) c) cs) (cN zs off ps):=by
 have hvs:=hv.1
 have hcs:=h.1
 have hz:vs.zipIdx.foldl (λcs (c,j)=>cs.setIfInBounds (off+j) c) cs=(vs.toList.zipIdx 0).foldl (λcs (c,j)=>cs.setIfInBounds (off+j) c) cs:=by rw[<-Array.foldl_toList,Array.toList_zipIdx]
 rw[hz]
 have hf:=λi=>zJ vs.toList 0 off cs i bD
 refine⟨by rw[(hf 0).1];simp[cN];omega,λj A hj=>?_⟩
 rw[(hf j).2]
 unfold cN at hj
 have hta:(zs.take off).length=off:=bD
 simp only[abo,abp,Array.getElem?_toList]
 rcases aaF j off with hlt|hge
 ·rw[aaz ae,aaW,aae hlt]at hj
  rw[aab ae]
  exact h.2 j A hj
 ·rw[List.getElem?_append_right ae,hta]at hj
  rcases aaF j (off+ps.length)with hlt|hge2
  ·rw[aaz ae]at hj
   rw[aae ⟨ae,ae⟩]
   exact hv.2 _ A hj
  ·rw[List.getElem?_append_right ae,abn]at hj
   rw[aab ae]
   have:=h.2 _ A hj
   rw[show off+ps.length+(j-off-ps.length)=j by omega]at this
   exact this
def oI (S:St)(x:Operand)(ps:List PV):Prop:=S.opd x=.per (cu ps)\/∃A,S.opd x=.per A/\qv A/\ps=[A]
theorem dc (h:S.opd x=.per (cu ps)):oI S x ps:=.inl h
theorem Du (h:S.opd x=.per A)(h1:qv A):oI S x [A]:=.inr ⟨A,h,h1,rfl⟩
theorem bd (h:S.opd x=.per (ai v))(h1:v.oneCell'=true)(h2:v.cells=#[v]):oI S x [ai v]:=Du h (dC h1 h2)
theorem dd (h:S.opd x=.per (cn k es)):oI S x [cn k es]:=Du h dU
inductive bH (S:St):List (Nat×Operand)->List (Nat×List PV)->Prop
 | nil:bH S [] []
 | cons {i:Nat} {x:Operand} {ps:List PV} {l:List (Nat×Operand)} {l':List (Nat×List PV)} (h:oI S x ps) (k:bH S l l'):bH S ((i,x)::l) ((i,ps)::l')
theorem oI.rep (h:oI S x ps)(hA:ed F T S)(hF:∀k∈aG x,k∈F)(hR:RG C n T g a w):iq (g.N C) w (a.eval x).cells ps:=by
 have hr:=aM (x:=x) hA hF hR
 rcases h with h|⟨A,h,h1,rfl⟩
 ·rw[h]at hr
  obtain⟨vs,hv,hc⟩:=hr
  rw[hv];exact hc
 ·rw[h]at hr
  obtain⟨q1,q2⟩:=h1 _ _ _ hr
  rw[q2]
  refine⟨rfl,λj A' hj=>?_⟩
  cases j with
  | zero=>simp at hj;subst hj;exact⟨_,rfl,q1,hr⟩
  | succ j=>simp at hj
def iK (l:List (Nat×Operand)):List Nat:=l.flatMap λx=>aG x.2
theorem Dv {place:Nat->Option (Nat×Nat)}(h:bH S parts pps)(hA:ed F T S)(hF:∀k∈iK parts,k∈F)(hR:RG C n T g a w) :
 ∀{cells:Array Value} {zs cs:List PV},iq (g.N C) w cells zs->nR place zs pps=some cs->∃out,Instr.fill place cells (parts.map λ(i,x)=>(i,a.eval x))=some out/\iq (g.N C) w out cs:=by
 induction h with
 | nil=>intro cells zs cs hc hf;cases hf;exact⟨cells,rfl,hc⟩
 | @cons i x ps l l' h k ih=>
  intro cells zs cs hc hf
  have hx:=h.rep hA (λk hk=>hF k (by simp[iK,hk])) hR
  unfold nR at hf
  cases hp:place i with
  | none=>grind
  | some p=>
   obtain⟨off,size⟩:=p
   simp only[hp]at hf
   cases hb:(Nat.beq ps.length size&&Nat.ble (off+size) zs.length)with
   | false=>rw[hb]at hf;cases hf
   | true=>
    rw[hb]at hf
    simp only[cond_true]at hf
    rw[aaC]at hb
    have h1:=bc.1 hb.1
    have h2:=aaq hb.2
    have hcs:=hc.1
    have hxs:=hx.1
    obtain⟨out,q1,q2⟩:=ih (λk hk=>hF k (by grind[iK])) (KT (off:=off) hc hx ae) hf
    grind[Instr.fill]
def Dw (vs:List Value):List PV:=vs.map ai
theorem Dx {vs:Array Value}(h:vs.toList.all (·.oneCell')=true):iq N w vs (Dw vs.toList):=by
 refine⟨by simp[Dw],λj A hj=>?_⟩
 unfold Dw at hj
 rw[List.getElem?_map]at hj
 cases hv:vs.toList[j]? with
 | none=>rw[hv]at hj;cases hj
 | some y=>
  rw[hv]at hj;cases hj
  rw[aaH]at h
  exact⟨y,by simpa using hv,h y (aa3 hv),rfl⟩
theorem NM {z:Value}(hz:(P.info? ty).bind (·.zero)=some z):(zeroValue ty).run P w=.ok z w:=by
 cases hi:P.info? ty with
 | none=>rw[hi]at hz;cases hz
 | some i=>
  rw[hi]at hz
  simp_all[zeroValue,typeInfo]
def Dy (P:Program)(ty:TypeId):Option (List (Nat×Nat)):=match P.underlying ty with
 | some (.struct fs)=>fs.toList.mapM (λf=>(P.info? f.type).map λi=>(f.offset,i.size))
 | _=>none
theorem Dz {z:Value}{ls:List (Nat×Nat)}{parts:List (Nat×Value)}{out:Array Value}(hl:Dy P ty=some ls)(hz:(P.info? ty).bind (·.zero)=some z)
 (h:Instr.fill (λi=>ls[i]?) z.cells parts=some out):P.built ty parts=some out:=by
 unfold Dy at hl
 unfold Program.built
 cases hi:P.info? ty<;>grind
theorem NN {z:Value}{ls:List (Nat×Nat)}(hp:Pl n o t)(ho:o.op=.build ty parts.toArray)(hl:Dy P ty=some ls)(hz:(P.info? ty).bind (·.zero)=some z)
 (h1:z.cells.toList.all (·.oneCell')=true) (hpt:bH S parts pps) (hf:nR (λi=>ls[i]?) (Dw z.cells.toList) pps=some cs):aB n P ops o (iK parts) (.per (cu cs)) [] S:=
 aZ hp λC T g a w hA hR=>by
  obtain⟨out,r1,r2⟩:=Dv hpt hA (λk h=>h) hR (Dx h1) hf
  refine⟨.agg out,?_,out,rfl,r2⟩
  simp_all[execOp,run_build,Dz]
def oJ (k:Nat):Nat->List PV->List (List PV)
 | 0,_=>[]
 | m+1,l=>l.take k::oJ k m (l.drop k)
theorem aX (k:Nat):∀(m:Nat)(l:List PV),(oJ k m l).length=m:=by
 intro m
 induction m<;>grind[oJ]
theorem zK (k:Nat):∀(m:Nat)(l:List PV)(i:Nat)(ps:List PV),(oJ k m l)[i]?=some ps->ps=(l.drop (i*k)).take k/\i<m:=by
 intro m
 induction m with
 | zero=>grind[oJ]
 | succ m ih=>
  intro l i ps h
  cases i<;>grind[oJ,List.drop_drop]
def zg (k len:Nat)(zs:List Value):List PV:=(List.range (len*k)).map λi=>ai (zs.getD (i % zs.length) default)
theorem wx {ty:Nat}{z:Value}(hT:TI P ty e k bytes)(hk:0<k)(hlen:0<len)(hz:(P.info? e).bind (·.zero)=some z)
 (h1:z.cells.toList.all (·.oneCell')=true) (hzk:z.cells.size=k) (hsm:len*k<=16777216) (hA:ed F T S) (hF:∀k∈iK parts,k∈F) (hR:RG C n T g a w) (hpt:bH S parts pps)
 (hf:nR (λi=>some (i*k,k)) (zg k len z.cells.toList) pps=some cs) :
 ∃out:Array Value,(Instr.buildSlice ty len (parts.toArray.map λ(i,x)=>(i,a.eval x))).run P w=.ok (.slice (some ⟨w.heap.size,0,none⟩) len len) (w.alloc (.cells out e))/\iq (g.N C) w out cs:=by
 obtain⟨i,z',hi,hz',hs1,hs2,hs3⟩:=hT.info
 rw[hi]at hz
 simp only[Option.bind_some]at hz
 rw[hz']at hz;cases hz
 have hpos:0<len*k:=Nat.mul_pos hlen hk
 have hbase:iq (g.N C) w ((Array.range (len*k)).map (z.cells[· % z.cells.size]!)) (zg k len z.cells.toList):=by
  refine⟨by simp[zg],λj A hj=>?_⟩
  unfold zg at hj
  rw[List.getElem?_map]at hj
  cases hr:(List.range (len*k))[j]? with
  | none=>rw[hr]at hj;cases hj
  | some q=>
   rw[hr]at hj;cases hj
   have hjl:j<len*k:=by grind
   have hq:q=j:=by grind
   subst hq
   have hm:q % z.cells.size<z.cells.size:=abB _ ae
   refine⟨z.cells[q % z.cells.size]!,by simp[hjl],?_,?_⟩
   ·rw[aaH]at h1
    rw[getElem!_pos z.cells _ hm]
    exact h1 _ aA
   ·show _=_
    grind
 obtain⟨out,q1,q2⟩:=Dv hpt hA hF hR hbase hf
 refine⟨out,?_,q2⟩
 refine run_buildSlice w ty e len _ out i z hT.und hi hz' (by rw[hs1];omega) (by rw[hs1];omega) ?_
 rw[hs1]
 simpa using q1
theorem DA {place:Nat->Option (Nat×Nat)}:∀{pps:List (Nat×List PV)} {zs cs:List PV},nR place zs pps=some cs->cs.length=zs.length:=by
 intro pps
 induction pps with
 | nil=>intro zs cs h;cases h;rfl
 | cons p l ih=>
  obtain⟨i,ps⟩:=p
  intro zs cs h
  unfold nR at h
  cases hp:place i with
  | none=>grind
  | some q=>
   obtain⟨off,size⟩:=q
   simp only[hp]at h
   cases hb:(Nat.beq ps.length size&&Nat.ble (off+size) zs.length)with
   | false=>rw[hb]at h;cases h
   | true=>
    rw[hb]at h
    rw[aaC]at hb
    have h1:=bc.1 hb.1
    have h2:=aaq hb.2
    rw[ih h];simp[cN];omega
theorem KU {ty:Nat}{z:Value}(hp:Pl n o t)(ho:o.op=.buildSlice ty len parts.toArray)(hT:TI P ty e k bytes)(hk:Nat.blt 0 k=true)(hlen:Nat.blt 0 len=true)(hz:(P.info? e).bind (·.zero)=some z)
 (h1:z.cells.toList.all (·.oneCell')=true) (hzk:z.cells.size=k) (hsm:Nat.ble (len*k) 16777216=true) (hpt:bH S parts pps) (hf:nR (λi=>some (i*k,k)) (zg k len z.cells.toList) pps=some cs) :
 aB n P ops o (iK parts) (.per (cn k (oJ k len cs))) [] S:=by
 refine⟨?_⟩
 intro C T hA a w ⟨g,hR⟩
 have hk:=aaq hk
 have hlen:=aaq hlen
 obtain⟨out,r1,r2⟩:=wx (P:=P) hT hk hlen hz h1 hzk (aaq hsm) hA (λk h=>h) hR hpt hf
 unfold jg
 rw[aae (hp.wanted a)]
 unfold Oper.wp
 have hex:(execOp a.eval o).run P w=.ok (.value (.slice (some ⟨w.heap.size,0,none⟩) len len)) (w.alloc (.cells out e)):=by simp_all[execOp]
 rw[hex,Oper.upon_value]
 have hcl:cs.length=len*k:=by rw[DA hf];simp[zg]
 refine⟨g,hR.app0 ((bQ.refl w).alloc _) hp.dOk ?_⟩
 show eW (g.N C) (g.N C) k (oJ k len cs) _ _
 have hcl2:=aX k len cs
 refine⟨_,len,w.heap.size,0,by rw[hcl2],ae,by have:=aaq hsm;have:len<=len*k:=Nat.le_mul_of_pos_right _ hk;unfold maxLen;omega,aA,λ_=>⟨rfl,gU _ _,λhn=>?_⟩,λi ps hi=>?_⟩
 ·rcases hn with hn|hn
  all_goals grind[Jp,vH]
 ·obtain⟨q1,q2⟩:=zK k len cs i ps hi
  have hik:i*k+k<=len*k:=by have:=aaT k (show i+1<=len from q2);rw[abj]at this;exact this
  refine⟨by rw[q1];simp;omega,λj A hj=>?_⟩
  rw[q1,aaW]at hj
  split at hj
  ·rw[abn]at hj
   obtain⟨y,s1,s2,s3⟩:=r2.2 _ A hj
   refine⟨y,?_,s2,A.mono aA (λb hb _=>Below.heap_alloc _ _ _ hb) (λ_ _ h=>h) s3⟩
   rw[aaJ,ei (heap_alloc_new w _)];exact s1
  ·cases hj
theorem zh {ty:Nat}{z:Value}(hp:Pl n o t)(ho:o.op=.buildSlice ty len parts.toArray)(hT:TI P ty e k bytes)(hk:Nat.blt 0 k=true)(hlen:Nat.blt 0 len=true)(hz:(P.info? e).bind (·.zero)=some z)
 (h1:z.cells.toList.all (·.oneCell')=true) (hzk:z.cells.size=k) (hsm:Nat.ble (len*k) 16777216=true) (hpt:bH S parts pps) (hf:nR (λi=>some (i*k,k)) (zg k len z.cells.toList) pps=some cs) :
 aB n P ops o ((2*t+1)::iK parts) (.row t (S.ver t+1)) [(t,S.ver t+1,.row e k (oJ k len cs))] S:=
 rM hp aA λC T g a w hA hR=>by
  have hk:=aaq hk
  have hlen:=aaq hlen
  obtain⟨out,r1,r2⟩:=wx (P:=P) hT hk hlen hz h1 hzk (aaq hsm) hA (λk h=>by simp[h]) hR hpt hf
  have hcl:cs.length=len*k:=by rw[DA hf];simp[zg]
  have hcl2:=aX k len cs
  refine⟨.slice (some ⟨w.heap.size,0,none⟩) len len,w.alloc (.cells out e),w.heap.size,?_,(bQ.refl w).alloc _,aaf _,gU _ _,λvr' hvr hst=>⟨?_,?_⟩⟩
  ·simp_all[execOp]
  ·exact⟨by rw[hvr,aae rfl];exact aaf _,λ_=>(aae rfl).symm⟩
  ·have hph:(g.mk1 t w.heap.size (.slice (some ⟨w.heap.size,0,none⟩) len len)).ph t=w.heap.size:=aae rfl
   have hrh:(g.mk1 t w.heap.size (.slice (some ⟨w.heap.size,0,none⟩) len len)).rh t=.slice (some ⟨w.heap.size,0,none⟩) len len:=aae rfl
   refine .inr ⟨len,out,by rw[hrh,hph,hcl2],by rw[hph];exact heap_alloc_new w _,by rw[hph];exact aae rfl,ae,by have:=aaq hsm;have:len<=len*k:=Nat.le_mul_of_pos_right _ hk;unfold maxLen;omega,by rw[r2.1,hcl],λi ps hi=>?_⟩
   obtain⟨q1,q2⟩:=zK k len cs i ps hi
   have hik:i*k+k<=len*k:=by have:=aaT k (show i+1<=len from q2);rw[abj]at this;exact this
   refine⟨by rw[q1];simp;omega,λj A hj=>?_⟩
   rw[q1,aaW]at hj
   split at hj
   ·rw[abn]at hj
    obtain⟨y,s1,s2,s3⟩:=r2.2 _ A hj
    exact⟨y,s1,s2,A.mono hst.sz hst.keepN hst.n s3⟩
   ·cases hj
theorem GD {ty:Nat}(hp:Pl n o t)(ho:o.op=.buildSlice ty 0 #[])(hT:TI P ty e k bytes) :
 aB n P ops o [2*t+1] (.row t (S.ver t+1)) [(t,S.ver t+1,.row e k [])] S:=
 rM hp aA λC T g a w hA hR=>by
  obtain⟨i,z',hi,hz',hs1,hs2,hs3⟩:=hT.info
  refine⟨.slice (some ⟨w.heap.size,0,none⟩) 0 0,w.alloc (.cells #[] e),w.heap.size,?_,(bQ.refl w).alloc _,aaf _,gU _ _,λvr' hvr hst=>⟨?_,?_⟩⟩
  ·simp only[execOp,ho,Sem.run_bind,Instr.buildSlice,run_underlying hT.und,Result.andThen_ok]
   simp_all[sizeOf,typeInfo,Instr.fill,newRow,Array.range_zero']
  ·exact⟨by rw[hvr,aae rfl];exact aaf _,λ_=>(aae rfl).symm⟩
  ·have hph:(g.mk1 t w.heap.size (.slice (some ⟨w.heap.size,0,none⟩) 0 0)).ph t=w.heap.size:=aae rfl
   have hrh:(g.mk1 t w.heap.size (.slice (some ⟨w.heap.size,0,none⟩) 0 0)).rh t=.slice (some ⟨w.heap.size,0,none⟩) 0 0:=aae rfl
   exact .inr ⟨0,#[],by rw[hrh,hph];rfl,by rw[hph];exact heap_alloc_new w _,by rw[hph];exact aae rfl,aA,bP,aA,λi ps hi=>by simp at hi⟩
end
def byteP (c:UInt8):List PV:=[ai (.int .u8 (c.toNat:Int))]
def YN (n:Int):List PV:=[ai (.int .i64 n)]
def strP (s:ByteArray):List PV:=[ai (.string s)]
section
variable {P:Program} {n:Nat} {ops:Array Oper} {o:Oper} {F:List Nat} {S T:St} {C:Ctx} {g:Gh} {a:Act} {w w':World} {t:Nat}
theorem Jq (h:eW top N k es w v)(lo hi:Nat)(h1:lo<=hi)(h2:hi<=es.length) :
 ∃ad c,v=.slice ad es.length c/\hi<=c/\eW top N k ((es.drop lo).take (hi-lo)) w (.slice (if c=lo then ad else ad.map (·.add (lo*k))) (hi-lo) (c-lo)):=by
 obtain⟨ad,c,b,of,rfl,g1,g2,g0,g3,g4⟩:=h
 refine⟨ad,c,rfl,ae,?_⟩
 have hlen:((es.drop lo).take (hi-lo)).length=hi-lo:=bD
 by_cases hz:hi=lo
 ·subst hz
  refine⟨_,c-hi,0,0,by rw[hlen],ae,ae,λhn=>?_,by rw[hlen];omega,λi cs hx=>?_⟩
  ·by_cases hc:c=hi
   all_goals simp_all
  grind
 ·obtain⟨ha,q2,q3⟩:=g3 ae
  have hc:¬c=lo:=ae
  refine⟨_,c-lo,b,of+lo*k,by rw[hlen],ae,ae,λhn=>?_,λ_=>⟨by rw[aab hc,ha];simp[Addr.add_lit],q2,q3⟩,λi cs hx=>?_⟩
  all_goals grind
def Ng (S:St)(lo hi:Option Operand)(len:Nat)(l h:Nat):Prop:=
 (match lo with|none=>l=0|some x=>∃k z,S.opd x=iC k z/\z=(l:Int))/\(match hi with|none=>h=len|some x=>∃k z,S.opd x=iC k z/\z=(h:Int))/\l<=h/\h<=len
def rQ (lo hi:Option Operand):List Nat:=(match lo with|none=>[]|some x=>aG x)++(match hi with|none=>[]|some x=>aG x)
theorem mG {ty:Nat}{ad:Option Addr}{c l:Nat}(hT:P.underlying ty=some (.slice e))(hk:P.cellsOf e=k)(h0:0<k)(hA:ed F T S)(hF:∀k∈rQ lo hi,k∈F)(hR:RG C n T g a w)(hb:Ng S lo hi len l h)(hc:h<=c) :
 (Instr.sliceAt ty (.slice ad len c) (lo.map a.eval) (hi.map a.eval) none).run P w=.ok (.slice (if c=l then ad else ad.map (·.add (l*k))) (h-l) (c-l)) w:=by
 have hel:P.elem ty=e:=by grind[Program.elem]
 rw[run_sliceAt_slice (h:=by rw[hel];exact hT)]
 obtain⟨h1,h2,h3,h4⟩:=hb
 have fin:∀(r:Result Value),(r=((sizeOf (P.elem ty)).run P w).andThen λs w=>.ok (sliced ad l h c s) w)->r=.ok (.slice (if c=l then ad else ad.map (·.add (l*k))) (h-l) (c-l)) w:=by simp_all[gS,sliced]
 cases lo<;>grind[run_slice_all,bf,rQ,run_slice_h,run_slice_l,run_slice_lh]
theorem NP {ty l:Nat}{es':List (List PV)}(hp:Pl n o t)(ho:o.op=.slice ty x lo hi none)(hT:P.underlying ty=some (.slice e))(hk:P.cellsOf e=k)(h0:Nat.blt 0 k=true)
 (hx:S.opd x=.per (cn k es)) (hb:Ng S lo hi es.length l h) (he:(es.drop l).take (h-l)=es'):aB n P ops o (aG x++rQ lo hi) (.per (cn k es')) [] S:=
 aZ hp λC T g a w hA hR=>by
  have hr:=aM (x:=x) hA (λk h=>by simp[h]) hR
  rw[hx]at hr
  obtain⟨ad,c,hv,hc,hl⟩:=Jq hr l h hb.2.2.1 hb.2.2.2
  subst he
  refine⟨_,?_,hl⟩
  simp only[execOp,ho,hv,Sem.run_bind,Option.map_none,mG hT hk (aaq h0) hA (λk h=>by simp[h]) hR hb hc];rfl
theorem GF {ty l:Nat}{es':List (List PV)}(hp:Pl n o t)(ho:o.op=.slice ty x lo hi none)(hT:P.underlying ty=some (.slice e))(hk:P.cellsOf e=k)(h0:Nat.blt 0 k=true)
 (hx:S.opd x=.bor k es) (hb:Ng S lo hi es.length l h) (he:(es.drop l).take (h-l)=es'):aB n P ops o (aG x++rQ lo hi) (.bor k es') [] S:=
 aZ hp λC T g a w hA hR=>by
  have hr:=aM (x:=x) hA (λk h=>by simp[h]) hR
  rw[hx]at hr
  obtain⟨ad,c,hv,hc,hl⟩:=Jq hr l h hb.2.2.1 hb.2.2.2
  subst he
  refine⟨_,?_,hl⟩
  simp only[execOp,ho,hv,Sem.run_bind,Option.map_none,mG hT hk (aaq h0) hA (λk h=>by simp[h]) hR hb hc];rfl
theorem KV {ty l:Nat}{s':ByteArray}(hp:Pl n o t)(ho:o.op=.slice ty x lo hi none)(hT:P.underlying ty=some .string)(hx:S.opd x=sC s)(hb:Ng S lo hi s.size l h)(he:s.extract l h=s') :
 aB n P ops o (aG x++rQ lo hi) (sC s') [] S:=
 aZ hp λC T g a w hA hR=>by
  have hv:=bf (x:=x) hA (λk h=>by simp[h]) hR hx
  obtain⟨h1,h2,h3,h4⟩:=hb
  subst he
  refine⟨.string (s.extract l h),?_,rfl⟩
  have hs:s.extract 0 s.size=s:=aA
  have key:(Instr.sliceAt ty (.string s) (lo.map a.eval) (hi.map a.eval) none).run P w=.ok (.string (s.extract l h)) w:=by
   rw[run_sliceAt_string (h:=hT)]
   grind[run_slice_string_all,bf,rQ,run_slice_string_to_if,run_slice_string_from_if,run_slice_string]
  simp_all[execOp]
theorem wy {l:List UInt8}(h:eW top N 1 (l.map byteP) w v):Bs w v l:=by
 obtain⟨ad,c,b,of,h1,h2,h3,h4,h5,h6⟩:=h
 simp only[aad]at h1 h2 h5
 refine⟨ad,c,b,of,h1,h2,h3,λh0=>(h5 h0).1,h4,λi x hx j y hy=>?_⟩
 obtain⟨_,q⟩:=h6 i (byteP x) (by rw[List.getElem?_map,hx];rfl)
 cases j with
 | zero=>
  simp[encB]at hy;subst hy
  obtain⟨y,r1,_,r3⟩:=q 0 _ rfl
  have r3:y=.int .u8 (x.toNat:Int):=r3
  subst r3;exact r1
 | succ j=>simp[encB]at hy
theorem YO {src dst:Nat}{l:List UInt8}(hp:Pl n o t)(ho:o.op=.convert src dst x)(hs:P.underlying src=some (.slice e))(he:P.underlying e=some (.int .u8))(hd:P.underlying dst=some .string)
 (hx:GB F S x 1 (l.map byteP)):aB n P ops o F (sC ⟨l.toArray⟩) [] S:=
 aZ hp λC T g a w hA hR=>by
  refine⟨_,?_,rfl⟩
  simp only[execOp,ho,Sem.run_bind,Bs.toStr hs he hd (wy (hx n C T g a w hA hR))];rfl
end
class gB (P:Program)(t:TypeId)(d:outParam TypeDesc):Prop where h:P.underlying t=some d
class dH (P:Program)(t:TypeId)(b:outParam Bool):Prop where h:∃d,P.underlying t=some d/\iJ d=b
class gC (P:Program)(t:TypeId)(k:outParam Nat):Prop where h:P.cellsOf t=k:=by kernel_rfl
class bg (P:Program)(t f:Nat)(off:outParam Nat):Prop where h:Wf P t f off
class vI (P:Program)(t:TypeId)(e k b:outParam Nat):Prop where h:TI P t e k b
class ky (P:Program)(t:TypeId)(z:outParam Value):Prop where h:(P.info? t).bind (·.zero)=some z:=by kernel_rfl
class ir (P:Program)(t:TypeId)(ls:outParam (List (Nat×Nat))):Prop where h:Dy P t=some ls:=by kernel_rfl
theorem bq {P:Program}{T f:Nat}{fs:Array Field}(hT:P.underlying T=some (.struct fs))(h:(fs[f]?).map (λx=>(x.offset,Nat.blt 0 (P.cellsOf x.type)))=some (off,true):=by kernel_rfl):bg P T f off:=⟨Wf.mk' hT h⟩
section
variable {f:St->Prop} {Q:Exit->St->Prop} {S:St} {i j:Nat}
theorem pK (h:f S):uW f Q .normal S:=h
theorem pL (h:Q .ret S):uW f Q .ret S:=h
theorem pM (h:Q (.exit i) S):uW f Q (.exit i) S:=h
theorem zL (h:Q .normal S):j6 i Q .normal S:=h
theorem zM (h:Q .ret S):j6 i Q .ret S:=h
theorem pN (h:Q .normal S):j6 i Q (.exit i) S:=by grind[j6]
theorem mH (hb:Nat.beq j i=false)(h:Q (.exit j) S):j6 i Q (.exit j) S:=by grind[j6,Nat.beq_refl]
end
section
variable {P:Program} {n:Nat} {ops:Array Oper} {l:List Oper} {o:Oper} {F:List Nat} {S:St} {t:Nat} {c:Cnt} {b:Upd} {Q:St->Prop}
theorem aH (hd:o.dst=some t)(h:aB n P ops o F c b S)(k:AL P n ops Q l (S.app (some t) c b)):AL P n ops Q (o::l) S:=Jl h (by rw[hd];exact k)
theorem cB (hd:o.dst=none)(h:aB n P ops o F c b S)(k:AL P n ops Q l (S.putB b)):AL P n ops Q (o::l) S:=Jl h (by rw[hd];exact k)
theorem aJ {done:List (List Nat×List Nat)}(hd:o.dst=some t)(h:aB n P ops o F c b S)(k:AD P n ops Q (done++[(F,Nq (some t) b)]) l (S.app (some t) c b)):AD P n ops Q done (o::l) S:=Jn h (by rw[hd];exact k)
theorem cC {done:List (List Nat×List Nat)}(hd:o.dst=none)(h:aB n P ops o F c b S)(k:AD P n ops Q (done++[(F,Nq none b)]) l (S.putB b)):AD P n ops Q done (o::l) S:=Jn h (by rw[hd];exact k)
theorem aV {S':St}(h:Le n S S')(k:AL P n ops Q l S'):AL P n ops Q l S:=⟨λC a w hr=>k.run C a w (h C a w hr)⟩
theorem rR {e:TypeId}(hp:Pl n o t)(ho:o.op=.load ty x)(hT:dH P ty false)(hx:S.opd x=.ptr id vr off)(hv:S.ver id=vr)(hb:S.blk id=.box e cells)(hc:cells[off]?=some c) :
 aB n P ops o ((2*id+1)::aG x) c [] S:=by obtain⟨d,h1,h2⟩:=hT.h;exact NB hp ho h1 h2 hx hv hb hc
theorem pO {e:TypeId}(hp:Pl n o t)(ho:o.op=.load ty x)(hT:dH P ty true)(hk:gC P ty k)(hx:S.opd x=.ptr id vr off)(hv:S.ver id=vr)(hb:S.blk id=.box e cells)
 (h0:Nat.blt 0 k=true) (hl:Nat.ble (off+k) cells.length=true) (hc:vp ((cells.drop off).take k)=some As):aB n P ops o ((2*id+1)::aG x) (.per (cu As)) [] S:=by obtain⟨d,h1,h2⟩:=hT.h;exact NC hp ho h1 h2 hk.h h0 hx hv hb hl hc
theorem nj (hp:Pl n o t)(ho:o.op=.load ty x)(hT:dH P ty false)(hx:S.opd x=.per (em cs))(hA:cs[0]?=some A):aB n P ops o (aG x) (.per A) [] S:=by obtain⟨d,h1,h2⟩:=hT.h;exact Dd hp ho h1 h2 hx hA
theorem nk (hp:Pl n o t)(ho:o.op=.load ty x)(hT:dH P ty true)(hk:gC P ty k)(hx:S.opd x=.per (em cs))(hl:cs.length=k)(h0:Nat.blt 0 k=true):aB n P ops o (aG x) (.per (cu cs)) [] S:=by obtain⟨d,h1,h2⟩:=hT.h;exact De hp ho h1 h2 (by rw[hk.h,hl]) (by rw[hl];simp_all) hx
theorem nl (hp:Pl n o t)(ho:o.op=.load ty x)(hT:dH P ty false)(hx:S.opd x=.bpt cs)(hA:cs[0]?=some A):aB n P ops o (aG x) (.per A) [] S:=by obtain⟨d,h1,h2⟩:=hT.h;exact Dh hp ho h1 h2 hx hA
theorem nm (hp:Pl n o t)(ho:o.op=.load ty x)(hT:dH P ty true)(hk:gC P ty k)(hx:S.opd x=.bpt cs)(hl:cs.length=k)(h0:Nat.blt 0 k=true):aB n P ops o (aG x) (.per (cu cs)) [] S:=by obtain⟨d,h1,h2⟩:=hT.h;exact Di hp ho h1 h2 (by rw[hk.h,hl]) (by rw[hl];simp_all) hx
theorem bV {i j:Nat}(hp:Pl n o t)(ho:o.op=.load ty x)(hT:dH P ty false)(hx:S.opd x=.ept id vr k i j)(hv:S.ver id=vr)(hb:S.blk id=.row e k es)(hi:es[i]?=some ps)(hj:ps[j]?=some A) :
 aB n P ops o ((2*id+1)::aG x) (.per A) [] S:=by obtain⟨d,h1,h2⟩:=hT.h;exact Gy hp ho h1 h2 hx hv hb hi hj
theorem aD {i j m:Nat}(hp:Pl n o t)(ho:o.op=.load ty x)(hT:dH P ty true)(hk:gC P ty m)(hx:S.opd x=.ept id vr k i j)(hv:S.ver id=vr)(hb:S.blk id=.row e k es)(hi:es[i]?=some ps)(hj:(ps.drop j).take m=As)(hl:As.length=m)(h0:Nat.blt 0 m=true) :
 aB n P ops o ((2*id+1)::aG x) (.per (cu As)) [] S:=by obtain⟨d,h1,h2⟩:=hT.h;exact Gz hp ho h1 h2 hk.h h0 hx hv hb hi hj hl
theorem vJ {ty f:Nat}(hp:Pl n o t)(ho:o.op=.fieldAddr ty x f)(hf:bg P ty f fo)(hx:S.opd x=.ptr id vr off)(hv:S.ver id=vr):aB n P ops o ((2*id+1)::aG x) (.ptr id vr (off+fo)) [] S:=ND hp ho hf.h hx hv
theorem nn {ty f:Nat}(hp:Pl n o t)(ho:o.op=.fieldAddr ty x f)(hf:bg P ty f fo)(hx:S.opd x=.per (em cs)):aB n P ops o (aG x) (.per (em (cs.drop fo))) [] S:=Df hp ho hf.h hx
theorem np {ty f:Nat}(hp:Pl n o t)(ho:o.op=.fieldAddr ty x f)(hf:bg P ty f fo)(hx:S.opd x=.bpt cs):aB n P ops o (aG x) (.bpt (cs.drop fo)) [] S:=Dg hp ho hf.h hx
theorem zN {ty f:Nat}{i j:Nat}(hp:Pl n o t)(ho:o.op=.fieldAddr ty x f)(hf:bg P ty f fo)(hx:S.opd x=.ept id vr k i j)(hv:S.ver id=vr):aB n P ops o ((2*id+1)::aG x) (.ept id vr k i (j+fo)) [] S:=Gx hp ho hf.h hx hv
theorem Jr {e:TypeId}{z:Value}(hp:Pl n o t)(ho:o.op=.alloc e)(hz:ky P e z)(h1:z.cells.toList.all (·.oneCell')=true):aB n P ops o [2*t+1] (.ptr t (S.ver t+1) 0) [(t,S.ver t+1,.box e (z.cells.toList.map Ny))] S:=NA hp ho hz.h h1
theorem DB {e:TypeId}(hp:Gi o)(ho:o.op=.store ty x y)(hk:gC P ty 1)(hx:S.opd x=.ptr id vr off)(hv:S.ver id=vr)(hb:S.blk id=.box e cells)(hl:Nat.ble (off+1) cells.length=true)(hy:S.opd y=.per A)(h1:qv A) :
 aB n P ops o ((2*id+1)::(aG x++aG y)) .any [(id,vr,.box e (lH cells off [.per A]))] S:=KH hp ho hk.h hx hv hb hl hy h1
theorem wz {e:TypeId}(hp:Gi o)(ho:o.op=.store ty x y)(hk:gC P ty k)(hx:S.opd x=.ptr id vr off)(hv:S.ver id=vr)(hb:S.blk id=.box e cells)(h0:Nat.blt 0 k=true)(hl:Nat.ble (off+k) cells.length=true)(hy:S.opd y=.per (cu As))(hn:As.length=k) :
 aB n P ops o ((2*id+1)::(aG x++aG y)) .any [(id,vr,.box e (lH cells off (As.map .per)))] S:=KI hp ho hk.h h0 hx hv hb hl hy hn
theorem jh {e:TypeId}{i:Nat}(hp:Pl n o t)(ho:o.op=.indexAddr ty x ix)(hT:gB P ty (.slice e))(hk:gC P e k)(h0:Nat.blt 0 k=true)(hx:S.opd x=.per (cn k es))(hi:S.opd ix=iC kk z)(hz:z=(i:Int))(hc:es[i]?=some cs) :
 aB n P ops o (aG x++aG ix) (.per (em cs)) [] S:=NF hp ho hT.h hk.h h0 hx hi hz hc
theorem pQ {e:TypeId}{i:Nat}(hp:Pl n o t)(ho:o.op=.indexAddr ty x ix)(hT:gB P ty (.slice e))(hk:gC P e k)(h0:Nat.blt 0 k=true)(hx:S.opd x=.bor k es)(hi:S.opd ix=iC kk z)(hz:z=(i:Int))(hc:es[i]?=some cs) :
 aB n P ops o (aG x++aG ix) (.bpt cs) [] S:=Gu hp ho hT.h hk.h h0 hx hi hz hc
theorem tR {i:Nat}(hp:Pl n o t)(ho:o.op=.indexAddr ty x ix)(hT:gB P ty (.slice e'))(hk:gC P e' k)(h0:Nat.blt 0 k=true)(hx:S.opd x=.row id vr)(hv:S.ver id=vr)(hb:S.blk id=.row e k es)(hi:S.opd ix=iC kk z)(hz:z=(i:Int))(hlt:i<es.length) :
 aB n P ops o ((2*id+1)::(aG x++aG ix)) (.ept id vr k i 0) [] S:=Gv hp ho hT.h hk.h h0 hx hv hb hi hz hlt
theorem ji {i:Nat}{c:UInt8}(hp:Pl n o t)(ho:o.op=.index ty x ix)(hT:gB P ty .string)(hx:S.opd x=sC s)(hi:S.opd ix=iC kk z)(hz:z=(i:Int))(hc:s.data.toList[i]?=some c) :
 aB n P ops o (aG x++aG ix) (iC .u8 (c.toNat:Int)) [] S:=KJ hp ho hT.h hx hi hz hc
theorem DC {e:TypeId}(hp:Pl n o t)(ho:k9 o ty x)(hT:gB P ty (.slice e))(hx:S.opd x=.per (cn k es)):aB n P ops o (aG x) (iC .i64 (es.length:Int)) [] S:=WZ hp ho hT.h hx
theorem rS {e:TypeId}(hp:Pl n o t)(ho:k9 o ty x)(hT:gB P ty (.slice e))(hx:S.opd x=.bor k es):aB n P ops o (aG x) (iC .i64 (es.length:Int)) [] S:=NG hp ho hT.h hx
theorem vK (hp:Pl n o t)(ho:k9 o ty x)(hT:gB P ty .string)(hx:S.opd x=sC s):aB n P ops o (aG x) (iC .i64 (s.size:Int)) [] S:=NH hp ho hT.h hx
theorem rT (hp:Pl n o t)(ho:k9 o ty x)(hT:gB P ty (.slice e'))(hx:S.opd x=.row id vr)(hv:S.ver id=vr)(hb:S.blk id=.row e k es) :
 aB n P ops o ((2*id+1)::aG x) (iC .i64 (es.length:Int)) [] S:=NI hp ho hT.h hx hv hb
theorem NQ {e:TypeId}{l:List α}{f:α->List PV}(hp:Pl n o t)(ho:k9 o ty x)(hT:gB P ty (.slice e))(hx:S.opd x=.per (cn k (l.map f))):aB n P ops o (aG x) (iC .i64 (l.length:Int)) [] S:=by
 have:=DC (ops:=ops) hp ho hT hx
 rwa [aad]at this
theorem DD {e:TypeId}{l:List α}{f:α->List PV}(hp:Pl n o t)(ho:k9 o ty x)(hT:gB P ty (.slice e))(hx:S.opd x=.bor k (l.map f)):aB n P ops o (aG x) (iC .i64 (l.length:Int)) [] S:=by
 have:=rS (ops:=ops) hp ho hT hx
 rwa [aad]at this
theorem DE {l:List α}{f:α->List PV}(hp:Pl n o t)(ho:k9 o ty x)(hT:gB P ty (.slice e'))(hx:S.opd x=.row id vr)(hv:S.ver id=vr)(hb:S.blk id=.row e k (l.map f)) :
 aB n P ops o ((2*id+1)::aG x) (iC .i64 (l.length:Int)) [] S:=by
 have:=rT (ops:=ops) hp ho hT hx hv hb
 rwa [aad]at this
theorem dR {src dst:TypeId}{k k':IntKind}(hp:Pl n o t)(ho:o.op=.convert src dst x)(hs:gB P src d)(hd:gB P dst (.int k))(hx:S.opd x=iC k' p)(hz:k.wrap p=z):aB n P ops o (aG x) (iC k z) [] S:=
 Tj hp ho (by rw[hs.h];rfl) hd.h hx hz
def YP:Op->Nat
 | .move _=>0|.assign _=>1|.pick _ _ _=>2|.box _ _=>3|.alloc _=>4|.load _ _=>5|.store _ _ _=>6|.fieldAddr _ _ _=>7|.binOp _ _ _ _ _=>8|.unOp _ _ _=>9|.convert _ _ _=>10
 | .nilCheck _=>21|.makeFunc _ _ _=>22|.makeSlice _ _ _=>23
 | .slice _ _ _ _ _=>11|.indexAddr _ _ _=>12|.index _ _ _=>13|.build _ _=>14|.buildSlice _ _ _=>15|.extract _ _=>16
 | .call c=>match c.callee with
  | .builtin .len=>17
  | .builtin .append=>18
  | .builtin _=>19
  | _=>20
 | _=>99
theorem bn (k:Nat)(_:YP o.op=k)(h:aB n P ops o F c b S):aB n P ops o F c b S:=h
theorem gR (_:o.guard.isSome=true)(h:aB n P ops o F c b S):aB n P ops o F c b S:=h
def Tv:Cnt->List Nat
 | .row id _=>[2*id+1]
 | _=>[]
def ej (S:St)(x:Operand):List Nat:=aG x++Tv (S.opd x)
def fZ (S:St)(xs:List Operand):List Nat:=xs.flatMap (ej S)
theorem eF (hx:S.opd x=.per A):j9 (ej S x) S x (.per A):=KK hx (λk h=>by simp[ej,h])
theorem ff (hx:S.opd x=.per (cn k es)):j9 (ej S x) S x (.bor k es):=KL hx (λk h=>by simp[ej,h])
theorem fg (hx:S.opd x=.bor k es):j9 (ej S x) S x (.bor k es):=KM hx (λk h=>by simp[ej,h])
theorem gF (hx:S.opd x=.row id vr)(hv:S.ver id=vr)(hb:S.blk id=.row e k es):j9 (ej S x) S x (.bor k es):=KN hx hv hb (λk h=>by simp[ej,h]) (by simp[ej,hx,Tv])
theorem gG (hx:S.opd x=.per (ai (.slice none 0 0))):j9 (ej S x) S x (.bor k []):=KO hx (λk h=>by simp[ej,h])
theorem fa (hx:S.opd x=.per (ai (.slice none 0 0))):j9 (ej S x) S x (.per (cn k [])):=GA hx (λk h=>by simp[ej,h])
theorem j9.mono {F F':List Nat}{c:Cnt}(h:j9 F S x c)(hF:∀k∈F,k∈F'):j9 F' S x c:=λn C T g a w hA hR=>h n C T g a w ⟨λt ht=>hA.1 t (hF _ ht),λi hi=>hA.2 i (hF _ hi)⟩ hR
inductive GL (S:St):List Operand->List Cnt->Prop
 | nil:GL S [] []
 | cons {x:Operand} {c:Cnt} {xs:List Operand} {cs:List Cnt} (h:j9 (ej S x) S x c) (t:GL S xs cs):GL S (x::xs) (c::cs)
theorem GL.gives {cs:List Cnt}(h:GL S xs cs){F:List Nat}(hF:∀k∈fZ S xs,k∈F):nh F S xs cs:=by
 induction h with
 | nil=>exact .nil
 | cons h t ih=>exact .cons (h.mono (λk hk=>hF k (by simp[fZ,hk]))) (ih (λk hk=>hF k (by grind[fZ])))
theorem BA {f:FuncId}{As:List Cnt}(hp:Pl n o t)(ho:kx o f xs)(hf:Fn P f As r)(hpl:r.plain=true)(hg:GL S xs As):aB n P ops o (fZ S xs) (ww t 0 r) [] S:=Tk hp ho hf hpl (hg.gives λ_ h=>h)
theorem wA {f:FuncId}{As:List Cnt}(hp:Pl n o t)(ho:kx o f xs)(hf:Fn P f As (.own e k es))(hg:GL S xs As) :
 aB n P ops o ((2*t+1)::fZ S xs) (.row t (S.ver t+1)) [(t,S.ver t+1,.row e k es)] S:=Dq hp ho hf (hg.gives λ_ h=>by simp[h]) aA
theorem uX {f:FuncId}{As:List Cnt}(hp:Pl n o t)(ho:kx o f xs)(hf:Fn P f As (.tup2 (.own e k es) (.per (ai u))))(hg:GL S xs As) :
 aB n P ops o ((2*t+1)::fZ S xs) (.tup2 (.row t (S.ver t+1)) (.per (ai u))) [(t,S.ver t+1,.row e k es)] S:=Bx hp ho hf (hg.gives λ_ h=>by simp[h]) aA
theorem tS (hx:S.opd x=.per (cn k ns)):GB (ej S x) S x k ns:=Tl hx (λk h=>by simp[ej,h])
theorem tT (hx:S.opd x=.bor k ns):GB (ej S x) S x k ns:=Tm hx (λk h=>by simp[ej,h])
theorem tU (hx:S.opd x=.row id vr)(hv:S.ver id=vr)(hb:S.blk id=.row e k es):GB (ej S x) S x k es:=Tn hx hv hb (λk h=>by simp[ej,h]) (by simp[ej,hx,Tv])
theorem GB.mono {F F':List Nat}(h:GB F S x k ns)(hF:∀k∈F,k∈F'):GB F' S x k ns:=λn C T g a w hA hR=>h n C T g a w ⟨λt ht=>hA.1 t (hF _ ht),λi hi=>hA.2 i (hF _ hi)⟩ hR
theorem Wg {s:Operand}(hp:Pl n o t)(ho:rP o ty s x)(hT:vI P ty e k bytes)(hk:Nat.blt 0 k=true)
 (hs:S.opd s=.row id vr) (hv:S.ver id=vr) (hb:S.blk id=.row e k es) (hx:GB (ej S x) S x k ns)
 (hlen:es.length+ns.length<=1000000000000) (hby:Nat.ble bytes 140=true) (hfx:eL id=false:=by rfl) :
 aB n P ops o ((2*id+1)::(aG s++ej S x)) (.row id (vr+1)) [(id,vr+1,.row e k (es++ns))] S:=KR hp ho hT.h hk hs hv hb (hx.mono λk h=>by simp[h]) (λk h=>by simp[h]) (by unfold maxLen;omega) (hfx:=hfx)
  (abk (Nat.mul_le_mul hlen (aaq hby)) bP)
theorem Js {z:Value}{ls:List (Nat×Nat)}(hp:Pl n o t)(ho:o.op=.build ty parts.toArray)(hl:ir P ty ls)(hz:ky P ty z)
 (h1:z.cells.toList.all (·.oneCell')=true) (hpt:bH S parts pps) (hf:nR (λi=>ls[i]?) (Dw z.cells.toList) pps=some cs):aB n P ops o (iK parts) (.per (cu cs)) [] S:=NN hp ho hl.h hz.h h1 hpt hf
theorem DF {ty:Nat}{z:Value}(hp:Pl n o t)(ho:o.op=.buildSlice ty len parts.toArray)(hT:vI P ty e k bytes)(hz:ky P e z)(hk:Nat.blt 0 k=true)(hlen:Nat.blt 0 len=true)
 (h1:z.cells.toList.all (·.oneCell')=true) (hzk:z.cells.size=k) (hsm:Nat.ble (len*k) 16777216=true) (hpt:bH S parts pps) (hf:nR (λi=>some (i*k,k)) (zg k len z.cells.toList) pps=some cs) :
 aB n P ops o (iK parts) (.per (cn k (oJ k len cs))) [] S:=KU hp ho hT.h hk hlen hz.h h1 hzk hsm hpt hf
theorem b0 {ty:Nat}{z:Value}(hp:Pl n o t)(ho:o.op=.buildSlice ty len parts.toArray)(hT:vI P ty e k bytes)(hz:ky P e z)(hk:Nat.blt 0 k=true)(hlen:Nat.blt 0 len=true)
 (h1:z.cells.toList.all (·.oneCell')=true) (hzk:z.cells.size=k) (hsm:Nat.ble (len*k) 16777216=true) (hpt:bH S parts pps) (hf:nR (λi=>some (i*k,k)) (zg k len z.cells.toList) pps=some cs) :
 aB n P ops o ((2*t+1)::iK parts) (.row t (S.ver t+1)) [(t,S.ver t+1,.row e k (oJ k len cs))] S:=zh hp ho hT.h hk hlen hz.h h1 hzk hsm hpt hf
theorem zO {ty:Nat}(hp:Pl n o t)(ho:o.op=.buildSlice ty 0 #[])(hT:vI P ty e k bytes):aB n P ops o [2*t+1] (.row t (S.ver t+1)) [(t,S.ver t+1,.row e k [])] S:=GD hp ho hT.h
theorem kc {ty l:Nat}{f:α->List PV}(hp:Pl n o t)(ho:o.op=.slice ty x lo hi none)(hT:gB P ty (.slice e))(hk:gC P e k)(h0:Nat.blt 0 k=true)(hx:S.opd x=.per (cn k (m.map f)))(hb:Ng S lo hi m.length l h) :
 aB n P ops o (aG x++rQ lo hi) (.per (cn k (((m.drop l).take (h-l)).map f))) [] S:=NP hp ho hT.h hk.h h0 hx (by rw[aad];exact hb) (by rw[<-List.map_drop,<-List.map_take])
theorem qR {ty l:Nat}{f:α->List PV}(hp:Pl n o t)(ho:o.op=.slice ty x lo hi none)(hT:gB P ty (.slice e))(hk:gC P e k)(h0:Nat.blt 0 k=true)(hx:S.opd x=.bor k (m.map f))(hb:Ng S lo hi m.length l h) :
 aB n P ops o (aG x++rQ lo hi) (.bor k (((m.drop l).take (h-l)).map f)) [] S:=GF hp ho hT.h hk.h h0 hx (by rw[aad];exact hb) (by rw[<-List.map_drop,<-List.map_take])
theorem drop_take (m:List α)(l:Nat):(m.drop l).take (m.length-l)=m.drop l:=aaj aA
theorem DG {ty l:Nat}{f:α->List PV}(hp:Pl n o t)(ho:o.op=.slice ty x lo none none)(hT:gB P ty (.slice e))(hk:gC P e k)(h0:Nat.blt 0 k=true)(hx:S.opd x=.per (cn k (m.map f)))(hb:Ng S lo none m.length l h)(hh:h=m.length) :
 aB n P ops o (aG x++rQ lo none) (.per (cn k ((m.drop l).map f))) [] S:=by
 have:=kc (ops:=ops) hp ho hT hk h0 hx hb
 rw[hh,drop_take]at this;exact this
theorem DH {ty:Nat}{f:α->List PV}(hp:Pl n o t)(ho:o.op=.slice ty x none hi none)(hT:gB P ty (.slice e))(hk:gC P e k)(h0:Nat.blt 0 k=true)(hx:S.opd x=.per (cn k (m.map f)))(hb:Ng S none hi m.length 0 h) :
 aB n P ops o (aG x++rQ none hi) (.per (cn k ((m.take h).map f))) [] S:=kc hp ho hT hk h0 hx hb
theorem wC {ty:Nat}{f:α->List PV}(hp:Pl n o t)(ho:o.op=.slice ty x none hi none)(hT:gB P ty (.slice e))(hk:gC P e k)(h0:Nat.blt 0 k=true)(hx:S.opd x=.bor k (m.map f))(hb:Ng S none hi m.length 0 h) :
 aB n P ops o (aG x++rQ none hi) (.bor k ((m.take h).map f)) [] S:=qR hp ho hT hk h0 hx hb
theorem DI {ty l:Nat}{s':ByteArray}(hp:Pl n o t)(ho:o.op=.slice ty x lo hi none)(hT:gB P ty .string)(hx:S.opd x=sC s)(hb:Ng S lo hi s.size l h)(he:s.extract l h=s') :
 aB n P ops o (aG x++rQ lo hi) (sC s') [] S:=KV hp ho hT.h hx hb he
theorem YQ {src dst:Nat}{l:List UInt8}(hp:Pl n o t)(ho:o.op=.convert src dst x)(hs:gB P src (.slice e))(he:gB P e (.int .u8))(hd:gB P dst .string)(hx:GB (ej S x) S x 1 (l.map byteP)):aB n P ops o (ej S x) (sC ⟨l.toArray⟩) [] S:=YO hp ho hs.h he.h hd.h hx
theorem kG {β:Type}{l:List α}{f:α->β}{i:Nat}(h:i<l.length):(l.map f)[i]?=some (f l[i]):=by simp[h]
theorem cJ {f:α->List PV}{t:Nat}{l l':List α}(h:S.get t=.row id vr)(hv:S.ver id=vr)(hb:S.blk id=.row e k (l.map f))(hl:l=l'):cH P n S (.tmp t) (.own e k (l'.map f)):=f9 h hv (hl▸hb)
theorem aq {t:Nat}{k:IntKind}{z':Int}(h:S.get t=.per (ai (.int k z)))(hz:z=z'):cH P n S (.tmp t) (.per (ai (.int k z'))):=cS (hz▸h)
theorem aP {t:Nat}{z z':Bool}(h:S.get t=.per (ai (.bool z)))(hz:z=z'):cH P n S (.tmp t) (.per (ai (.bool z'))):=cS (hz▸h)
theorem W4 {t:Nat}{z z':ByteArray}(h:S.get t=.per (ai (.string z)))(hz:z=z'):cH P n S (.tmp t) (.per (ai (.string z'))):=cS (hz▸h)
theorem lO {f:α->List PV}{t:Nat}{l l':List α}(h:S.get t=.per (cn k (l.map f)))(hl:l=l'):cH P n S (.tmp t) (.per (cn k (l'.map f))):=cS (hl▸h)
theorem W5 {f:α->List PV}{t:Nat}{l l':List α}(h:S.get t=.row id vr)(hv:S.ver id=vr)(hb:S.blk id=.row e k (l.map f))(hl:l=l'):cH P n S (.tmp t) (.per (cn k (l'.map f))):=GC h hv (hl▸hb)
theorem Gj {k:IntKind}{z':Int}(h:z=z'):(Cnt.per (ai (.int k z)))=.per (ai (.int k z')):=by rw[h]
theorem qw {z z':Bool}(h:z=z'):(Cnt.per (ai (.bool z)))=.per (ai (.bool z')):=by rw[h]
theorem kB {D D':List PV}{c:Cnt}(h:D=D'):Blk.mix e D c=.mix e D' c:=by rw[h]
theorem nq {es':List (List PV)}(h:es=es'):Blk.row e k es=.row e k es':=by rw[h]
theorem wD {P:Program}{n:Nat}{Q:Exit->St->Prop}{S:St}{c:Code}(N:Nat)(I:Nat->St)(h0:Le n S (I 0))
 (round:∀k,k<=N->AW P n c (uW (λS'=>k<N/\Le n S' (I (k+1))) Q) (I k)):AW P n (.loop c) Q S:=by
 refine Jo (X:={ k:Nat // k<=N }) (λk=>I k.1) (λk=>N-k.1) ⟨0,aag _⟩ h0 (λ⟨k,hk⟩=>⟨λC a w hr=>?_⟩)
 refine wp_mono ((round k hk).run C a w hr) (λe a w ⟨S',hq,hr⟩=>⟨S',?_,hr⟩)
 cases e with
 | normal=>exact⟨⟨k+1,hq.1⟩,by have:=hq.1;simp only;omega,hq.2⟩
 | _=>exact hq
theorem ci {P:Program}{n:Nat}{Q:Exit->St->Prop}{S:St}{c:Code}{X:Type}(pre:X->Prop)(I:X->St)(mu:X->Nat)(x0:X)(hp:pre x0)(h0:Le n S (I x0))
 (round:∀x,pre x->AW P n c (uW (λS'=>∃x',pre x'/\mu x'<mu x/\Le n S' (I x')) Q) (I x)):AW P n (.loop c) Q S:=by
 refine Jo (X:={ x:X // pre x }) (λx=>I x.1) (λx=>mu x.1) ⟨x0,hp⟩ h0 (λ⟨x,hx⟩=>⟨λC a w hr=>?_⟩)
 refine wp_mono ((round x hx).run C a w hr) (λe a w ⟨S',hq,hr⟩=>⟨S',?_,hr⟩)
 cases e with
 | normal=>obtain⟨x',h1,h2,h3⟩:=hq;exact⟨⟨x',h1⟩,h2,h3⟩
 | _=>exact hq
end
