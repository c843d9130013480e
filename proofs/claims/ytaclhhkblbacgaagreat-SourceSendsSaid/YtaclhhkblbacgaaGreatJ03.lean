/- Texts joined: AbsOps. -/
import Derived.Test.YtaclhhkblbacgaaGreatJ02
import Derived.IntWalk
import Derived.Laws.CopyRow
import Derived.Maps.AppendAt
import Derived.Great.BuildSlice
import Derived.Laws.IdiomStrings
namespace Go.Proofs.YtaclhhkblbacgaaGreat
open Go.RowKit
variable {x:Operand} {v:Value} {y:Operand} {u:Value} {r:Ret} {ty ty':TypeId} {k:Nat} {z p:Int} {d:TypeDesc} {N:BP} {cs:List PV} {A:PV} {off q:Nat} {vr':Nat→Nat} {e:Nat} {cells:List Cnt} {es:List (List PV)} {id vr:Nat} {As:List PV} {fo len:Nat} {kk:IntKind} {ix:Operand} {s:ByteArray} {top:BP} {e':TypeId} {ps:List PV} {xs:List Operand} {ns:List (List PV)} {bytes:Nat} {parts:List (Nat×Operand)} {pps:List (Nat×List PV)} {h:Nat} {lo hi:Option Operand} {α:Type} {m:List α}
def St.opd (S:St):Operand→Cnt
 | .tmp t=>S.get t
 | .const v=>.per (ak v)
 | .func f=>.per (ak (.func (.func f) #[] #[]))
 | .global g=>.per (ak (.pointer (some ⟨g,0,none⟩)))
def az:Operand→List Nat
 | .tmp t=>[2*t]
 | _=>[]
section
variable {P:Program} {n:Nat} {ops:Array Oper} {o:Oper} {F:List Nat} {S T:St} {C:Ctx} {g:Gh} {a:Act} {w:World} {t:Nat}
theorem aG (hA:dV F T S)(hF:∀k∈az x,k∈F)(hR:RG C n T g a w):crep C T.ver g w (a.eval x) (S.opd x):=by
 cases x with
 | tmp t=>
  have h:=hR.slots t
  rw[hA.1 t (hF _ (by simp[az]))]at h
  exact h
 | const v=>exact rfl
 | func f=>exact rfl
 | global q=>exact rfl
def Pl (n:Nat)(o:Oper)(t:Nat):Prop:=o.guard=none∧o.dst=some t∧Nat.blt t n=true
theorem Pl.dOk (h:Pl n o t):dOk n o.dst:=fun t' e=>by
 rw[h.2.1]at e;cases e;exact Wc h.2.2
theorem Pl.wanted (h:Pl n o t)(a:Act):Region.wanted o (yielded ops a.tmps)=true:=by simp[Region.wanted,h.1]
theorem aV (hp:Pl n o t){c:Cnt}(h:∀C T g a w,dV F T S→RG C n T g a w→∃v,(execOp a.eval o).run P w=.ok (.value v) w∧crep C T.ver g w v c) :
 aw n P ops o F c [] S:=by
 refine⟨?_⟩
 intro C T hA a w ⟨g,hR⟩
 obtain⟨v,h1,h2⟩:=h C T g a w hA hR
 unfold iM
 rw[V6 (hp.wanted a)]
 unfold Oper.wp
 rw[h1,Oper.upon_value]
 exact⟨g,hR.app0 (eX.refl w) hp.dOk h2⟩
theorem cT {c:Cnt}(hp:Pl n o t)(ho:o.op=.move x)(hc:S.opd x=c):aw n P ops o (az x) c [] S:=
 aV hp fun C T g a w hA hR=>⟨a.eval x,by simp[execOp,ho],by rw[←hc];exact aG hA (fun _ h=>h) hR⟩
theorem cZ {c:Cnt}(hp:Pl n o t)(ho:o.op=.assign x)(hc:S.opd x=c):aw n P ops o (az x) c [] S:=
 aV hp fun C T g a w hA hR=>⟨a.eval x,by simp[execOp,ho],by rw[←hc];exact aG hA (fun _ h=>h) hR⟩
theorem aP (hA:dV F T S)(hF:∀k∈az x,k∈F)(hR:RG C n T g a w)(h:S.opd x=.per (ak v)):a.eval x=v:=by
 have:=aG hA hF hR
 rw[h]at this;exact this
def AB (b:Bool)(c:Cnt)(p:Bool):Prop:=b=true→c=bC p
theorem nY {c:Operand}{b p q:Bool}(hp:Pl n o t)(ho:o.op=.pick c x y)(hc:S.opd c=bC b)(hx:AB b (S.opd x) p)(hy:AB (!b) (S.opd y) q) :
 aw n P ops o (az c++az x++az y) (bC (bif b then p else q)) [] S:=
 aV hp fun C T g a w hA hR=>by
  have h1:=aP hA (fun k h=>by simp[h]) hR hc
  cases b with
  | true=>
   have h2:=aP (x:=x) hA (fun k h=>by simp[h]) hR (hx rfl)
   exact⟨.bool p,by simp[execOp,ho,h1,h2,asBool],rfl⟩
  | false=>
   have h2:=aP (x:=y) hA (fun k h=>by simp[h]) hR (hy rfl)
   exact⟨.bool q,by simp[execOp,ho,h1,h2,asBool],rfl⟩
theorem an {x:Cnt}{b:Bool}(h:x=.per (ak (bif b then v else undef)))(hb:b=true):x=.per (ak v):=by rw[h,hb];rfl
theorem ar {x:Cnt}{b:Bool}{c:Cnt}(h:x=bif b then c else .any)(hb:b=true):x=c:=by rw[h,hb];rfl
def lp:Value→Option Bool
 | .bool b=>some b
 | _=>none
theorem kC {j tg:Nat}{a:Act}(hj:(ops[j]?).bind (·.dst)=some tg)(hv:a.tmps.getD tg undef=v)(hlt:tg<a.tmps.size) :
 yielded ops a.tmps j=lp v:=by
 have:a.tmps[tg]=v:=by rw[←hv];simp[Array.getD,hlt]
 subst this
 unfold yielded
 rw[hj]
 simp only[Option.bind_some,WS hlt]
 cases a.tmps[tg]<;>rfl
theorem ki {j tg:Nat}{want b g':Bool}(hg:o.guard=some (j,want))(hd:o.dst=some t)(ht:Nat.blt t n=true)(hj:(ops[j]?).bind (·.dst)=some tg)(htg:Nat.blt tg n=true)
 (hb:S.get tg=.per (ak (bif g' then .bool b else undef))) (h:g'=true→b=want→aw n P ops { o with guard:=none } F (.per (ak v)) [] S) :
 aw n P ops o (2*tg::F) (.per (ak (bif (g'&&b==want)then v else undef))) [] S:=by
 refine⟨?_⟩
 intro C T hA a w ⟨g,hR⟩
 have hv:a.tmps.getD tg undef=(bif g' then .bool b else undef):=by
  have:=hR.slots tg
  rw[hA.1 tg au,hb]at this;exact this
 have hy:=kC (ops:=ops) hj hv (by rw[hR.tsz];exact Wc htg)
 have hdk:dOk n o.dst:=fun t' e=>by rw[hd]at e;cases e;exact Wc ht
 unfold iM
 cases g' with
 | false=>
  rw[V3 (by simp[Region.wanted,hg,hy,undef,lp])]
  exact⟨g,hR.app0 (eX.refl w) hdk rfl⟩
 | true=>
  simp only[cond_true]at hy
  by_cases hbw:b=want
  ·rw[V6 (by simp[Region.wanted,hg,hy,hbw,lp])]
   have hA':dV F T S:=⟨fun t h=>hA.1 t (by simp[h]),fun id h=>hA.2 id (by simp[h])⟩
   have:=(h rfl hbw).run C T hA' a w ⟨g,hR⟩
   unfold iM at this
   rw[V6 (by simp[Region.wanted])]at this
   subst hbw
   have e:(true&&b==b)=true:=au
   rw[e]
   exact this
  ·rw[V3 (by simp[Region.wanted,hg,hy,hbw,lp])]
   have:(b==want)=false:=by simpa using hbw
   simp only[this,Xv,cond_false]
   exact⟨g,hR.app0 (eX.refl w) hdk rfl⟩
theorem qb {j tg:Nat}{want b g':Bool}{c:Cnt}(hg:o.guard=some (j,want))(hd:o.dst=some t)(ht:Nat.blt t n=true)(hj:(ops[j]?).bind (·.dst)=some tg)(htg:Nat.blt tg n=true)
 (hb:S.get tg=.per (ak (bif g' then .bool b else undef))) (h:g'=true→b=want→aw n P ops { o with guard:=none } F c [] S) :
 aw n P ops o (2*tg::F) (bif (g'&&b==want)then c else .any) [] S:=by
 refine⟨?_⟩
 intro C T hA a w ⟨g,hR⟩
 have hv:a.tmps.getD tg undef=(bif g' then .bool b else undef):=by
  have:=hR.slots tg
  rw[hA.1 tg au,hb]at this;exact this
 have hy:=kC (ops:=ops) hj hv (by rw[hR.tsz];exact Wc htg)
 have hdk:dOk n o.dst:=fun t' e=>by rw[hd]at e;cases e;exact Wc ht
 unfold iM
 cases g' with
 | false=>
  rw[V3 (by simp[Region.wanted,hg,hy,undef,lp])]
  exact⟨g,hR.app0 (eX.refl w) hdk trivial⟩
 | true=>
  simp only[cond_true]at hy
  by_cases hbw:b=want
  ·rw[V6 (by simp[Region.wanted,hg,hy,hbw,lp])]
   have hA':dV F T S:=⟨fun t h=>hA.1 t (by simp[h]),fun id h=>hA.2 id (by simp[h])⟩
   have:=(h rfl hbw).run C T hA' a w ⟨g,hR⟩
   unfold iM at this
   rw[V6 (by simp[Region.wanted])]at this
   subst hbw
   have e:(true&&b==b)=true:=au
   rw[e]
   exact this
  ·rw[V3 (by simp[Region.wanted,hg,hy,hbw,lp])]
   have:(b==want)=false:=by simpa using hbw
   simp only[this,Xv,cond_false]
   exact⟨g,hR.app0 (eX.refl w) hdk trivial⟩
theorem qc {x:Cnt}{b:Bool}(h:x=bC b):x=.per (ak (bif true then .bool b else undef)):=h
def tj (op:BinOp):Value→Value→Option Value
 | .int k a,.int k' b=>match op with
  | .add=>if k=k' then some (.int k (k.wrap (a+b)))else none
  | .sub=>if k=k' then some (.int k (k.wrap (a-b)))else none
  | .mul=>if k=k' then some (.int k (k.wrap (a*b)))else none
  | .eql=>if k=k' then some (.bool (a==b))else none
  | .neq=>if k=k' then some (.bool (a != b))else none
  | .lss=>if k=k' then some (.bool (decide (a<b)))else none
  | .leq=>if k=k' then some (.bool (decide (a≤b)))else none
  | .gtr=>if k=k' then some (.bool (decide (a>b)))else none
  | .geq=>if k=k' then some (.bool (decide (a≥b)))else none
  | _=>none
 | .string a,.string b=>match op with
  | .eql=>some (.bool (a.toList==b.toList))
  | .neq=>some (.bool !(a.toList==b.toList))
  | .lss=>some (.bool (Op.bytesLess a.toList b.toList))
  | .gtr=>some (.bool !(Op.bytesLess a.toList b.toList||(a.toList==b.toList)))
  | _=>none
 | _,_=>none
theorem AC {op:BinOp}{T:TypeId}{r:Value}(h:tj op u v=some r)(w:World) :
 (do eqGuard op T x y u v;binOp op T u v).run P w=.ok r w:=by
 unfold tj at h
 split at h
 ·split at h<;>first
   | (split at h
      ·rename_i hk;subst hk;cases h;simp[eqGuard_at_int,binOp,Op.intArith,Op.intCmp]
      ·cases h)
   | cases h
 ·split at h<;>first|(cases h;simp[eqGuard_at_string,binOp,Op.stringOp])|cases h
 ·cases h
theorem rq {op:BinOp}{r:Value}(hp:Pl n o t)(ho:o.op=.binOp op ty x y ty')(hx:S.opd x=.per (ak u))(hy:S.opd y=.per (ak v))
 (h:tj op u v=some r):aw n P ops o (az x++az y) (.per (ak r)) [] S:=
 aV hp fun C T g a w hA hR=>by
  have h1:=aP (x:=x) hA (fun k h=>by simp[h]) hR hx
  have h2:=aP (x:=y) hA (fun k h=>by simp[h]) hR hy
  refine⟨r,?_,rfl⟩
  have:=AC (P:=P) (T:=ty) (x:=x) (y:=y) h w
  simp only[execOp,ho,h1,h2,Sem.run_bind]at this ⊢
  rw[this];rfl
theorem gC {op:BinOp}{k:IntKind}{z':Int}(hp:Pl n o t)(ho:o.op=.binOp op ty x y ty')(hx:S.opd x=.per (ak u))(hy:S.opd y=.per (ak v))
 (h:tj op u v=some (.int k z)) (hz:z=z'):aw n P ops o (az x++az y) (iC k z') [] S:=hz▸rq hp ho hx hy h
theorem lq {k:IntKind}{q:Int}(hp:Pl n o t)(ho:o.op=.binOp .quo ty x y ty')(hx:S.opd x=iC k p)(hy:S.opd y=iC k q)
 (hq:q≠0) (hz:k.wrap (p.tdiv q)=z):aw n P ops o (az x++az y) (iC k z) [] S:=
 aV hp fun C T g a w hA hR=>by
  have h1:=aP (x:=x) hA (fun k h=>by simp[h]) hR hx
  have h2:=aP (x:=y) hA (fun k h=>by simp[h]) hR hy
  exact⟨.int k z,by simp[execOp,ho,h1,h2,binOp,Op.intDiv,hq,hz,eqGuard_at_int],rfl⟩
theorem rr {k:IntKind}{q:Int}(hp:Pl n o t)(ho:o.op=.binOp .rem ty x y ty')(hx:S.opd x=iC k p)(hy:S.opd y=iC k q)
 (hq:q≠0) (hz:p.tmod q=z):aw n P ops o (az x++az y) (iC k z) [] S:=
 aV hp fun C T g a w hA hR=>by
  have h1:=aP (x:=x) hA (fun k h=>by simp[h]) hR hx
  have h2:=aP (x:=y) hA (fun k h=>by simp[h]) hR hy
  exact⟨.int k z,by simp[execOp,ho,h1,h2,binOp,Op.intDiv,hq,hz,eqGuard_at_int],rfl⟩
theorem yO {b:Bool}(hp:Pl n o t)(ho:o.op=.unOp .not ty x)(hx:S.opd x=bC b):aw n P ops o (az x) (bC (!b)) [] S:=
 aV hp fun C T g a w hA hR=>by
  have h1:=aP (x:=x) hA (fun k h=>by simp[h]) hR hx
  exact⟨_,by simp[execOp,ho,h1,Op.unary],rfl⟩
theorem O4 {src dst:TypeId}{k k':IntKind}(hp:Pl n o t)(ho:o.op=.convert src dst x)(hs:(P.underlying src).isSome=true)(hd:P.underlying dst=some (.int k))(hx:S.opd x=iC k' p)
 (hz:k.wrap p=z):aw n P ops o (az x) (iC k z) [] S:=
 aV hp fun C T g a w hA hR=>by
  have h1:=aP (x:=x) hA (fun k h=>by simp[h]) hR hx
  refine⟨.int k z,?_,rfl⟩
  have hik:P.intKind dst=k:=by simp[Program.intKind,hd]
  have:=run_convert_int (P:=P) w src dst k' p hs (by rw[hd,hik])
  simp only[execOp,ho,h1,Sem.run_bind,this,hik,hz]
  rfl
theorem cU (h1:-9223372036854775808≤z)(h2:z≤9223372036854775807):IntKind.i64.wrap z=z:=IntWalk.i64_in z ⟨h1,h2⟩
def Ko (v:Value):Cnt:=.per (ak v)
theorem gD {T:Nat}(h:P.cellsOf T=k)(hk:0<k)(w:World):(sizeOf T).run P w=.ok k w:=by
 unfold Program.cellsOf at h
 cases hi:P.info? T with
 | none=>rw[hi]at h;simp at h;omega
 | some i=>
  rw[run_sizeOf (w:=w) hi]
  unfold Program.cellsOf;rw[hi]at h ⊢;simp at h ⊢;exact h
def ip:TypeDesc→Bool
 | .struct _|.array _ _=>true
 | _=>false
theorem nZ {T:TypeId}(h:P.underlying T=some d)(w:World):(isAgg T).run P w=.ok (ip d) w:=by
 unfold isAgg
 rw[Sem.run_bind,run_underlying h]
 cases d<;>rfl
theorem wv {w:World}{b o:Nat}{cs:List Value}(h:∀(j:Nat)(v:Value),cs[j]?=some v→w.cell? ⟨b,o+j,none⟩=some v) :
 (loadCells ⟨b,o,none⟩ cs.length).run P w=.ok cs.toArray w:=
 run_loadCells_list w ⟨b,o,none⟩ cs (fun j v hj=>by rw[Addr.add_lit];exact h j v hj)
theorem kD {w:World}{b o:Nat}{T:TypeId}{y:Value}(hT:P.underlying T=some d)(hd:ip d=false)(h:w.cell? ⟨b,o,none⟩=some y) :
 (Instr.loadAt T (.pointer (some ⟨b,o,none⟩))).run P w=.ok y w:=by
 simp only[Instr.loadAt,Instr.sureAddr,Sem.run_bind,Sem.run_pure,Result.andThen_ok,loadVar,nZ hT,hd,WH,XC]
 simp[load,Sem.run,h]
theorem fg {w:World}{b o:Nat}{T:TypeId}{cs:List Value}(hT:P.underlying T=some d)(hd:ip d=true)(hk:P.cellsOf T=cs.length)(h0:0<cs.length)
 (h:∀(j:Nat)(v:Value),cs[j]?=some v→w.cell? ⟨b,o+j,none⟩=some v) :
 (Instr.loadAt T (.pointer (some ⟨b,o,none⟩))).run P w=.ok (.agg cs.toArray) w:=by
 simp only[Instr.loadAt,Instr.sureAddr,Sem.run_bind,Sem.run_pure,Result.andThen_ok,loadVar,nZ hT,hd,Xq,gD hk h0,wv h]
theorem dY {w:World}{f:Nat→Option Value}:∀(cs:List PV),(∀(j:Nat)(A:PV),cs[j]?=some A→∃y,f j=some y∧y.oneCell'=true∧A.p N w y) →
 ∃vs:List Value,vs.length=cs.length∧(∀(j:Nat)(v:Value),vs[j]?=some v→f j=some v)∧gW N w vs.toArray cs:=by
 intro cs
 induction cs generalizing f with
 | nil=>intro _;exact⟨[],rfl,fun j v h=>by simp at h,rfl,fun j A h=>by simp at h⟩
 | cons A cs ih=>
  intro h
  obtain⟨y,h1,h2,h3⟩:=h 0 A rfl
  obtain⟨vs,g1,g2,g3,g4⟩:=ih (f:=fun j=>f (j+1)) (fun j A' hj=>h (j+1) A' (by simpa using hj))
  refine⟨y::vs,by simp[g1],fun j v hj=>?_,by simp[g1],fun j A' hj=>?_⟩
  ·cases j with
   | zero=>simp at hj;subst hj;exact h1
   | succ j=>exact g2 j v (by simpa using hj)
  ·cases j with
   | zero=>simp at hj;subst hj;exact⟨y,au,h2,h3⟩
   | succ j=>
    obtain⟨z,q1,q2⟩:=g4 j A' (by simpa using hj)
    exact⟨z,by simpa using q1,q2⟩
theorem AE (hp:Pl n o t)(ho:o.op=.load ty x)(hT:P.underlying ty=some d)(hd:ip d=false)
 (hx:S.opd x=.per (fM cs)) (hA:cs[0]?=some A):aw n P ops o (az x) (.per A) [] S:=
 aV hp fun C T g a w hAg hR=>by
  have h:=aG (x:=x) hAg (fun k h=>h) hR
  rw[hx]at h
  obtain⟨b,of,hv,hb,hn,hc⟩:=h
  obtain⟨y,h1,h2,h3⟩:=hc 0 A hA
  rw[WW]at h1
  refine⟨y,?_,h3⟩
  simp only[execOp,ho,hv,Sem.run_bind,kD hT hd h1];rfl
theorem AF (hp:Pl n o t)(ho:o.op=.load ty x)(hT:P.underlying ty=some d)(hd:ip d=true)(hk:P.cellsOf ty=cs.length)(h0:0<cs.length)
 (hx:S.opd x=.per (fM cs)):aw n P ops o (az x) (.per (cB cs)) [] S:=
 aV hp fun C T g a w hAg hR=>by
  have h:=aG (x:=x) hAg (fun k h=>h) hR
  rw[hx]at h
  obtain⟨b,of,hv,hb,hn,hc⟩:=h
  obtain⟨vs,g1,g2,g3⟩:=dY cs hc
  refine⟨.agg vs.toArray,?_,⟨vs.toArray,rfl,g3⟩⟩
  simp only[execOp,ho,hv,Sem.run_bind,fg hT hd (by rw[hk,g1]) ab g2];rfl
theorem wV {w:World}{b:Nat}(h:∀(j:Nat)(A:PV),cs[j]?=some A→∃y,w.cell? ⟨b,q+j,none⟩=some y∧y.oneCell'=true∧A.p N w y) :
 ∀(j:Nat)(A:PV),(cs.drop off)[j]?=some A→∃y,w.cell? ⟨b,q+off+j,none⟩=some y∧y.oneCell'=true∧A.p N w y:=by
 intro j A hj
 rw[WO]at hj
 obtain⟨y,h1,h2⟩:=h (off+j) A hj
 exact⟨y,by rw[show q+off+j=q+(off+j)by omega];exact h1,h2⟩
theorem kZ {w:World}{b o f:Nat}{T:TypeId}{fs:Array Field}{fld:Field}(hT:P.underlying T=some (.struct fs))(hf:fs[f]?=some fld)(hoff:fld.offset=off)(hk:P.cellsOf fld.type=k)(h0:0<k) :
 (Instr.fieldAt T (.pointer (some ⟨b,o,none⟩)) f).run P w=.ok (.pointer (some ⟨b,o+off,none⟩)) w:=by
 unfold Instr.fieldAt
 rw[Sem.run_bind,run_underlying hT]
 simp only[Result.andThen_ok,hf,Instr.sureAddr,Sem.run_bind,Sem.run_pure,fieldPlace,gD hk h0]
 rw[V3 ab]
 simp[hoff,Addr.add_lit]
structure Rs (P:Program)(T f off:Nat):Prop where
 ex:∃fs fld k,P.underlying T=some (.struct fs)∧fs[f]?=some fld∧fld.offset=off∧P.cellsOf fld.type=k∧0<k
theorem Rs.mk' {T f:Nat}{fs:Array Field}(hT:P.underlying T=some (.struct fs))(h:(fs[f]?).map (fun x=>(x.offset,Nat.blt 0 (P.cellsOf x.type)))=some (off,true)):Rs P T f off:=by
 cases hf:fs[f]? with
 | none=>rw[hf]at h;cases h
 | some fld=>
  rw[hf]at h
  simp at h
  exact⟨fs,fld,_,hT,hf,h.1,rfl,h.2⟩
theorem AG {T f:Nat}(hp:Pl n o t)(ho:o.op=.fieldAddr T x f)(hf:Rs P T f off)(hx:S.opd x=.per (fM cs)):aw n P ops o (az x) (.per (fM (cs.drop off))) [] S:=
 aV hp fun C T g a w hAg hR=>by
  obtain⟨fs,fld,k,h1,h2,h3,h4,h5⟩:=hf.ex
  have h:=aG (x:=x) hAg (fun k h=>h) hR
  rw[hx]at h
  obtain⟨b,q,hv,hb,hn,hc⟩:=h
  refine⟨_,by simp only[execOp,ho,hv,Sem.run_bind,kZ h1 h2 h3 h4 h5];rfl,b,q+off,rfl,hb,hn,wV hc⟩
theorem AH {T f:Nat}(hp:Pl n o t)(ho:o.op=.fieldAddr T x f)(hf:Rs P T f off)(hx:S.opd x=.bpt cs):aw n P ops o (az x) (.bpt (cs.drop off)) [] S:=
 aV hp fun C T g a w hAg hR=>by
  obtain⟨fs,fld,k,h1,h2,h3,h4,h5⟩:=hf.ex
  have h:=aG (x:=x) hAg (fun k h=>h) hR
  rw[hx]at h
  obtain⟨b,q,hv,hb,hn,hc⟩:=h
  refine⟨_,by simp only[execOp,ho,hv,Sem.run_bind,kZ h1 h2 h3 h4 h5];rfl,b,q+off,rfl,hb,hn,wV hc⟩
theorem AI (hp:Pl n o t)(ho:o.op=.load ty x)(hT:P.underlying ty=some d)(hd:ip d=false)
 (hx:S.opd x=.bpt cs) (hA:cs[0]?=some A):aw n P ops o (az x) (.per A) [] S:=
 aV hp fun C T g a w hAg hR=>by
  have h:=aG (x:=x) hAg (fun k h=>h) hR
  rw[hx]at h
  obtain⟨b,of,hv,hb,hn,hc⟩:=h
  obtain⟨y,h1,h2,h3⟩:=hc 0 A hA
  rw[WW]at h1
  refine⟨y,?_,h3⟩
  simp only[execOp,ho,hv,Sem.run_bind,kD hT hd h1];rfl
theorem AJ (hp:Pl n o t)(ho:o.op=.load ty x)(hT:P.underlying ty=some d)(hd:ip d=true)(hk:P.cellsOf ty=cs.length)(h0:0<cs.length)
 (hx:S.opd x=.bpt cs):aw n P ops o (az x) (.per (cB cs)) [] S:=
 aV hp fun C T g a w hAg hR=>by
  have h:=aG (x:=x) hAg (fun k h=>h) hR
  rw[hx]at h
  obtain⟨b,of,hv,hb,hn,hc⟩:=h
  obtain⟨vs,g1,g2,g3⟩:=dY cs hc
  refine⟨.agg vs.toArray,?_,⟨vs.toArray,rfl,g3⟩⟩
  simp only[execOp,ho,hv,Sem.run_bind,fg hT hd (by rw[hk,g1]) ab g2];rfl
end
def Gh.mk1 (g:Gh)(t q:Nat)(v:Value):Gh:=⟨fun b=>if b=q then some t else g.ow b,fun i=>if i=t then q else g.ph i,fun i=>if i=t then v else g.rh i⟩
section
variable {P:Program} {n:Nat} {ops:Array Oper} {o:Oper} {F:List Nat} {S T:St} {C:Ctx} {g:Gh} {a:Act} {w w':World} {t:Nat}
theorem Kp {vr:Nat→Nat}(hR:RG C n T g a w)(hx:eX w w')(h1:w.heap.size≤q)(h2:q<w'.heap.size)(hvr:T.ver=vr)(h:∀i,vr' i=if i=t then vr t+1 else vr i)(hfx:fq t=false) :
 pa C (fun i=>i=t) vr vr' g (g.mk1 t q v) w w':=by
 subst hvr
 refine⟨hx.size,fun b hb _=>hx.block b hb,fun b hb _=>?_,fun b hb hn=>?_,fun b id e=>?_,fun i=>?_,fun i hi=>?_,fun i hi=>?_,hx.os,hx.tape,hx.output⟩
 ·show(if b=q then some t else g.ow b)=_
  rw[V3 ab]
 ·change (if b=q then some t else g.ow b)≠none at hn
  rwa [V3 ab]at hn
 ·change (if b=q then some t else g.ow b)=some id at e
  by_cases hb:b=q
  ·subst hb;exact⟨h2,.inl (W7 hR.size h1)⟩
  ·rw[V3 hb]at e
   exact⟨WY (hR.dom b id e).1 hx.size,(hR.dom b id e).2⟩
 ·rw[h]
  by_cases hi:i=t
  ·subst hi;exact .inr ⟨rfl,by rw[V6 rfl];omega⟩
  ·rw[V3 hi];exact .inl rfl
 ·rw[h]at hi
  by_cases hit:i=t
  ·subst hit;rw[V6 rfl]at hi;omega
  ·exact⟨V3 hit,V3 hit⟩
 ·have hit:i≠t:=fun e=>by subst e;rw[hfx]at hi;cases hi
  exact⟨V3 hit,V3 hit⟩
theorem Pl.nofix (h:Pl n o t)(hR:RG C n T g a w):fq t=false:=Ke (by have:=Wc h.2.2;have:=hR.nle;omega)
theorem qd (hp : Pl n o t) {c : Cnt} {B : Blk} (hF : 2 * t + 1 ∈ F) (h : ∀ C T g a w, dV F T S → RG C n T g a w → ∃ v w' q, (execOp a.eval o).run P w = .ok (.value v) w' ∧ eX w w' ∧ w.heap.size ≤ q ∧ q < w'.heap.size ∧
     ∀vr',(∀i,vr' i=if i=t then S.ver t+1 else T.ver i)→pa C (fun i=>i=t) T.ver vr' g (g.mk1 t q v) w w'→crep C vr' (g.mk1 t q v) w' v c∧brep C vr' (g.mk1 t q v) w' t B) :
 aw n P ops o F c [(t,S.ver t+1,B)] S:=by
 refine⟨?_⟩
 intro C T hA a w ⟨g,hR⟩
 obtain⟨v,w',q,h1,h2,h3,h4,h5⟩:=h C T g a w hA hR
 unfold iM
 rw[V6 (hp.wanted a)]
 unfold Oper.wp
 rw[h1,Oper.upon_value]
 have hv:=(hA.2 t hF).2
 have hvr:∀i,(T.app o.dst c [(t,S.ver t+1,B)]).ver i=if i=t then S.ver t+1 else T.ver i:=fun i=>St.app_some_ver _ _ _ _ _ _ _
 have hst:=Kp (v:=v) hR h2 h3 h4 rfl (t:=t) (vr':=(T.app o.dst c [(t,S.ver t+1,B)]).ver) (by intro i;rw[hvr i,hv]) (hp.nofix hR)
 obtain⟨h6,h7⟩:=h5 _ hvr hst
 exact⟨g.mk1 t q v,hR.app1 hp.dOk hst h6 h7⟩
theorem gF (w:World)(ob:Obj):w.heap.size<(w.alloc ob).heap.size:=by
 rw[show(w.alloc ob).heap.size=w.heap.size+1 by simp];omega
theorem qe {vs:Array Value}{e:TypeId}(hsz:vs.size=cells.length)
 (h:∀(j:Nat)(c:Cnt),cells[j]?=some c→∃y,vs[j]?=some y∧y.oneCell'=true∧crep C vr' (g.mk1 t w.heap.size v) (w.alloc (.cells vs e)) y c) :
 brep C vr' (g.mk1 t w.heap.size v) (w.alloc (.cells vs e)) t (.box e cells):=
 ⟨vs,by show(w.alloc (.cells vs e)).heap[if t=t then w.heap.size else g.ph t]?=_;rw[V6 rfl];exact heap_alloc_new w _,
  by show(if(if t=t then w.heap.size else g.ph t)=w.heap.size then some t else _)=some t;rw[V6 rfl,V6 rfl],hsz,h⟩
theorem kj {r:Nat}(h:vr' t=r)(hv:v=.pointer (some ⟨q,0,none⟩)):crep C vr' (g.mk1 t q v) w v (.ptr t r 0):=
 ⟨ab,fun _=>by rw[hv];show _=Value.pointer (some ⟨if t=t then q else g.ph t,0,none⟩);rw[V6 rfl]⟩
theorem tY {e:TypeId}(hp:Pl n o t)(ho:o.op=.box e x)(hx:S.opd x=.per (cB cs)) :
 aw n P ops o ((2*t+1)::az x) (.ptr t (S.ver t+1) 0) [(t,S.ver t+1,.box e (cs.map .per))] S:=
 qd hp au fun C T g a w hA hR=>by
  have h:=aG (x:=x) hA (fun k h=>by simp[h]) hR
  rw[hx]at h
  obtain⟨vs,hv,h1,h2⟩:=h
  refine⟨.pointer (some ⟨w.heap.size,0,none⟩),w.alloc (.cells vs e),w.heap.size,?_,(eX.refl w).alloc _,V8 _,gF _ _,fun vr' hvr hst=>⟨?_,?_⟩⟩
  ·simp only[execOp,ho,hv,Instr.box,newVar,newRow,Value.cells,newObj,Sem.run_bind,Sem.run_pure]
   rfl
  ·exact kj (by rw[hvr,V6 rfl]) rfl
  ·refine qe (by simp[h1]) (fun j c hj=>?_)
   rw[List.getElem?_map]at hj
   cases hA:cs[j]? with
   | none=>rw[hA]at hj;cases hj
   | some A=>
    rw[hA]at hj;cases hj
    obtain⟨y,g1,g2,g3⟩:=h2 j A hA
    exact⟨y,g1,g2,hst.crep (c:=.per A) g3⟩
def rt (A:PV):Prop:=∀N w v,A.p N w v→v.oneCell'=true∧v.cells=#[v]
theorem dJ (h:v.oneCell'=true)(h':v.cells=#[v]):rt (ak v):=fun _ _ _ e=>by cases e;exact⟨h,h'⟩
theorem dK:rt (cA k es):=fun _ _ _ ⟨_,_,_,_,e,_⟩=>by subst e;exact⟨rfl,rfl⟩
theorem eZ:rt (fM cs):=fun _ _ _ ⟨_,_,e,_⟩=>by subst e;exact⟨rfl,rfl⟩
theorem tZ {e:TypeId}(hp:Pl n o t)(ho:o.op=.box e x)(hx:S.opd x=.per A)(h1:rt A) :
 aw n P ops o ((2*t+1)::az x) (.ptr t (S.ver t+1) 0) [(t,S.ver t+1,.box e [.per A])] S:=
 qd hp au fun C T g a w hA hR=>by
  have h:=aG (x:=x) hA (fun k h=>by simp[h]) hR
  rw[hx]at h
  obtain⟨g1,g2⟩:=h1 _ _ _ h
  refine⟨.pointer (some ⟨w.heap.size,0,none⟩),w.alloc (.cells #[a.eval x] e),w.heap.size,?_,(eX.refl w).alloc _,V8 _,gF _ _,fun vr' hvr hst=>⟨?_,?_⟩⟩
  ·simp only[execOp,ho,Instr.box,newVar,newRow,g2,newObj,Sem.run_bind,Sem.run_pure]
   rfl
  ·exact kj (by rw[hvr,V6 rfl]) rfl
  ·refine qe rfl (fun j c hj=>?_)
   cases j with
   | zero=>simp at hj;subst hj;exact⟨_,rfl,g1,hst.crep (c:=.per A) h⟩
   | succ j=>simp at hj
theorem Kr {e:TypeId}{z:Value}(hp:Pl n o t)(ho:o.op=.alloc e)(hz:(P.info? e).bind (·.zero)=some z)(h1:z.cells.toList.all (·.oneCell')=true) :
 aw n P ops o [2*t+1] (.ptr t (S.ver t+1) 0) [(t,S.ver t+1,.box e (z.cells.toList.map Ko))] S:=
 qd hp au fun C T g a w hA hR=>by
  have hzv:(zeroValue e).run P w=.ok z w:=by
   cases hi:P.info? e with
   | none=>rw[hi]at hz;cases hz
   | some i=>
    rw[hi]at hz
    simp only[Option.bind_some]at hz
    simp[zeroValue,typeInfo,program,Sem.run,hi,hz]
  refine⟨.pointer (some ⟨w.heap.size,0,none⟩),w.alloc (.cells z.cells e),w.heap.size,?_,(eX.refl w).alloc _,V8 _,gF _ _,fun vr' hvr hst=>⟨?_,?_⟩⟩
  ·simp only[execOp,ho,Instr.alloc,newVar,newRow,newObj,Sem.run_bind,Sem.run_pure,hzv,Result.andThen_ok]
   rfl
  ·exact kj (by rw[hvr,V6 rfl]) rfl
  ·refine qe au (fun j c hj=>?_)
   rw[List.getElem?_map]at hj
   cases hv:z.cells.toList[j]? with
   | none=>rw[hv]at hj;cases hj
   | some y=>
    rw[hv]at hj;cases hj
    refine⟨y,by simpa using hv,?_,rfl⟩
    rw[WJ]at h1
    exact h1 y (WK hv)
theorem ua {e:TypeId}(hA:dV F T S)(hF:∀k∈az x,k∈F)(hF':2*id+1∈F)(hR:RG C n T g a w)(hx:S.opd x=.ptr id vr off)(hv:S.ver id=vr)(hb:S.blk id=.box e cells) :
 a.eval x=.pointer (some ⟨g.ph id,off,none⟩)∧∃cs:Array Value,w.heap[g.ph id]?=some (.cells cs e (0,0))∧g.ow (g.ph id)=some id∧cs.size=cells.length ∧
  ∀(j:Nat)(c:Cnt),cells[j]?=some c→∃y,cs[j]?=some y∧y.oneCell'=true∧crep C T.ver g w y c:=by
 have h:=aG hA hF hR
 rw[hx]at h
 have h2:=hA.2 id hF'
 have h3:=hR.blks id
 rw[h2.1,hb]at h3
 exact⟨h.2 (by rw[h2.2,hv]),h3⟩
theorem eo {w:World}{cs:Array Value}{e:TypeId}{fz:Nat×Nat}(h:w.heap[q]?=some (.cells cs e fz))(j:Nat):w.cell? ⟨q,j,none⟩=cs[j]?:=cell_of_row w q j _ _ _ h
theorem Ks {e:TypeId}{c:Cnt}(hp:Pl n o t)(ho:o.op=.load ty x)(hT:P.underlying ty=some d)(hd:ip d=false)
 (hx:S.opd x=.ptr id vr off) (hv:S.ver id=vr) (hb:S.blk id=.box e cells) (hc:cells[off]?=some c):aw n P ops o ((2*id+1)::az x) c [] S:=
 aV hp fun C T g a w hA hR=>by
  obtain⟨h1,cs,h2,_,_,h5⟩:=ua hA (fun k h=>by simp[h]) au hR hx hv hb
  obtain⟨y,g1,g2,g3⟩:=h5 off c hc
  refine⟨y,?_,g3⟩
  simp only[execOp,ho,h1,Sem.run_bind,kD (b:=g.ph id) (o:=off) hT hd (by rw[eo h2];exact g1)];rfl
def ru:List Cnt→Option (List PV)
 | []=>some []
 | .per A::l=>match ru l with
  | some r=>some (A::r)
  | none=>none
 | _=>none
theorem n8:∀{l:List Cnt} {r:List PV},ru l=some r→l=r.map .per:=by
 intro l
 induction l with
 | nil=>intro r h;cases h;rfl
 | cons c l ih=>
  intro r h
  unfold ru at h
  split at h
  ·cases ‹_::_=[]›
  ·rename_i A l' he
   cases he
   split at h
   ·rename_i r' hr;cases h;rw[ih hr];rfl
   ·cases h
  ·cases h
theorem Kt {e:TypeId}(hp:Pl n o t)(ho:o.op=.load ty x)(hT:P.underlying ty=some d)(hd:ip d=true)(hk:P.cellsOf ty=k)(h0:Nat.blt 0 k=true)
 (hx:S.opd x=.ptr id vr off) (hv:S.ver id=vr) (hb:S.blk id=.box e cells) (hl:Nat.ble (off+k) cells.length=true) (hc:ru ((cells.drop off).take k)=some As):aw n P ops o ((2*id+1)::az x) (.per (cB As)) [] S:=
 aV hp fun C T g a w hA hR=>by
  obtain⟨h1,cs,h2,_,_,h5⟩:=ua hA (fun k h=>by simp[h]) au hR hx hv hb
  have h0:=Wc h0
  have hl:=Wc hl
  have hm:=n8 hc
  have hlen:As.length=k:=by
   have:=Wx List.length hm
   simp at this;omega
  obtain⟨vs,g1,g2,g3⟩:=dY (N:=g.N C) (w:=w) (f:=fun j=>w.cell? ⟨g.ph id,off+j,none⟩) As (fun j A hj=>by
   have hcj:cells[off+j]?=some (.per A):=by
    have:((cells.drop off).take k)[j]?=some (.per A):=by rw[hm,List.getElem?_map,hj];rfl
    rw[WI]at this
    split at this
    ·rw[WO]at this;exact this
    ·cases this
   obtain⟨y,q1,q2,q3⟩:=h5 _ _ hcj
   exact⟨y,by rw[eo h2];exact q1,q2,q3⟩)
  refine⟨.agg vs.toArray,?_,⟨vs.toArray,rfl,g3⟩⟩
  simp only[execOp,ho,h1,Sem.run_bind,fg (b:=g.ph id) (o:=off) hT hd (by rw[hk,g1,hlen]) ab g2];rfl
theorem Ku {ty f:Nat}(hp:Pl n o t)(ho:o.op=.fieldAddr ty x f)(hf:Rs P ty f fo)(hx:S.opd x=.ptr id vr off)(hv:S.ver id=vr) :
 aw n P ops o ((2*id+1)::az x) (.ptr id vr (off+fo)) [] S:=
 aV hp fun C T g a w hA hR=>by
  obtain⟨fs,fld,k,h1,h2,h3,h4,h5⟩:=hf.ex
  have h:=aG (x:=x) hA (fun k h=>by simp[h]) hR
  rw[hx]at h
  have hv':=(hA.2 id au).2
  have hev:=h.2 ab
  refine⟨.pointer (some ⟨g.ph id,off+fo,none⟩),?_,⟨ab,fun _=>rfl⟩⟩
  simp only[execOp,ho,hev,Sem.run_bind,kZ (b:=g.ph id) (o:=off) h1 h2 h3 h4 h5];rfl
theorem n9 {e:TypeId}{cs cs':Array Value}(hR:RG C n T g a w)(hq:q=g.ph id)(hh:w.heap[q]?=some (.cells cs e (0,0)))(how:g.ow q=some id):pa C (fun i=>i=id) T.ver T.ver g g w (w.setRow q cs'):=by
 subst hq
 have hlt:=(hR.dom _ _ how).1
 refine⟨by simp[World.setRow],fun b hb hn=>?_,fun b _ _=>rfl,fun b _ h=>h,fun b i e=>by have:=hR.dom b i e;simpa[World.setRow]using this,fun _=>.inl rfl,fun _ _=>⟨rfl,rfl⟩,fun _ _=>⟨rfl,rfl⟩,rfl,rfl,rfl⟩
 have:b≠g.ph id:=fun e=>hn id rfl (by rw[e];exact how)
 simp[World.setRow,Array.getElem?_modify,XJ this]
end
section
variable {P:Program} {n:Nat} {ops:Array Oper} {o:Oper} {F:List Nat} {S T:St} {C:Ctx} {g:Gh} {a:Act} {w w':World} {t:Nat}
def Dw (o:Oper):Prop:=o.guard=none∧o.dst=none
theorem k7 {w:World}{e:TypeId}{cs:Array Value}(hh:w.heap[q]?=some (.cells cs e (0,0)))(hk:P.cellsOf ty=v.cells.size)(h0:0<v.cells.size)(hl:off+v.cells.size≤cs.size)
 (h1:∀u∈v.cells.toList,u.oneCell'=true) :
 (Instr.storeAt ty (.pointer (some ⟨q,off,none⟩)) v).run P w=.ok () (w.setRow q (cs.toList.take off++v.cells.toList++cs.toList.drop (off+v.cells.size)).toArray):=by
 simp only[Instr.storeAt,Instr.sureAddr,Sem.run_bind,Sem.run_pure,Result.andThen_ok,storeVar,gD hk h0]
 rw[V3 au]
 have:=run_storeCells_at (P:=P) q off e v.cells.toList 0 cs w hh (by simpa using hl) h1
 simpa using this
def kU (cells:List Cnt)(off:Nat)(l:List Cnt):List Cnt:=cells.take off++(l++cells.drop (off+l.length))
theorem qf {e:TypeId}{new:List Cnt}(hp:Dw o)(ho:o.op=.store ty x y)(hk:P.cellsOf ty=k)(h0:Nat.blt 0 k=true)
 (hx:S.opd x=.ptr id vr off) (hv:S.ver id=vr) (hb:S.blk id=.box e cells) (hl:Nat.ble (off+k) cells.length=true) (hnl:new.length=k)
 (hy:∀C T g a w,dV ((2*id+1)::(az x++az y)) T S→RG C n T g a w→(a.eval y).cells.size=k∧∀(j:Nat)(c:Cnt),new[j]?=some c→∃u,(a.eval y).cells[j]?=some u∧u.oneCell'=true∧crep C T.ver g w u c) :
 aw n P ops o ((2*id+1)::(az x++az y)) .any [(id,vr,.box e (kU cells off new))] S:=by
 refine⟨?_⟩
 intro C T hA a w ⟨g,hR⟩
 obtain⟨h1,cs,h2,h3,h4,h5⟩:=ua hA (fun k h=>by simp[h]) au hR hx hv hb
 obtain⟨hys,hyc⟩:=hy C T g a w hA hR
 have h0:=Wc h0
 have hl:=Wc hl
 have hvt:=(hA.2 id au).2
 unfold iM
 rw[V6 (by simp[Region.wanted,hp.1])]
 unfold Oper.wp
 have hone:∀u∈(a.eval y).cells.toList,u.oneCell'=true:=by
  intro u hu
  obtain⟨j,hj,rfl⟩:=List.getElem_of_mem hu
  have hj':j<new.length:=by rw[hnl,←hys];simpa using hj
  obtain⟨u',g1,g2,_⟩:=hyc j new[j] (by simp[hj'])
  have:(a.eval y).cells.toList[j]=u':=by
   have:=g1;simp at hj;rw[WS hj]at this;simpa using this
  rw[this];exact g2
 have hrun:=k7 (P:=P) (ty:=ty) (off:=off) h2 (by rw[hk,hys]) ab ab hone
 have hex:(execOp a.eval o).run P w=.ok .skip (w.setRow (g.ph id) (cs.toList.take off++(a.eval y).cells.toList++cs.toList.drop (off+(a.eval y).cells.size)).toArray):=by
  simp only[execOp,ho,h1,Sem.run_bind,hrun];rfl
 rw[hex,Oper.upon_skip]
 have hst:=n9 (cs':=(cs.toList.take off++(a.eval y).cells.toList++cs.toList.drop (off+(a.eval y).cells.size)).toArray) hR rfl h2 h3
 have hver:(T.app o.dst .any [(id,vr,.box e (kU cells off new))]).ver=T.ver:=by
  funext i
  rw[St.app_some_ver]
  split
  ·rename_i h;subst h;rw[hvt,hv]
  ·rfl
 refine⟨g,hR.app1 (c:=.any) (fun t h=>by rw[hp.2]at h;cases h) (by rw[hver];exact hst) trivial ?_⟩
 rw[hver]
 refine⟨_,setRow_heap _ _ _ _ _ _ h2,h3,?_,fun j c hj=>?_⟩
 ·simp[kU];omega
 ·unfold kU at hj
  have hta:(cells.take off).length=off:=bn
  have htb:(cs.toList.take off).length=off:=bn
  rcases Wm j off with hlt|hge
  ·rw[Wl ab,WI,V6 hlt]at hj
   obtain⟨u,q1,q2,q3⟩:=h5 j c hj
   refine⟨u,?_,q2,hst.crep q3⟩
   rw[W3,V9,Wl ab,WI,V6 hlt]
   simpa using q1
  ·rw[List.getElem?_append_right ab,hta]at hj
   rcases Wm j (off+k)with hlt|hge2
   ·rw[Wl ab]at hj
    obtain⟨u,q1,q2,q3⟩:=hyc _ c hj
    refine⟨u,?_,q2,hst.crep q3⟩
    rw[W3,V9,List.getElem?_append_right ab,htb,Wl bn]
    simpa using q1
   ·rw[List.getElem?_append_right ab,hnl,WO]at hj
    obtain⟨u,q1,q2,q3⟩:=h5 _ c hj
    refine⟨u,?_,q2,hst.crep q3⟩
    rw[W3,V9,List.getElem?_append_right ab,htb,List.getElem?_append_right bn,WO]
    simp only[W9,hys,Array.getElem?_toList]
    rw[←q1]
theorem Hr {e:TypeId}(hp:Dw o)(ho:o.op=.store ty x y)(hk:P.cellsOf ty=1)
 (hx:S.opd x=.ptr id vr off) (hv:S.ver id=vr) (hb:S.blk id=.box e cells) (hl:Nat.ble (off+1) cells.length=true) (hy:S.opd y=.per A) (h1:rt A) :
 aw n P ops o ((2*id+1)::(az x++az y)) .any [(id,vr,.box e (kU cells off [.per A]))] S:=
 qf hp ho hk rfl hx hv hb hl rfl fun C T g a w hA hR=>by
  have h:=aG (x:=y) hA (fun k h=>by simp[h]) hR
  rw[hy]at h
  obtain⟨g1,g2⟩:=h1 _ _ _ h
  rw[g2]
  refine⟨rfl,fun j c hj=>?_⟩
  cases j with
  | zero=>simp at hj;subst hj;exact⟨_,rfl,g1,h⟩
  | succ j=>simp at hj
theorem Hs {e:TypeId}(hp:Dw o)(ho:o.op=.store ty x y)(hk:P.cellsOf ty=k)(h0:Nat.blt 0 k=true)
 (hx:S.opd x=.ptr id vr off) (hv:S.ver id=vr) (hb:S.blk id=.box e cells) (hl:Nat.ble (off+k) cells.length=true) (hy:S.opd y=.per (cB As)) (hn:As.length=k) :
 aw n P ops o ((2*id+1)::(az x++az y)) .any [(id,vr,.box e (kU cells off (As.map .per)))] S:=
 qf hp ho hk h0 hx hv hb hl (by simp[hn]) fun C T g a w hA hR=>by
  have h:=aG (x:=y) hA (fun k h=>by simp[h]) hR
  rw[hy]at h
  obtain⟨vs,hv,q1,q2⟩:=h
  rw[hv]
  refine⟨by show vs.size=k;omega,fun j c hj=>?_⟩
  rw[List.getElem?_map]at hj
  cases hAj:As[j]? with
  | none=>rw[hAj]at hj;cases hj
  | some A=>
   rw[hAj]at hj;cases hj
   exact q2 j A hAj
theorem jM {w:World}{e:TypeId}{cap i:Nat}{b of:Nat}(hT:P.underlying ty=some (.slice e))(hk:P.cellsOf e=k)(h0:0<k)(hi:i<len) :
 (Instr.indexAt ty (.slice (some ⟨b,of,none⟩) len cap) (.int kk (i:Int))).run P w=.ok (.pointer (some ⟨b,of+i*k,none⟩)) w:=by
 have hel:P.elem ty=e:=by unfold Program.elem;rw[hT]
 rw[run_indexAt_slice (h:=by rw[hel];exact hT),V6 ⟨ab,ab⟩,hel,gD hk h0]
 simp[Result.andThen,Addr.add_lit]
theorem Kv {e:TypeId}{i:Nat}(hp:Pl n o t)(ho:o.op=.indexAddr ty x ix)(hT:P.underlying ty=some (.slice e))(hk:P.cellsOf e=k)(h0:Nat.blt 0 k=true)
 (hx:S.opd x=.per (cA k es)) (hi:S.opd ix=iC kk z) (hz:z=(i:Int)) (hc:es[i]?=some cs):aw n P ops o (az x++az ix) (.per (fM cs)) [] S:=
 aV hp fun C T g a w hA hR=>by
  have h:=aG (x:=x) hA (fun k h=>by simp[h]) hR
  have h2:=aP (x:=ix) hA (fun k h=>by simp[h]) hR hi
  rw[hx]at h
  obtain⟨ad,c,b,of,hv,_,_,_,h5,h6⟩:=h
  have hlt:i<es.length:=by
   rcases Wm i es.length with q|q
   ·exact q
   ·rw[Wq q]at hc;cases hc
  obtain⟨rfl,q2,q3⟩:=h5 ab
  obtain⟨q4,q5⟩:=h6 i cs hc
  refine⟨.pointer (some ⟨b,of+i*k,none⟩),?_,b,of+i*k,rfl,q2,q3,q5⟩
  subst hz
  simp only[execOp,ho,hv,h2,Sem.run_bind,jM hT hk (Wc h0) hlt];rfl
theorem DG {e:TypeId}{i:Nat}(hp:Pl n o t)(ho:o.op=.indexAddr ty x ix)(hT:P.underlying ty=some (.slice e))(hk:P.cellsOf e=k)(h0:Nat.blt 0 k=true)
 (hx:S.opd x=.bor k es) (hi:S.opd ix=iC kk z) (hz:z=(i:Int)) (hc:es[i]?=some cs):aw n P ops o (az x++az ix) (.bpt cs) [] S:=
 aV hp fun C T g a w hA hR=>by
  have h:=aG (x:=x) hA (fun k h=>by simp[h]) hR
  have h2:=aP (x:=ix) hA (fun k h=>by simp[h]) hR hi
  rw[hx]at h
  obtain⟨ad,c,b,of,hv,_,_,_,h5,h6⟩:=h
  have hlt:i<es.length:=by
   rcases Wm i es.length with q|q
   ·exact q
   ·rw[Wq q]at hc;cases hc
  obtain⟨rfl,q2,q3⟩:=h5 ab
  obtain⟨q4,q5⟩:=h6 i cs hc
  refine⟨.pointer (some ⟨b,of+i*k,none⟩),?_,b,of+i*k,rfl,q2,q3,q5⟩
  subst hz
  simp only[execOp,ho,hv,h2,Sem.run_bind,jM hT hk (Wc h0) hlt];rfl
theorem Ht {i:Nat}{c:UInt8}(hp:Pl n o t)(ho:o.op=.index ty x ix)(hT:P.underlying ty=some .string)
 (hx:S.opd x=sC s) (hi:S.opd ix=iC kk z) (hz:z=(i:Int)) (hc:s.data.toList[i]?=some c):aw n P ops o (az x++az ix) (iC .u8 (c.toNat:Int)) [] S:=
 aV hp fun C T g a w hA hR=>by
  have h1:=aP (x:=x) hA (fun k h=>by simp[h]) hR hx
  have h2:=aP (x:=ix) hA (fun k h=>by simp[h]) hR hi
  subst hz
  have hs:s[i]?=some c:=by
   have:s[i]?=s.data[i]?:=by
    by_cases h:i<s.size
    ·rw[getElem?_pos s i h,WS (by exact h)];rfl
    ·rw[getElem?_neg s i h,Array.getElem?_eq_none (by simpa using h)]
   rw[this];simpa using hc
  refine⟨.int .u8 (c.toNat:Int),?_,rfl⟩
  simp only[execOp,ho,h1,h2,Instr.index,asIntOf,Sem.run_bind,Sem.run_pure,Result.andThen_ok,run_underlying hT]
  simp[hs]
theorem uc {e:TypeId}{ad:Option Addr}{l c:Nat}(hT:P.underlying ty=some (.slice e))(w:World):(Builtin.len_ #[ty] ty' #[.slice ad l c]).run P w=.ok (.int .i64 (l:Int)) w:=by
 simp[Builtin.len_,run_underlying hT,goInt]
def kE (o:Oper)(ty:TypeId)(x:Operand):Prop:=o.op=.call { callee:=.builtin .len,args:=#[x],argTypes:=#[ty] }
theorem oc {r:Value}(ho:kE o ty x)(hx:a.eval x=v)(h:(Builtin.len_ #[ty] o.type #[v]).run P w=.ok r w):(execOp a.eval o).run P w=.ok (.value r) w:=by
 unfold kE at ho
 simp only[execOp,ho,resolve,invoke,builtin,Sem.run_bind,Sem.run_pure,Result.andThen_ok,List.map_toArray,List.map_cons,List.map_nil,hx,h]
theorem R7 {e:TypeId}(hp:Pl n o t)(ho:kE o ty x)(hT:P.underlying ty=some (.slice e))(hx:S.opd x=.per (cA k es)):aw n P ops o (az x) (iC .i64 (es.length:Int)) [] S:=
 aV hp fun C T g a w hA hR=>by
  have h:=aG (x:=x) hA (fun k h=>by simp[h]) hR
  rw[hx]at h
  obtain⟨ad,c,b,of,hv,_⟩:=h
  exact⟨_,oc ho hv (uc hT w),rfl⟩
theorem Kw {e:TypeId}(hp:Pl n o t)(ho:kE o ty x)(hT:P.underlying ty=some (.slice e))(hx:S.opd x=.bor k es):aw n P ops o (az x) (iC .i64 (es.length:Int)) [] S:=
 aV hp fun C T g a w hA hR=>by
  have h:=aG (x:=x) hA (fun k h=>by simp[h]) hR
  rw[hx]at h
  obtain⟨ad,c,b,of,hv,_⟩:=h
  exact⟨_,oc ho hv (uc hT w),rfl⟩
theorem Kx (hp:Pl n o t)(ho:kE o ty x)(hT:P.underlying ty=some .string)(hx:S.opd x=sC s):aw n P ops o (az x) (iC .i64 (s.size:Int)) [] S:=
 aV hp fun C T g a w hA hR=>by
  have h1:=aP (x:=x) hA (fun k h=>by simp[h]) hR hx
  exact⟨_,oc ho h1 (by simp[Builtin.len_,run_underlying hT,goInt]),rfl⟩
theorem nn (hA:dV F T S)(hF:∀k∈az x,k∈F)(hF':2*id+1∈F)(hR:RG C n T g a w)(hx:S.opd x=.row id vr)(hv:S.ver id=vr)(hb:S.blk id=.row e k es) :
 a.eval x=g.rh id∧brep C T.ver g w id (.row e k es):=by
 have h:=aG hA hF hR
 rw[hx]at h
 have h2:=hA.2 id hF'
 have h3:=hR.blks id
 rw[h2.1,hb]at h3
 exact⟨h.2 (by rw[h2.2,hv]),h3⟩
theorem yP (ht:∀b,b<w.heap.size→¬top b)(hR:RG C n T g a w)(h:brep C T.ver g w id (.row e k es)):eH top (g.N C) k es w (g.rh id):=by
 rcases h with⟨h1,rfl⟩|⟨cap,cs,h1,h2,h3,h4,h5,h6,h7⟩
 ·exact⟨none,0,0,0,by rw[h1];rfl,au,bz,fun _=>rfl,au,fun i cs hi=>by simp at hi⟩
 ·have hlt:=(hR.dom _ _ h3).1
  refine⟨_,cap,g.ph id,0,h1,h4,h5,au,fun _=>⟨rfl,hlt,ht _ hlt⟩,fun i ps hi=>?_⟩
  obtain⟨q1,q2⟩:=h7 i ps hi
  refine⟨q1,fun j A hj=>?_⟩
  obtain⟨y,r1,r2,r3⟩:=q2 j A hj
  exact⟨y,by rw[WF,eo h2];exact r1,r2,r3⟩
theorem Ky (hp:Pl n o t)(ho:kE o ty x)(hT:P.underlying ty=some (.slice e'))(hx:S.opd x=.row id vr)(hv:S.ver id=vr)(hb:S.blk id=.row e k es) :
 aw n P ops o ((2*id+1)::az x) (iC .i64 (es.length:Int)) [] S:=
 aV hp fun C T g a w hA hR=>by
  obtain⟨h1,h2⟩:=nn hA (fun k h=>by simp[h]) au hR hx hv hb
  obtain⟨ad,c,b,of,hv,_⟩:=yP (top:=fun _=>False) (fun _ _ h=>h) hR h2
  exact⟨_,oc ho (h1.trans hv) (uc hT w),rfl⟩
theorem DH {i:Nat}(hp:Pl n o t)(ho:o.op=.indexAddr ty x ix)(hT:P.underlying ty=some (.slice e'))(hk:P.cellsOf e'=k)(h0:Nat.blt 0 k=true)
 (hx:S.opd x=.row id vr) (hv:S.ver id=vr) (hb:S.blk id=.row e k es) (hi:S.opd ix=iC kk z) (hz:z=(i:Int)) (hlt:i<es.length):aw n P ops o ((2*id+1)::(az x++az ix)) (.ept id vr k i 0) [] S:=
 aV hp fun C T g a w hA hR=>by
  obtain⟨h1,h2⟩:=nn (x:=x) hA (fun k h=>by simp[h]) au hR hx hv hb
  have h3:=aP (x:=ix) hA (fun k h=>by simp[h]) hR hi
  have hvt:=(hA.2 id au).2
  rcases h2 with⟨_,rfl⟩|⟨cap,cs,q1,_⟩
  ·simp at hlt
  ·refine⟨.pointer (some ⟨g.ph id,0+i*k,none⟩),?_,⟨ab,fun _=>au⟩⟩
   subst hz
   simp only[execOp,ho,h1,q1,h3,Sem.run_bind,jM hT hk (Wc h0) hlt];rfl
theorem DI {ty f:Nat}{i j:Nat}(hp:Pl n o t)(ho:o.op=.fieldAddr ty x f)(hf:Rs P ty f fo)(hx:S.opd x=.ept id vr k i j)(hv:S.ver id=vr) :
 aw n P ops o ((2*id+1)::az x) (.ept id vr k i (j+fo)) [] S:=
 aV hp fun C T g a w hA hR=>by
  obtain⟨fs,fld,k',h1,h2,h3,h4,h5⟩:=hf.ex
  have h:=aG (x:=x) hA (fun k h=>by simp[h]) hR
  rw[hx]at h
  have hv':=(hA.2 id au).2
  have hev:=h.2 ab
  refine⟨.pointer (some ⟨g.ph id,i*k+j+fo,none⟩),?_,⟨ab,fun _=>by rw[Nat.add_assoc]⟩⟩
  simp only[execOp,ho,hev,Sem.run_bind,kZ (b:=g.ph id) (o:=i*k+j) h1 h2 h3 h4 h5];rfl
theorem AK {i j:Nat}(hA:dV F T S)(hF:∀k∈az x,k∈F)(hF':2*id+1∈F)(hR:RG C n T g a w)(hx:S.opd x=.ept id vr k i j)(hv:S.ver id=vr)(hb:S.blk id=.row e k es)(hi:es[i]?=some ps) :
 a.eval x=.pointer (some ⟨g.ph id,i*k+j,none⟩)∧∀(q:Nat)(A:PV),ps[q]?=some A→∃y,w.cell? ⟨g.ph id,i*k+q,none⟩=some y∧y.oneCell'=true∧A.p (g.N C) w y:=by
 have h:=aG hA hF hR
 rw[hx]at h
 have h2:=hA.2 id hF'
 have h3:=hR.blks id
 rw[h2.1,hb]at h3
 refine⟨h.2 (by rw[h2.2,hv]),fun q A hq=>?_⟩
 rcases h3 with⟨_,rfl⟩|⟨cap,cs,_,r2,_,_,_,_,r7⟩
 ·simp at hi
 ·obtain⟨y,s1,s2,s3⟩:=(r7 i ps hi).2 q A hq
  exact⟨y,by rw[eo r2];exact s1,s2,s3⟩
theorem DJ {i j:Nat}(hp:Pl n o t)(ho:o.op=.load ty x)(hT:P.underlying ty=some d)(hd:ip d=false)
 (hx:S.opd x=.ept id vr k i j) (hv:S.ver id=vr) (hb:S.blk id=.row e k es) (hi:es[i]?=some ps) (hj:ps[j]?=some A):aw n P ops o ((2*id+1)::az x) (.per A) [] S:=
 aV hp fun C T g a w hA hR=>by
  obtain⟨h1,h2⟩:=AK hA (fun k h=>by simp[h]) au hR hx hv hb hi
  obtain⟨y,g1,g2,g3⟩:=h2 j A hj
  refine⟨y,?_,g3⟩
  simp only[execOp,ho,h1,Sem.run_bind,kD (b:=g.ph id) (o:=i*k+j) hT hd g1];rfl
theorem DK {i j m:Nat}(hp:Pl n o t)(ho:o.op=.load ty x)(hT:P.underlying ty=some d)(hd:ip d=true)(hk:P.cellsOf ty=m)(h0:Nat.blt 0 m=true)
 (hx:S.opd x=.ept id vr k i j) (hv:S.ver id=vr) (hb:S.blk id=.row e k es) (hi:es[i]?=some ps) (hj:(ps.drop j).take m=As) (hl:As.length=m):aw n P ops o ((2*id+1)::az x) (.per (cB As)) [] S:=
 aV hp fun C T g a w hA hR=>by
  obtain⟨h1,h2⟩:=AK hA (fun k h=>by simp[h]) au hR hx hv hb hi
  have h0:=Wc h0
  obtain⟨vs,g1,g2,g3⟩:=dY (N:=g.N C) (w:=w) (f:=fun q=>w.cell? ⟨g.ph id,i*k+j+q,none⟩) As (fun q A hq=>by
   rw[←hj,WI]at hq
   split at hq
   ·rw[WO]at hq
    obtain⟨y,r1,r2⟩:=h2 _ A hq
    exact⟨y,by rw[Nat.add_assoc];exact r1,r2⟩
   ·cases hq)
  refine⟨.agg vs.toArray,?_,⟨vs.toArray,rfl,g3⟩⟩
  simp only[execOp,ho,h1,Sem.run_bind,fg (b:=g.ph id) (o:=i*k+j) hT hd (by rw[hk,g1,hl]) ab g2];rfl
theorem AM {c d:Cnt}(hp:Pl n o t)(ho:o.op=.extract x 0)(hx:S.opd x=.tup2 c d):aw n P ops o (az x) c [] S:=
 aV hp fun C T g a w hA hR=>by
  have h:=aG (x:=x) hA (fun k h=>by simp[h]) hR
  rw[hx]at h
  obtain⟨u,v,hv,h1,h2⟩:=h
  exact⟨u,by simp[execOp,ho,hv,Instr.extract],h1⟩
theorem AN {c d:Cnt}(hp:Pl n o t)(ho:o.op=.extract x 1)(hx:S.opd x=.tup2 c d):aw n P ops o (az x) d [] S:=
 aV hp fun C T g a w hA hR=>by
  have h:=aG (x:=x) hA (fun k h=>by simp[h]) hR
  rw[hx]at h
  obtain⟨u,v,hv,h1,h2⟩:=h
  exact⟨v,by simp[execOp,ho,hv,Instr.extract],h2⟩
theorem AO {c d e:Cnt}(hp:Pl n o t)(ho:o.op=.extract x 0)(hx:S.opd x=.tup3 c d e):aw n P ops o (az x) c [] S:=
 aV hp fun C T g a w hA hR=>by
  have h:=aG (x:=x) hA (fun k h=>by simp[h]) hR
  rw[hx]at h
  obtain⟨u,v,z,hv,h1,h2,h3⟩:=h
  exact⟨u,by simp[execOp,ho,hv,Instr.extract],h1⟩
theorem AP {c d e:Cnt}(hp:Pl n o t)(ho:o.op=.extract x 1)(hx:S.opd x=.tup3 c d e):aw n P ops o (az x) d [] S:=
 aV hp fun C T g a w hA hR=>by
  have h:=aG (x:=x) hA (fun k h=>by simp[h]) hR
  rw[hx]at h
  obtain⟨u,v,z,hv,h1,h2,h3⟩:=h
  exact⟨v,by simp[execOp,ho,hv,Instr.extract],h2⟩
theorem AQ {c d e:Cnt}(hp:Pl n o t)(ho:o.op=.extract x 2)(hx:S.opd x=.tup3 c d e):aw n P ops o (az x) e [] S:=
 aV hp fun C T g a w hA hR=>by
  have h:=aG (x:=x) hA (fun k h=>by simp[h]) hR
  rw[hx]at h
  obtain⟨u,v,z,hv,h1,h2,h3⟩:=h
  exact⟨z,by simp[execOp,ho,hv,Instr.extract],h3⟩
def jN (F:List Nat)(S:St)(x:Operand)(c:Cnt):Prop:=∀(n:Nat)(C:Ctx)(T:St)(g:Gh)(a:Act)(w:World),dV F T S→RG C n T g a w →
 crep ⟨w,fun b=>b<w.heap.size∧g.N C b,fun _=>False,g0⟩ (fun _=>0) g0 w (a.eval x) c
theorem UX {b:Nat}(h:(g0.N ⟨w,fun b=>b<w.heap.size∧g.N C b,fun _=>False,g0⟩) b):g.N C b:=by
 rcases h with h|h
 ·exact h.2
 ·exact absurd rfl h
theorem Hu (hx:S.opd x=.per A)(hF:∀k∈az x,k∈F):jN F S x (.per A):=fun n C T g a w hA hR=>by
 have h:=aG (x:=x) hA hF hR
 rw[hx]at h
 exact A.mono (V8 _) (fun _ _ _=>rfl) (fun b _ hb=>UX hb) h
theorem yQ {N':BP}(hn:∀b,N' b→N b)(h:eH top N k es w v):eH g0.M N' k es w v:=by
 obtain⟨ad,c,b,of,h1,h2,h3,h4,h5,h6⟩:=h
 refine⟨ad,c,b,of,h1,h2,h3,h4,fun h0=>⟨(h5 h0).1,(h5 h0).2.1,fun h=>h rfl⟩,fun i cs hi=>⟨(h6 i cs hi).1,fun j A hj=>?_⟩⟩
 obtain⟨y,q1,q2,q3⟩:=(h6 i cs hi).2 j A hj
 exact⟨y,q1,q2,A.mono (V8 _) (fun _ _ _=>rfl) (fun b _ hb=>hn b hb) q3⟩
theorem Hv (hx:S.opd x=.per (cA k es))(hF:∀k∈az x,k∈F):jN F S x (.bor k es):=fun n C T g a w hA hR=>by
 have h:=aG (x:=x) hA hF hR
 rw[hx]at h
 exact yQ (fun b hb=>UX hb) h
theorem Hw (hx:S.opd x=.bor k es)(hF:∀k∈az x,k∈F):jN F S x (.bor k es):=fun n C T g a w hA hR=>by
 have h:=aG (x:=x) hA hF hR
 rw[hx]at h
 exact yQ (fun b hb=>UX hb) h
theorem Hx (hx:S.opd x=.row id vr)(hv:S.ver id=vr)(hb:S.blk id=.row e k es)(hF:∀k∈az x,k∈F)(hF':2*id+1∈F):jN F S x (.bor k es):=fun n C T g a w hA hR=>by
 obtain⟨h1,h2⟩:=nn (x:=x) hA hF hF' hR hx hv hb
 rw[h1]
 exact yQ (fun b hb=>UX hb) (yP (top:=fun _=>False) (fun _ _ h=>h) hR h2)
theorem Hy (hx:S.opd x=.per (ak (.slice none 0 0)))(hF:∀k∈az x,k∈F):jN F S x (.bor k []):=fun n C T g a w hA hR=>by
 have h:=aP (x:=x) hA hF hR hx
 rw[h]
 exact⟨none,0,0,0,rfl,au,bz,fun _=>rfl,au,fun i cs hi=>by simp at hi⟩
theorem DL (hx:S.opd x=.per (ak (.slice none 0 0)))(hF:∀k∈az x,k∈F):jN F S x (.per (cA k [])):=fun n C T g a w hA hR=>by
 have h:=aP (x:=x) hA hF hR hx
 rw[h]
 exact⟨none,0,0,0,rfl,au,bz,fun _=>rfl,au,fun i cs hi=>by simp at hi⟩
inductive mw (F:List Nat)(S:St):List Operand→List Cnt→Prop
 | nil:mw F S [] []
 | cons {x:Operand} {c:Cnt} {xs:List Operand} {cs:List Cnt} (h:jN F S x c) (t:mw F S xs cs):mw F S (x::xs) (c::cs)
theorem mw.rep {cs:List Cnt}(h:mw F S xs cs)(hA:dV F T S)(hR:RG C n T g a w):qa (fun b=>b<w.heap.size∧g.N C b) w (xs.map a.eval) cs:=by
 induction h with
 | nil=>exact⟨rfl,fun i v c hi=>by simp at hi⟩
 | cons h t ih=>
  refine⟨by simp[ih.1],fun i v c hi hc=>?_⟩
  cases i with
  | zero=>
   simp at hi hc;subst hi;subst hc
   exact h n C T g a w hA hR
  | succ i=>exact ih.2 i v c (by simpa using hi) (by simpa using hc)
def ud (t v:Nat):Ret→Cnt
 | .per A=>.per A
 | .own _ _ _=>.row t v
 | .tup2 c d=>.tup2 (ud t v c) (ud t v d)
 | .tup3 c d e=>.tup3 (ud t v c) (ud t v d) (ud t v e)
def j4 (o:Oper)(f:FuncId)(xs:List Operand):Prop:=∃tys,o.op=.call { callee:=.value (.func f),args:=xs.toArray,argTypes:=tys }
theorem yR {f:FuncId}{K:Act→World→Prop}{R:Value→World→Prop}(hE:Rr P f)(ho:j4 o f xs)(h:Calls P f (xs.map a.eval).toArray w (fun e w'=>∃v,e=.returned v∧R v w'))(hk:∀v w',R v w'→K (a.put o.dst v) w') :
 o.wp P a w K (fun _ _ _=>False):=by
 obtain⟨fn,h1,h2,h3⟩:=hE
 obtain⟨tys,ho⟩:=ho
 unfold Oper.wp
 have:(execOp a.eval o).run P w=.ok (.enter f (xs.map a.eval).toArray) w:=by
  simp only[execOp,ho,resolve,Act.eval,Deferred.ofValue,Sem.run_bind,Sem.run_pure,Result.andThen_ok,invoke,callFunc,List.map_toArray]
  simp only[program,Sem.run,Result.andThen_ok,h1,h2,h3,WH,XC]
  simp
 rw[this,Oper.upon_enter]
 refine Calls.mono h ?_
 rintro e w' ⟨v,rfl,hv⟩
 exact hk v w' hv
theorem Kz {g':Gh}(hg:∀b,b<w.heap.size→g'.ow b≠none→g.ow b≠none)(hn:∀b,w.heap.size≤b→¬C.N0 b)
 (hfr:∀b,w.heap.size≤b→b<w'.heap.size→g'.ow b=none) (h:A.p (fun b=>b<w.heap.size∧g.N C b) w' v):A.p (g'.N C) w' v:=
 A.mono (V8 _) (fun _ _ _=>rfl) (fun b hb hbn=>by
  rcases Wm b w.heap.size with hlt|hge
  ·refine⟨hlt,?_⟩
   rcases hbn with q|q
   ·exact .inl q
   ·exact .inr (hg b hlt q)
  ·rcases hbn with q|q
   ·exact absurd q (hn b hge)
   ·exact absurd (hfr b hge hb) q) h
def Ret.plain:Ret→Bool
 | .per _=>true
 | .own _ _ _=>false
 | .tup2 c d=>c.plain&&d.plain
 | .tup3 c d e=>c.plain&&d.plain&&e.plain
theorem FY (hR:RG C n T g a w):∀b,w.heap.size≤b→¬C.N0 b:=fun b hb h=>by
 have:=hR.n0 b h;have:=hR.size;omega
theorem tk (hR:RG C n T g a w):∀b,w.heap.size≤b→g.ow b=none:=fun b hb=>by
 cases h:g.ow b with
 | none=>rfl
 | some id=>have:=(hR.dom b id h).1;omega
theorem wW (hR:RG C n T g a w):∀{r:Ret} {v:Value},r.plain=true→r.rep (fun b=>b<w.heap.size∧g.N C b) w w' v→crep C T.ver g w' v (ud t 0 r):=by
 intro r
 induction r with
 | per A=>intro v _ h;exact Kz (fun _ _ h=>h) (FY hR) (fun b hb _=>tk hR b hb) h
 | own e k es=>intro v h;cases h
 | tup2 c d ih1 ih2=>
  rintro v hp ⟨x,y,rfl,h1,h2⟩
  simp only[Ret.plain,Wi]at hp
  exact⟨x,y,rfl,ih1 hp.1 h1,ih2 hp.2 h2⟩
 | tup3 c d e ih1 ih2 ih3=>
  rintro v hp ⟨x,y,z,rfl,h1,h2,h3⟩
  simp only[Ret.plain,Wi]at hp
  exact⟨x,y,z,rfl,ih1 hp.1.1 h1,ih2 hp.1.2 h2,ih3 hp.2 h3⟩
theorem O5 {f:FuncId}{As:List Cnt}(hp:Pl n o t)(ho:j4 o f xs)(hf:Fn P f As r)(hpl:r.plain=true)(hg:mw F S xs As):aw n P ops o F (ud t 0 r) [] S:=by
 refine⟨?_⟩
 intro C T hA a w ⟨g,hR⟩
 unfold iM
 rw[V6 (hp.wanted a)]
 refine yR hf.ent ho (hf.run _ w (xs.map a.eval) (fun b h=>h.1) (hg.rep hA hR)) ?_
 rintro v w' ⟨hx,hr⟩
 exact⟨g,hR.app0 hx hp.dOk (wW hR hpl hr)⟩
end
def Gh.mkN (g:Gh)(t:Nat)(v:Value):Gh:=⟨g.ow,g.ph,fun i=>if i=t then v else g.rh i⟩
section
variable {P:Program} {n:Nat} {ops:Array Oper} {o:Oper} {F:List Nat} {S T:St} {C:Ctx} {g:Gh} {a:Act} {w w':World} {t:Nat}
theorem od (hR:RG C n T g a w)(hx:eX w w')(h:∀i,vr' i=if i=t then T.ver t+1 else T.ver i)(hfx:fq t=false):pa C (fun i=>i=t) T.ver vr' g (g.mkN t v) w w':=by
 refine⟨hx.size,fun b hb _=>hx.block b hb,fun _ _ _=>rfl,fun _ _ h=>h,fun b id e=>⟨WY (hR.dom b id e).1 hx.size,(hR.dom b id e).2⟩,fun i=>?_,fun i hi=>?_,fun i hi=>?_,hx.os,hx.tape,hx.output⟩
 ·rw[h]
  by_cases hi:i=t
  ·subst hi;exact .inr ⟨rfl,by rw[V6 rfl];omega⟩
  ·rw[V3 hi];exact .inl rfl
 ·rw[h]at hi
  by_cases hit:i=t
  ·subst hit;rw[V6 rfl]at hi;omega
  ·exact⟨rfl,V3 hit⟩
 ·exact⟨rfl,V3 (fun e=>by subst e;rw[hfx]at hi;cases hi)⟩
theorem KA (hR:RG C n T g a w)(hx:eX w w')(hvr:∀i,vr' i=if i=t then T.ver t+1 else T.ver i)(hfx:fq t=false)
 (h:(Ret.own e k es).rep (fun b=>b<w.heap.size∧g.N C b) w w' v) :
 ∃g',pa C (fun i=>i=t) T.ver vr' g g' w w'∧g'.rh t=v∧brep C vr' g' w' t (.row e k es):=by
 rcases h with⟨h1,h2⟩|⟨q,cap,cs,h1,h2,h3,h4,h5,h6,h7⟩
 ·exact⟨g.mkN t v,od hR hx hvr hfx,V6 rfl,.inl ⟨by show(if t=t then v else _)=_;rw[V6 rfl];exact h1,h2⟩⟩
 ·have hq:q<w'.heap.size:=(Array.getElem?_eq_some_iff.1 h3).1
  have hst:=Kp (v:=v) (w':=w') hR hx h2 hq rfl hvr hfx
  have hph:(g.mk1 t q v).ph t=q:=V6 rfl
  have hrh:(g.mk1 t q v).rh t=v:=V6 rfl
  refine⟨g.mk1 t q v,hst,hrh,.inr ⟨cap,cs,by rw[hrh,hph];exact h1,by rw[hph];exact h3,by rw[hph];exact V6 rfl,h4,h5,h6,fun i ps hi=>?_⟩⟩
  obtain⟨r1,r2⟩:=h7 i ps hi
  refine⟨r1,fun j A hj=>?_⟩
  obtain⟨y,s1,s2,s3⟩:=r2 j A hj
  refine⟨y,s1,s2,?_⟩
  refine A.mono (V8 _) (fun _ _ _=>rfl) (fun b hb hbn=>?_) s3
  rcases Wm b w.heap.size with hlt|hge
  ·exact .inl ⟨hlt,hst.n b hlt hbn⟩
  ·rcases hbn with hbn|hbn
   ·exact absurd hbn (FY hR b hge)
   ·refine .inr ?_
    change (if b=q then some t else g.ow b)≠none at hbn
    by_cases hbq:b=q
    ·exact hbq
    ·rw[V3 hbq,tk hR b hge]at hbn;exact absurd rfl hbn
theorem AR {f:FuncId}{As:List Cnt}(hp:Pl n o t)(ho:j4 o f xs)(hf:Fn P f As (.own e k es))(hg:mw F S xs As)(hF:2*t+1∈F) :
 aw n P ops o F (.row t (S.ver t+1)) [(t,S.ver t+1,.row e k es)] S:=by
 refine⟨?_⟩
 intro C T hA a w ⟨g,hR⟩
 unfold iM
 rw[V6 (hp.wanted a)]
 refine yR hf.ent ho (hf.run _ w (xs.map a.eval) (fun b h=>h.1) (hg.rep hA hR)) ?_
 rintro v w' ⟨hx,hr⟩
 have hvt:=(hA.2 t hF).2
 have hvr:∀i,(T.app o.dst (.row t (S.ver t+1)) [(t,S.ver t+1,.row e k es)]).ver i=if i=t then T.ver t+1 else T.ver i:=fun i=>by rw[St.app_some_ver,hvt]
 obtain⟨g',h1,h2,h3⟩:=KA hR hx hvr (hp.nofix hR) hr
 exact⟨g',hR.app1 hp.dOk h1 ⟨by rw[hvr,V6 rfl,hvt];exact V8 _,fun _=>h2.symm⟩ h3⟩
theorem yS {f:FuncId}{As:List Cnt}(hp:Pl n o t)(ho:j4 o f xs)(hf:Fn P f As (.tup2 (.own e k es) (.per (ak u))))(hg:mw F S xs As)(hF:2*t+1∈F) :
 aw n P ops o F (.tup2 (.row t (S.ver t+1)) (.per (ak u))) [(t,S.ver t+1,.row e k es)] S:=by
 refine⟨?_⟩
 intro C T hA a w ⟨g,hR⟩
 unfold iM
 rw[V6 (hp.wanted a)]
 refine yR hf.ent ho (hf.run _ w (xs.map a.eval) (fun b h=>h.1) (hg.rep hA hR)) ?_
 rintro v w' ⟨hx,x,y,rfl,hr,hu⟩
 have hvt:=(hA.2 t hF).2
 have hvr:∀i,(T.app o.dst (.tup2 (.row t (S.ver t+1)) (.per (ak u))) [(t,S.ver t+1,.row e k es)]).ver i=if i=t then T.ver t+1 else T.ver i:=fun i=>by rw[St.app_some_ver,hvt]
 obtain⟨g',h1,h2,h3⟩:=KA hR hx hvr (hp.nofix hR) hr
 exact⟨g',hR.app1 hp.dOk h1 ⟨x,y,rfl,⟨by rw[hvr,V6 rfl,hvt];exact V8 _,fun _=>h2.symm⟩,hu⟩ h3⟩
def DM (F:List Nat)(S:St)(x:Operand)(k:Nat)(ns:List (List PV)):Prop:=∀(n:Nat)(C:Ctx)(T:St)(g:Gh)(a:Act)(w:World),dV F T S→RG C n T g a w →
 eH (fun _=>False) (g.N C) k ns w (a.eval x)
theorem AU {top':BP}(ht:∀b,top' b→top b)(h:eH top N k es w v):eH top' N k es w v:=
 eH.mono (V8 _) (fun _ _ _=>rfl) (fun _ _ _=>rfl) (fun b _ hb=>ht b hb) (fun _ _ h=>h) h
theorem O6 (hx:S.opd x=.per (cA k ns))(hF:∀k∈az x,k∈F):DM F S x k ns:=fun n C T g a w hA hR=>by
 have h:=aG (x:=x) hA hF hR
 rw[hx]at h
 exact AU (fun _ h=>h.elim) h
theorem O7 (hx:S.opd x=.bor k ns)(hF:∀k∈az x,k∈F):DM F S x k ns:=fun n C T g a w hA hR=>by
 have h:=aG (x:=x) hA hF hR
 rw[hx]at h
 exact AU (fun _ h=>h.elim) h
theorem O8 (hx:S.opd x=.row id vr)(hv:S.ver id=vr)(hb:S.blk id=.row e k es)(hF:∀k∈az x,k∈F)(hF':2*id+1∈F):DM F S x k es:=fun n C T g a w hA hR=>by
 obtain⟨h1,h2⟩:=nn (x:=x) hA hF hF' hR hx hv hb
 rw[h1];exact yP (fun _ _ h=>h) hR h2
theorem Hz : ∀ {es : List (List PV)} {b of : Nat}, (∀ (i : Nat) (cs : List PV), es[i]? = some cs → cs.length = k ∧ ∀ (j : Nat) (A : PV), cs[j]? = some A →
     ∃y,w.cell? ⟨b,of+i*k+j,none⟩=some y∧y.oneCell'=true∧A.p N w y) →
 ∃vs:List Value,vs.length=es.length*k∧(∀(j:Nat)(u:Value),vs[j]?=some u→w.cell? ⟨b,of+j,none⟩=some u)∧(∀u∈vs,u.oneCell'=true) ∧
  ∀(i:Nat)(cs:List PV),es[i]?=some cs→cs.length=k∧∀(j:Nat)(A:PV),cs[j]?=some A→∃y,vs[i*k+j]?=some y∧y.oneCell'=true∧A.p N w y:=by
 intro es
 induction es with
 | nil=>intro b of _;exact⟨[],au,fun j u h=>by simp at h,au,fun i cs h=>by simp at h⟩
 | cons cs es ih=>
  intro b of h
  obtain⟨h0,h1⟩:=h 0 cs rfl
  obtain⟨us,g1,g2,g3⟩:=dY (N:=N) (w:=w) (f:=fun j=>w.cell? ⟨b,of+j,none⟩) cs (fun j A hj=>by
   obtain⟨y,q1,q2⟩:=h1 j A hj
   exact⟨y,by simpa using q1,q2⟩)
  obtain⟨vs,r1,r2,r3,r4⟩:=ih (b:=b) (of:=of+k) (fun i cs' hi=>by
   obtain⟨q1,q2⟩:=h (i+1) cs' (by simpa using hi)
   refine⟨q1,fun j A hj=>?_⟩
   obtain⟨y,s1,s2⟩:=q2 j A hj
   exact⟨y,by rw[show of+k+i*k+j=of+(i+1)*k+j by rw[WU];omega];exact s1,s2⟩)
  have hul:us.length=k:=ab
  refine⟨us++vs,by simp[hul,r1,WU,Nat.add_comm],fun j u hj=>?_,fun u hu=>?_,fun i cs' hi=>?_⟩
  ·rcases Wm j k with hlt|hge
   ·rw[Wl ab]at hj;exact g2 j u hj
   ·rw[List.getElem?_append_right ab,hul]at hj
    have:=r2 _ u hj
    rw[show of+k+(j-k)=of+j by omega]at this;exact this
  ·rcases Wz.1 hu with q|q
   ·obtain⟨j,hj,rfl⟩:=List.getElem_of_mem q
    obtain⟨y,s1,s2,_⟩:=g3.2 j cs[j] au
    have:us[j]=y:=by simpa[hj]using s1
    rw[this];exact s2
   ·exact r3 u q
  ·cases i with
   | zero=>
    simp at hi;subst hi
    refine⟨h0,fun j A hj=>?_⟩
    obtain⟨y,s1,s2⟩:=g3.2 j A hj
    have hjl:j<us.length:=by
     rcases Wm j us.length with q|q
     ·exact q
     ·rw[Wq ab]at hj;cases hj
    exact⟨y,by rw[Nat.zero_mul,WF,Wl hjl];simpa using s1,s2⟩
   | succ i=>
    obtain⟨q1,q2⟩:=r4 i cs' (by simpa using hi)
    refine⟨q1,fun j A hj=>?_⟩
    obtain⟨y,s1,s2⟩:=q2 j A hj
    exact⟨y,by rw[List.getElem?_append_right (by rw[WU];omega),hul,show(i+1)*k+j-k=i*k+j by rw[WU];omega];exact s1,s2⟩
def qg (o:Oper)(ty:TypeId)(s x:Operand):Prop:=o.op=.call { callee:=.builtin .append,args:=#[s,x],argTypes:=#[ty,ty] }
theorem O9 {s:Operand}{r:Value}(ho:qg o ty s x)(hs:a.eval s=u)(hx:a.eval x=v)(h:(Builtin.append_ #[ty,ty] o.type #[u,v]).run P w=.ok r w'):(execOp a.eval o).run P w=.ok (.value r) w':=by
 unfold qg at ho
 simp only[execOp,ho,resolve,invoke,builtin,Sem.run_bind,Sem.run_pure,Result.andThen_ok,List.map_toArray,List.map_cons,List.map_nil,hs,hx,h]
theorem HC (hb:brep C T.ver g w id (.row e k es)):∃xs:List Value,w.ownsRow 0 e k (g.rh id) es.length xs ∧
 ∀(i:Nat)(cs:List PV),es[i]?=some cs→cs.length=k∧∀(j:Nat)(A:PV),cs[j]?=some A→∃y,xs[i*k+j]?=some y∧y.oneCell'=true∧A.p (g.N C) w y:=by
 rcases hb with⟨q1,rfl⟩|⟨cap,cs,q1,q2,q3,q4,q5,q6,q7⟩
 ·exact⟨[],⟨au,.inl ⟨q1,rfl⟩⟩,fun i cs h=>by simp at h⟩
 ·have hmul:es.length*k≤cap*k:=WQ k q4
  refine⟨cs.toList.take (es.length*k),⟨bn,.inr ⟨g.ph id,cap,cs,q1,Wa _,q2,q4,q5,q6,rfl⟩⟩,fun i ps hi=>?_⟩
  obtain⟨r1,r2⟩:=q7 i ps hi
  refine⟨r1,fun j A hj=>?_⟩
  obtain⟨y,t1,t2⟩:=r2 j A hj
  have hil:i<es.length:=by
   rcases Wm i es.length with q|q
   ·exact q
   ·rw[Wq q]at hi;cases hi
  have hjl:j<k:=by
   rcases Wm j ps.length with q|q
   ·omega
   ·rw[Wq q]at hj;cases hj
  have:i*k+j<es.length*k:=by
   have:=WQ k (show i+1≤es.length from hil)
   rw[WU]at this;omega
  exact⟨y,by rw[WI,V6 this];simpa using t1,t2⟩
theorem Pa (hb:brep C T.ver g w id (.row e k es)):∀q,(g.rh id).ownBlock=some q→g.ow q=some id∧q=g.ph id:=by
 intro q hq
 rcases hb with⟨q1,_⟩|⟨cap,cs,q1,q2,q3,_⟩
 ·rw[q1]at hq;cases hq
 ·rw[q1]at hq;cases hq;exact⟨q3,rfl⟩
theorem Pb {m:Nat}{v':Value}{xs news:List Value}(hm:ns.length=m)(hR:RG C n T g a w)(hb:brep C T.ver g w id (.row e k es))
 (how:w.ownsRow 0 e k (g.rh id) es.length xs)
 (hxs:∀(i:Nat)(cs:List PV),es[i]?=some cs→cs.length=k∧∀(j:Nat)(A:PV),cs[j]?=some A→∃y,xs[i*k+j]?=some y∧y.oneCell'=true∧A.p (g.N C) w y)
 (n4:∀(i:Nat)(cs:List PV),ns[i]?=some cs→cs.length=k∧∀(j:Nat)(A:PV),cs[j]?=some A→∃y,news[i*k+j]?=some y∧y.oneCell'=true∧A.p (g.N C) w y)
 (r2:w'.ownsRow 0 e k v' (es.length+m) (xs++news)) (r3:w.grownBy w' (g.rh id).ownBlock) (r4:v'.ownBlock=(g.rh id).ownBlock∨∀q,v'.ownBlock=some q→w.heap.size≤q)
 (hfx:fq id=false) (hvr:∀i,vr' i=if i=id then T.ver id+1 else T.ver i):∃g',pa C (fun i=>i=id) T.ver vr' g g' w w'∧g'.rh id=v'∧brep C vr' g' w' id (.row e k (es++ns)):=by
 subst hm
 have hown_blk:=Pa hb
 have hlen2:(es++ns).length=es.length+ns.length:=au
 have hheap:∀b,b<w.heap.size→g.ow b≠some id→w'.heap[b]?=w.heap[b]?:=fun b hb hne=>r3.block b hb (fun e=>hne (hown_blk b e.symm).1)
 have hver:∀j,vr' j=T.ver j∨(j=id∧T.ver j<vr' j):=fun j=>by
  rw[hvr]
  by_cases hj:j=id
  ·subst hj;exact .inr ⟨rfl,by rw[V6 rfl];omega⟩
  ·rw[V3 hj];exact .inl rfl
 have helems:∀{g':Gh},pa C (fun i=>i=id) T.ver vr' g g' w w'→∀(i:Nat)(ps:List PV),(es++ns)[i]?=some ps→ps.length=k∧∀(j:Nat)(A:PV),ps[j]?=some A→∃y,(xs++news)[i*k+j]?=some y∧y.oneCell'=true∧A.p (g'.N C) w' y:=by
  intro g' hst i ps hi
  have hxl:xs.length=es.length*k:=how.1
  rcases Wm i es.length with hlt|hge
  ·rw[Wl hlt]at hi
   obtain⟨q1,q2⟩:=hxs i ps hi
   refine⟨q1,fun j A hj=>?_⟩
   obtain⟨y,t1,t2,t3⟩:=q2 j A hj
   have:i*k+j<xs.length:=by
    rcases Wm (i*k+j) xs.length with q|q
    ·exact q
    ·rw[Wq q]at t1;cases t1
   exact⟨y,by rw[Wl this];exact t1,t2,A.mono hst.sz hst.keepN hst.n t3⟩
  ·rw[List.getElem?_append_right hge]at hi
   obtain⟨q1,q2⟩:=n4 _ ps hi
   refine⟨q1,fun j A hj=>?_⟩
   obtain⟨y,t1,t2,t3⟩:=q2 j A hj
   have hm:i*k=es.length*k+(i-es.length)*k:=by rw[←XH];congr 1;omega
   exact⟨y,by rw[List.getElem?_append_right ab,hxl,show i*k+j-es.length*k=(i-es.length)*k+j by omega];exact t1,t2,A.mono hst.sz hst.keepN hst.n t3⟩
 rcases r2.2 with⟨hv',hn0⟩|⟨q,cap,cur,hv',_,hh,hle,hcm,hcs,htk⟩
 ·-- nothing at all
  have hst:pa C (fun i=>i=id) T.ver vr' g (g.mkN id v') w w':=by
   refine⟨r3.size,fun b hb hne=>hheap b hb (hne id rfl),fun _ _ _=>rfl,fun _ _ h=>h,fun b i e=>⟨WY (hR.dom b i e).1 r3.size,(hR.dom b i e).2⟩,hver,fun i hi=>?_,fun i hi=>⟨rfl,V3 (fun e=>by subst e;rw[hfx]at hi;cases hi)⟩,r3.os,r3.tape,r3.output⟩
   by_cases hid:i=id
   ·subst hid;rw[hvr,V6 rfl]at hi;omega
   ·exact⟨rfl,V3 hid⟩
  refine⟨_,hst,V6 rfl,.inl ⟨by show(if id=id then v' else _)=_;rw[V6 rfl];exact hv',?_⟩⟩
  have h0:es.length=0∧ns.length=0:=ab
  rw[Wf h0.1,Wf h0.2];rfl
 ·have hq:q<w'.heap.size:=(Array.getElem?_eq_some_iff.1 hh).1
  have hqq:(g.ow q=some id)∨w.heap.size≤q:=by
   have hvb:v'.ownBlock=some q:=by rw[hv'];rfl
   rcases r4 with r|r
   ·exact .inl (hown_blk q (by rw[←r];exact hvb)).1
   ·exact .inr (r q hvb)
  have hst:pa C (fun i=>i=id) T.ver vr' g (g.mk1 id q v') w w':=by
   refine⟨r3.size,fun b hb hne=>hheap b hb (hne id rfl),fun b hb hne=>?_,fun b hb hn=>?_,fun b i e=>?_,hver,fun i hi=>?_,fun i hi=>⟨V3 (fun e=>by subst e;rw[hfx]at hi;cases hi),V3 (fun e=>by subst e;rw[hfx]at hi;cases hi)⟩,r3.os,r3.tape,r3.output⟩
   ·show(if b=q then some id else g.ow b)=_
    refine V3 (fun e=>?_)
    subst e
    rcases hqq with r|r
    ·exact hne id rfl r
    ·omega
   ·change (if b=q then some id else g.ow b)≠none at hn
    by_cases e:b=q
    ·subst e
     rcases hqq with r|r
     ·rw[r];simp
     ·omega
    ·rwa [V3 e]at hn
   ·change (if b=q then some id else g.ow b)=some i at e
    by_cases e':b=q
    ·subst e'
     rw[V6 rfl]at e;cases e
     refine⟨hq,?_⟩
     rcases hqq with r|r
     ·exact(hR.dom _ _ r).2
     ·exact .inl (W7 hR.size r)
    ·rw[V3 e']at e
     exact⟨WY (hR.dom b i e).1 r3.size,(hR.dom b i e).2⟩
   ·by_cases hid:i=id
    ·subst hid;rw[hvr,V6 rfl]at hi;omega
    ·exact⟨V3 hid,V3 hid⟩
  have hph:(g.mk1 id q v').ph id=q:=V6 rfl
  have hrh:(g.mk1 id q v').rh id=v':=V6 rfl
  refine⟨_,hst,hrh,.inr ⟨cap,cur,by rw[hrh,hph,hlen2];exact hv',by rw[hph];exact hh,by rw[hph];exact V6 rfl,ab,hcm,hcs,fun i ps hi=>?_⟩⟩
  obtain⟨q1,q2⟩:=helems hst i ps hi
  refine⟨q1,fun j A hj=>?_⟩
  obtain⟨y,t1,t2⟩:=q2 j A hj
  rw[←htk,WI]at t1
  split at t1
  ·exact⟨y,by simpa using t1,t2⟩
  ·cases t1
theorem Pd {ty ty':Nat}(hT:TI P ty e k bytes)(hk:0<k)(hR:RG C n T g a w)(hfx:fq id=false)(hb:brep C T.ver g w id (.row e k es))(hsrc:eH (fun _=>False) (g.N C) k ns w v)
 (hlen:es.length+ns.length≤maxLen) (hby:(es.length+ns.length)*bytes≤140737488355328) :
 ∃v' w',(Builtin.append_ #[ty,ty] ty' #[g.rh id,v]).run P w=.ok v' w'∧∀{vr':Nat→Nat},(∀i,vr' i=if i=id then T.ver id+1 else T.ver i)→∃g',pa C (fun i=>i=id) T.ver vr' g g' w w'∧g'.rh id=v'∧brep C vr' g' w' id (.row e k (es++ns)):=by
 obtain⟨i,z,hi,hz,h1,h2,h3⟩:=hT.info
 obtain⟨ad,c,b,of,rfl,s2,s3,s4,s5,s6⟩:=hsrc
 obtain⟨news,n1,n2,n3,n4⟩:=Hz s6
 obtain⟨xs,how,hxs⟩:=HC hb
 have main:∃v' w',(Builtin.append_ #[ty,ty] ty' #[g.rh id,.slice ad ns.length c]).run P w=.ok v' w'∧w'.ownsRow 0 e k v' (es.length+ns.length) (xs++news)∧w.grownBy w' (g.rh id).ownBlock∧(v'.ownBlock=(g.rh id).ownBlock∨v'.ownBlock=some w.heap.size):=by
  cases ad with
  | none=>
   have hns:ns=[]:=by
    cases ns with
    | nil=>rfl
    | cons x l=>have:=(s5 au).1;cases this
   subst hns
   obtain rfl:=s4 rfl
   have hn:news=[]:=Wf (by simpa using n1)
   subst hn
   refine⟨g.rh id,w,run_append_owned_none (P:=P) (w:=w) 0 ty ty' e i k hT.und hi _ _ _ how,by simpa using how,⟨rfl,rfl,rfl,V8 _,fun _ _ _=>rfl⟩,.inl rfl⟩
  | some ad=>
   have hcell:∀(j:Nat)(u:Value),news[j]?=some u→w.cell? (ad.add j)=some u:=by
    intro j u hj
    have hjl:j<news.length:=by
     rcases Wm j news.length with q|q
     ·exact q
     ·rw[Wq q]at hj;cases hj
    have hn0:0<ns.length:=by
     rcases W6 ns.length with q|q
     ·rw[n1,q,Nat.zero_mul]at hjl;omega
     ·exact q
    have hade:=(s5 hn0).1
    simp at hade;subst hade
    rw[Addr.add_lit];exact n2 j u hj
   obtain⟨v',w',r1,r2,r3,_,r5⟩:=run_append_own_at (P:=P) w 0 ty ty' e i z k bytes hT.und hi hz h1 h2 h3 hk (g.rh id) es.length xs how ad ns.length c news n1 hcell n3 hlen hby (Wa _)
   exact⟨v',w',r1,r2,r3,r5⟩
 obtain⟨v',w',r1,r2,r3,r4⟩:=main
 refine⟨v',w',r1,fun {vr'} hvr=>Pb rfl hR hb how hxs n4 r2 r3 ?_ hfx hvr⟩
 rcases r4 with r|r
 ·exact .inl r
 ·exact .inr (fun q hq=>by rw[r]at hq;cases hq;exact V8 _)
theorem HG {s:Operand}(hp:Pl n o t)(ho:qg o ty s x)(hT:TI P ty e k bytes)(hk:Nat.blt 0 k=true)
 (hs:S.opd s=.row id vr) (hv:S.ver id=vr) (hb:S.blk id=.row e k es) (hx:DM ((2*id+1)::F) S x k ns) (hF:∀k∈az s,k∈F)
 (hlen:es.length+ns.length≤maxLen) (hby:(es.length+ns.length)*bytes≤140737488355328) (hfx:fq id=false:=by rfl) :
 aw n P ops o ((2*id+1)::F) (.row id (vr+1)) [(id,vr+1,.row e k (es++ns))] S:=by
 refine⟨?_⟩
 intro C T hA a w ⟨g,hR⟩
 obtain⟨h1,h2⟩:=nn (x:=s) hA (fun k h=>by simp[hF k h]) au hR hs hv hb
 have hvt:=(hA.2 id au).2
 obtain⟨v',w',r1,r2⟩:=Pd (P:=P) (ty':=o.type) hT (Wc hk) hR hfx h2 (hx n C T g a w hA hR) hlen hby
 unfold iM
 rw[V6 (hp.wanted a)]
 unfold Oper.wp
 rw[O9 ho h1 rfl r1,Oper.upon_value]
 have hvr:∀i,(T.app o.dst (.row id (vr+1)) [(id,vr+1,.row e k (es++ns))]).ver i=if i=id then T.ver id+1 else T.ver i:=fun i=>by rw[St.app_some_ver,hvt,hv]
 obtain⟨g',s1,s2,s3⟩:=r2 hvr
 exact⟨g',hR.app1 hp.dOk s1 ⟨by rw[hvr,V6 rfl,hvt,hv];exact V8 _,fun _=>s2.symm⟩ s3⟩
end
def Cnt.rn (vr:Nat→Nat):Cnt→Cnt
 | .row id v=>bif Nat.beq v (vr id)then .row id 0 else .any
 | .ptr id v off=>bif Nat.beq v (vr id)then .ptr id 0 off else .any
 | .ept id v k i j=>bif Nat.beq v (vr id)then .ept id 0 k i j else .any
 | .vw id v k i j=>bif Nat.beq v (vr id)then .vw id 0 k i j else .any
 | .per A=>.per A
 | .bor k es=>.bor k es
 | .bpt cs=>.bpt cs
 | .tup2 c d=>.tup2 (c.rn vr) (d.rn vr)
 | .tup3 c d e=>.tup3 (c.rn vr) (d.rn vr) (e.rn vr)
 | .clo1 f c=>.clo1 f (c.rn vr)
 | .clo2 f c d=>.clo2 f (c.rn vr) (d.rn vr)
 | .clo3 f c d e=>.clo3 f (c.rn vr) (d.rn vr) (e.rn vr)
 | .aggN=>.aggN
 | .aggK c r=>.aggK (c.rn vr) (r.rn vr)
 | .grd _ _=>.any
 | .any=>.any
def Blk.rn (vr:Nat→Nat):Blk→Blk
 | .none=>.none
 | .box e cells=>.box e (cells.map (Cnt.rn vr))
 | .row e k es=>.row e k es
 | .mix e es c=>.mix e es (c.rn vr)
 | .obj A=>.obj A
def wX (t:Nat):List (Nat×Cnt)→Cnt
 | []=>.any
 | (t',c)::l=>bif Nat.beq t t' then c else wX t l
def eO (i:Nat):List (Nat×Blk)→Blk
 | []=>.none
 | (i',c)::l=>bif Nat.beq i i' then c else eO i l
def ay (sl:List (Nat×Cnt))(bl:List (Nat×Blk)):St:=⟨fun t=>wX t sl,fun i=>eO i bl,fun _=>0⟩
section
variable {P:Program} {n:Nat} {S T:St} {C:Ctx} {g:Gh} {a:Act} {w w':World}
theorem yT {vr:Nat→Nat}{c:Cnt}:∀{v:Value},crep C vr g w v c→crep C (fun _=>0) g w v (c.rn vr):=by
 induction c with
 | row id r=>
  intro v h
  cases hb:Nat.beq r (vr id)with
  | true=>simp only[Cnt.rn,hb,cond_true];exact⟨V8 _,fun _=>h.2 (bq.1 hb)⟩
  | false=>simp only[Cnt.rn,hb,cond_false];trivial
 | ptr id r off=>
  intro v h
  cases hb:Nat.beq r (vr id)with
  | true=>simp only[Cnt.rn,hb,cond_true];exact⟨V8 _,fun _=>h.2 (bq.1 hb)⟩
  | false=>simp only[Cnt.rn,hb,cond_false];trivial
 | ept id r k i j=>
  intro v h
  cases hb:Nat.beq r (vr id)with
  | true=>simp only[Cnt.rn,hb,cond_true];exact⟨V8 _,fun _=>h.2 (bq.1 hb)⟩
  | false=>simp only[Cnt.rn,hb,cond_false];trivial
 | vw id r k i j=>
  intro v h
  cases hb:Nat.beq r (vr id)with
  | true=>simp only[Cnt.rn,hb,cond_true];exact⟨V8 _,fun _=>h.2 (bq.1 hb)⟩
  | false=>simp only[Cnt.rn,hb,cond_false];trivial
 | per A=>exact fun h=>h
 | bor k es=>exact fun h=>h
 | bpt cs=>exact fun h=>h
 | any=>exact fun _=>trivial
 | grd b c ih=>exact fun _=>trivial
 | tup2 c d ih1 ih2=>rintro v ⟨x,y,e,h1,h2⟩;exact⟨x,y,e,ih1 h1,ih2 h2⟩
 | tup3 c d e ih1 ih2 ih3=>rintro v ⟨x,y,z,e,h1,h2,h3⟩;exact⟨x,y,z,e,ih1 h1,ih2 h2,ih3 h3⟩
 | clo1 f c ih=>rintro v ⟨x,e,h1⟩;exact⟨x,e,ih h1⟩
 | clo2 f c d ih1 ih2=>rintro v ⟨x,y,e,h1,h2⟩;exact⟨x,y,e,ih1 h1,ih2 h2⟩
 | clo3 f c d e ih1 ih2 ih3=>rintro v ⟨x,y,z,e,h1,h2,h3⟩;exact⟨x,y,z,e,ih1 h1,ih2 h2,ih3 h3⟩
 | aggN=>exact fun h=>h
 | aggK c r ih1 ih2=>rintro v ⟨x,vs,e,o,h1,h2⟩;exact⟨x,vs,e,o,ih1 h1,ih2 h2⟩
theorem Pe {vr:Nat→Nat}{B:Blk}(h:brep C vr g w id B):brep C (fun _=>0) g w id (B.rn vr):=by
 cases B with
 | none=>trivial
 | row e k es=>exact h
 | obj A=>exact h
 | box e cells=>
  obtain⟨cs,h1,h2,h3,h4⟩:=h
  refine⟨cs,h1,h2,by simp[h3],fun j c hj=>?_⟩
  rw[List.getElem?_map]at hj
  cases hc:cells[j]? with
  | none=>rw[hc]at hj;cases hj
  | some c'=>
   rw[hc]at hj;cases hj
   obtain⟨y,q1,q2,q3⟩:=h4 j c' hc
   exact⟨y,q1,q2,yT q3⟩
 | mix e es c=>
  obtain⟨cap,cs,h1,h2,h3,h4,h5,h6,h7,y,q1,q2,q3⟩:=h
  exact⟨cap,cs,h1,h2,h3,h4,h5,h6,h7,y,q1,q2,yT q3⟩
inductive f9 (S:St):List (Nat×Cnt)→Prop
 | nil:f9 S []
 | cons {t:Nat} {c:Cnt} {l:List (Nat×Cnt)} (h:(S.get t).rn S.ver=c) (k:f9 S l):f9 S ((t,c)::l)
inductive ga (S:St):List (Nat×Blk)→Prop
 | nil:ga S []
 | cons {i:Nat} {B:Blk} {l:List (Nat×Blk)} (h:(S.blk i).rn S.ver=B) (k:ga S l):ga S ((i,B)::l)
theorem f9.look {sl:List (Nat×Cnt)}(h:f9 S sl)(t:Nat):wX t sl=.any∨wX t sl=(S.get t).rn S.ver:=by
 induction h with
 | nil=>exact .inl rfl
 | @cons t' c l h k ih=>
  unfold wX
  cases hb:Nat.beq t t' with
  | true=>exact .inr (by rw[bq.1 hb];exact h.symm)
  | false=>exact ih
theorem ga.look {sl:List (Nat×Blk)}(h:ga S sl)(t:Nat):eO t sl=.none∨eO t sl=(S.blk t).rn S.ver:=by
 induction h with
 | nil=>exact .inl rfl
 | @cons t' c l h k ih=>
  unfold eO
  cases hb:Nat.beq t t' with
  | true=>exact .inr (by rw[bq.1 hb];exact h.symm)
  | false=>exact ih
theorem kd {sl:List (Nat×Cnt)}{bl:List (Nat×Blk)}(h1:f9 S sl)(h2:ga S bl):Le n S (ay sl bl):=by
 rintro C a w ⟨g,h⟩
 refine⟨g,h.defers,h.tsz,h.nle,h.keep,h.os,h.tape,h.output,h.size,h.old,h.n0,h.n0l,h.dom,fun t=>?_,fun id=>?_⟩
 ·show crep C (fun _=>0) g w _ (wX t sl)
  rcases h1.look t with q|q
  ·rw[q];trivial
  ·rw[q];exact yT (h.slots t)
 ·show brep C (fun _=>0) g w id (eO id bl)
  rcases h2.look id with q|q
  ·rw[q];trivial
  ·rw[q];exact Pe (h.blks id)
theorem av {S1 S2 S3:St}(h:Le n S1 S2)(k:Le n S2 S3):Le n S1 S3:=fun C a w r=>k C a w (h C a w r)
theorem R8 {d:Nat}{c:Cnt}{b:Upd}(hd:d<a.tmps.size)(h:R C n (S.app (some d) c b) (a.put (some d) (a.tmps.getD d undef)) w):R C n (S.app (some d) c b) a w:=by
 have:a.put (some d) (a.tmps.getD d undef)=a:=by
  cases a with
  | mk tm df=>
   simp only[Act.put,Act.mk.injEq,and_true]
   apply Array.ext
   ·simp
   ·intro i h1 h2
    by_cases hi:d=i
    ·subst hi
     have hd':d<tm.size:=hd
     simp[Array.getD,hd']
    ·rw[Array.getElem_setIfInBounds_ne (by simpa using h2) hi]
 rw[this]at h;exact h
theorem bU (t id e k:Nat)(ht:Nat.blt t n=true)(h0:S.get t=.per (ak (.slice none 0 0)))(hfx:fq id=false:=by rfl):Le n S (S.app (some t) (.row id (S.ver id+1)) [(id,S.ver id+1,.row e k [])]):=by
 rintro C a w ⟨g,hR⟩
 have hv:a.tmps.getD t undef=.slice none 0 0:=by
  have:=hR.slots t
  rw[h0]at this;exact this
 have hvr:∀i,(S.app (some t) (.row id (S.ver id+1)) [(id,S.ver id+1,.row e k [])]).ver i=if i=id then S.ver id+1 else S.ver i:=fun i=>St.app_some_ver _ _ _ _ _ _ _
 have hst:=od (v:=.slice none 0 0) (t:=id) hR (eX.refl w) hvr hfx
 refine R8 (by rw[hR.tsz];exact Wc ht) ⟨g.mkN id (.slice none 0 0),hR.app1 (fun t' h=>by cases h;exact Wc ht) hst ⟨by rw[hvr,V6 rfl];exact V8 _,fun _=>?_⟩ (.inl ⟨V6 rfl,rfl⟩)⟩
 rw[hv];exact(V6 rfl).symm
def UY (tm:Array Value):ResultVar→Sem Value
 | .tmp t=>pure (tm.getD t undef)
 | .cell a t=>do loadVar t (←asAddr (tm.getD a undef))
theorem js (fn:Func)(tm:Array Value):results fn tm=(do let vs ←fn.results.mapM (UY tm);pure (if h:vs.size=1 then vs[0]else .tuple vs)):=by
 unfold results
 congr 1
def cC (P:Program)(n:Nat)(S:St)(rv:ResultVar)(r:Ret):Prop:=
 ∀(C:Ctx)(g:Gh) a w,(∀b,¬C.L b)→RG C n S g a w→∃v,(UY a.tmps rv).run P w=.ok v w∧r.rep C.N0 C.W0 w v
theorem dA {t:Nat}(h:S.get t=.per A):cC P n S (.tmp t) (.per A):=fun C g a w _ hR=>by
 have:=hR.slots t
 rw[h]at this
 exact⟨_,rfl,A.mono (V8 _) (fun _ _ _=>rfl) (fun b _ hb=>.inl hb) this⟩
theorem fT {t:Nat}(h:S.get t=.row id vr)(hv:S.ver id=vr)(hb:S.blk id=.row e k es):cC P n S (.tmp t) (.own e k es):=fun C g a w hL hR=>by
 have hs:=hR.slots t
 rw[h]at hs
 have hB:=hR.blks id
 rw[hb]at hB
 refine⟨_,rfl,?_⟩
 rw[hs.2 hv.symm]
 rcases hB with⟨q1,q2⟩|⟨cap,cs,q1,q2,q3,q4,q5,q6,q7⟩
 ·exact .inl ⟨q1,q2⟩
 ·have hd:=(hR.dom _ _ q3).2
  refine .inr ⟨g.ph id,cap,cs,q1,by rcases hd with q|q;exact q;exact absurd q (hL _),q2,q4,q5,q6,fun i ps hi=>?_⟩
  obtain⟨r1,r2⟩:=q7 i ps hi
  refine⟨r1,fun j A hj=>?_⟩
  obtain⟨y,s1,s2,s3⟩:=r2 j A hj
  exact⟨y,s1,s2,A.mono (V8 _) (fun _ _ _=>rfl) (fun b _ hb=>by
   rcases hb with hb|hb
   ·exact .inl hb
   ·exact .inr (by rw[hb,q3];simp)) s3⟩
theorem dv {t:Nat}(h:S.get t=.per (ak (.slice none 0 0))):cC P n S (.tmp t) (.own e k []):=fun C g a w _ hR=>by
 have:=hR.slots t
 rw[h]at this
 exact⟨_,rfl,.inl ⟨this,rfl⟩⟩
theorem eL {t:Nat}(h:S.get t=.per (ak (.slice none 0 0))):cC P n S (.tmp t) (.per (cA k [])):=fun C g a w _ hR=>by
 have:=hR.slots t
 rw[h]at this
 refine⟨_,rfl,?_⟩
 rw[show a.tmps.getD t undef=_ from this]
 exact⟨none,0,0,0,rfl,au,bz,fun _=>rfl,au,fun i cs hi=>by simp at hi⟩
theorem DN {t:Nat}(h:S.get t=.row id vr)(hv:S.ver id=vr)(hb:S.blk id=.row e k es):cC P n S (.tmp t) (.per (cA k es)):=fun C g a w hL hR=>by
 have hs:=hR.slots t
 rw[h]at hs
 have hB:=hR.blks id
 rw[hb]at hB
 refine⟨_,rfl,?_⟩
 rw[hs.2 hv.symm]
 rcases hB with⟨q1,rfl⟩|⟨cap,cs,q1,q2,q3,q4,q5,q6,q7⟩
 ·exact⟨none,0,0,0,by rw[q1];rfl,au,bz,fun _=>rfl,au,fun i cs hi=>by simp at hi⟩
 ·have hd:=hR.dom _ _ q3
  refine⟨_,cap,g.ph id,0,q1,q4,q5,au,fun _=>⟨rfl,hd.1,fun hn=>?_⟩,fun i ps hi=>?_⟩
  ·have:=hR.n0 _ hn
   rcases hd.2 with q|q
   ·omega
   ·exact absurd q (hL _)
  ·obtain⟨r1,r2⟩:=q7 i ps hi
   refine⟨r1,fun j A hj=>?_⟩
   obtain⟨y,s1,s2,s3⟩:=r2 j A hj
   exact⟨y,by rw[WF,eo q2];exact s1,s2,A.mono (V8 _) (fun _ _ _=>rfl) (fun b _ hb=>.inl hb) s3⟩
theorem KB {t:Nat}{e:TypeId}(hT:P.underlying ty=some d)(hd:ip d=true)(hk:P.cellsOf ty=k)(h0:Nat.blt 0 k=true)(h:S.get t=.ptr id vr 0)(hv:S.ver id=vr)(hb:S.blk id=.box e cells)
 (hl:cells.length=k) (hc:ru cells=some As):cC P n S (.cell t ty) (.per (cB As)):=fun C g a w _ hR=>by
 have hs:=hR.slots t
 rw[h]at hs
 have hB:=hR.blks id
 rw[hb]at hB
 obtain⟨cs,h2,_,h4,h5⟩:=hB
 have hm:=n8 hc
 have hlen:As.length=k:=by rw[←hl,hm];simp
 have h0:=Wc h0
 obtain⟨vs,g1,g2,g3⟩:=dY (N:=g.N C) (w:=w) (f:=fun j=>w.cell? ⟨g.ph id,0+j,none⟩) As (fun j A hj=>by
  obtain⟨y,q1,q2,q3⟩:=h5 j (.per A) (by rw[hm,List.getElem?_map,hj];rfl)
  exact⟨y,by rw[eo h2,WF];exact q1,q2,q3⟩)
 refine⟨.agg vs.toArray,?_,vs.toArray,rfl,g3.mono (V8 _) (fun _ _ _=>rfl) (fun b _ hb=>.inl hb)⟩
 have:=fg (P:=P) (w:=w) (b:=g.ph id) (o:=0) hT hd (by rw[hk,g1,hlen]) ab g2
 show(do loadVar ty (←asAddr (a.tmps.getD t undef))).run P w=_
 rw[hs.2 hv.symm]
 simpa[Instr.loadAt,Instr.sureAddr,asAddr]using this
theorem KC {fn:Func}{rv:ResultVar}(hf:fn.results=#[rv])(h:cC P n S rv r):nm P n fn S r:=fun C a w hL ⟨g,hR⟩=>by
 obtain⟨v,h1,h2⟩:=h C g a w hL hR
 refine⟨v,?_,h2⟩
 rw[js,hf]
 simp[h1]
theorem AV {fn:Func}{rv rv':ResultVar}{r':Ret}(hf:fn.results=#[rv,rv'])(h:cC P n S rv r)(h':cC P n S rv' r'):nm P n fn S (.tup2 r r'):=fun C a w hL ⟨g,hR⟩=>by
 obtain⟨v,h1,h2⟩:=h C g a w hL hR
 obtain⟨v',h1',h2'⟩:=h' C g a w hL hR
 refine⟨.tuple #[v,v'],?_,v,v',rfl,h2,h2'⟩
 rw[js,hf]
 simp[h1,h1']
theorem lr {fn:Func}{rv rv' rv'':ResultVar}{r' r'':Ret}(hf:fn.results=#[rv,rv',rv''])(h:cC P n S rv r)(h':cC P n S rv' r')(h'':cC P n S rv'' r''):nm P n fn S (.tup3 r r' r''):=fun C a w hL ⟨g,hR⟩=>by
 obtain⟨v,h1,h2⟩:=h C g a w hL hR
 obtain⟨v',h1',h2'⟩:=h' C g a w hL hR
 obtain⟨v'',h1'',h2''⟩:=h'' C g a w hL hR
 refine⟨.tuple #[v,v',v''],?_,v,v',v'',rfl,h2,h2',h2''⟩
 rw[js,hf]
 simp[h1,h1',h1'']
end
section
variable {P:Program} {n:Nat} {ops:Array Oper} {o:Oper} {F:List Nat} {S T:St} {C:Ctx} {g:Gh} {a:Act} {w w':World} {t:Nat}
def cH (zs:List PV)(off:Nat)(ps:List PV):List PV:=zs.take off++(ps++zs.drop (off+ps.length))
def mX (place:Nat→Option (Nat×Nat))(zs:List PV):List (Nat×List PV)→Option (List PV)
 | []=>some zs
 | (i,ps)::rest=>match place i with
  | none=>none
  | some (off,size)=>bif Nat.beq ps.length size&&Nat.ble (off+size) zs.length then mX place (cH zs off ps) rest else none
theorem wY (vs:List Value):∀(k off:Nat)(cs:Array Value)(i:Nat),off+k+vs.length≤cs.size →
 ((vs.zipIdx k).foldl (fun cs (c,j)=>cs.setIfInBounds (off+j) c) cs).size=cs.size ∧
 ((vs.zipIdx k).foldl (fun cs (c,j)=>cs.setIfInBounds (off+j) c) cs)[i]?=if off+k≤i∧i<off+k+vs.length then vs[i-(off+k)]? else cs[i]?:=by
 induction vs with
 | nil=>
  intro k off cs i _
  refine⟨rfl,?_⟩
  rw[V3 au];rfl
 | cons v vs ih=>
  intro k off cs i h
  simp only[Wh]at h
  simp only[List.zipIdx_cons,List.foldl_cons]
  obtain⟨h1,h2⟩:=ih (k+1) off (cs.setIfInBounds (off+k) v) i (by rw[Array.size_setIfInBounds];omega)
  refine⟨by rw[h1];simp,?_⟩
  rw[h2]
  by_cases hi:i=off+k
  ·subst hi
   rw[V3 ab,V6 ⟨V8 _,au⟩,Array.getElem?_setIfInBounds_self_of_lt ab]
   simp
  ·by_cases hin:off+k≤i∧i<off+k+(vs.length+1)
   ·rw[V6 ab,V6 (by simpa using hin),show i-(off+k)=(i-(off+(k+1)))+1 by omega]
    simp
   ·rw[V3 ab,V3 (by simpa using hin),Array.getElem?_setIfInBounds_ne (XJ hi)]
theorem HH {cs:Array Value}{zs:List PV}{vs:Array Value}(h:gW N w cs zs)(hv:gW N w vs ps)(hl:off+ps.length≤zs.length) :
 gW N w (vs.zipIdx.foldl (fun cs (c,j)=>cs.setIfInBounds (off+j) c) cs) (cH zs off ps):=by
 have hvs:=hv.1
 have hcs:=h.1
 have hz:vs.zipIdx.foldl (fun cs (c,j)=>cs.setIfInBounds (off+j) c) cs=(vs.toList.zipIdx 0).foldl (fun cs (c,j)=>cs.setIfInBounds (off+j) c) cs:=by
  rw[←Array.foldl_toList,Array.toList_zipIdx]
 rw[hz]
 have hf:=fun i=>wY vs.toList 0 off cs i bn
 refine⟨by rw[(hf 0).1];simp[cH];omega,fun j A hj=>?_⟩
 rw[(hf j).2]
 unfold cH at hj
 have hta:(zs.take off).length=off:=bn
 simp only[WW,W9,Array.getElem?_toList]
 rcases Wm j off with hlt|hge
 ·rw[Wl ab,WI,V6 hlt]at hj
  rw[V3 ab]
  exact h.2 j A hj
 ·rw[List.getElem?_append_right ab,hta]at hj
  rcases Wm j (off+ps.length)with hlt|hge2
  ·rw[Wl ab]at hj
   rw[V6 ⟨ab,ab⟩]
   exact hv.2 _ A hj
  ·rw[List.getElem?_append_right ab,WO]at hj
   rw[V3 ab]
   have:=h.2 _ A hj
   rw[show off+ps.length+(j-off-ps.length)=j by omega]at this
   exact this
def np (S:St)(x:Operand)(ps:List PV):Prop:=S.opd x=.per (cB ps)∨∃A,S.opd x=.per A∧rt A∧ps=[A]
theorem dm (h:S.opd x=.per (cB ps)):np S x ps:=.inl h
theorem AX (h:S.opd x=.per A)(h1:rt A):np S x [A]:=.inr ⟨A,h,h1,rfl⟩
theorem aY (h:S.opd x=.per (ak v))(h1:v.oneCell'=true)(h2:v.cells=#[v]):np S x [ak v]:=AX h (dJ h1 h2)
theorem dn (h:S.opd x=.per (cA k es)):np S x [cA k es]:=AX h dK
inductive bM (S:St):List (Nat×Operand)→List (Nat×List PV)→Prop
 | nil:bM S [] []
 | cons {i:Nat} {x:Operand} {ps:List PV} {l:List (Nat×Operand)} {l':List (Nat×List PV)} (h:np S x ps) (k:bM S l l'):bM S ((i,x)::l) ((i,ps)::l')
theorem np.rep (h:np S x ps)(hA:dV F T S)(hF:∀k∈az x,k∈F)(hR:RG C n T g a w):gW (g.N C) w (a.eval x).cells ps:=by
 have hr:=aG (x:=x) hA hF hR
 rcases h with h|⟨A,h,h1,rfl⟩
 ·rw[h]at hr
  obtain⟨vs,hv,hc⟩:=hr
  rw[hv];exact hc
 ·rw[h]at hr
  obtain⟨q1,q2⟩:=h1 _ _ _ hr
  rw[q2]
  refine⟨rfl,fun j A' hj=>?_⟩
  cases j with
  | zero=>simp at hj;subst hj;exact⟨_,rfl,q1,hr⟩
  | succ j=>simp at hj
def iq (l:List (Nat×Operand)):List Nat:=l.flatMap fun x=>az x.2
theorem AY {place:Nat→Option (Nat×Nat)}(h:bM S parts pps)(hA:dV F T S)(hF:∀k∈iq parts,k∈F)(hR:RG C n T g a w) :
 ∀{cells:Array Value} {zs cs:List PV},gW (g.N C) w cells zs→mX place zs pps=some cs→∃out,Instr.fill place cells (parts.map fun(i,x)=>(i,a.eval x))=some out∧gW (g.N C) w out cs:=by
 induction h with
 | nil=>intro cells zs cs hc hf;cases hf;exact⟨cells,rfl,hc⟩
 | @cons i x ps l l' h k ih=>
  intro cells zs cs hc hf
  have hx:=h.rep hA (fun k hk=>hF k (by simp[iq,hk])) hR
  unfold mX at hf
  cases hp:place i with
  | none=>simp only[hp]at hf;cases hf
  | some p=>
   obtain⟨off,size⟩:=p
   simp only[hp]at hf
   cases hb:(Nat.beq ps.length size&&Nat.ble (off+size) zs.length)with
   | false=>rw[hb]at hf;cases hf
   | true=>
    rw[hb]at hf
    simp only[cond_true]at hf
    rw[Wi]at hb
    have h1:=bq.1 hb.1
    have h2:=Wc hb.2
    have hcs:=hc.1
    have hxs:=hx.1
    obtain⟨out,q1,q2⟩:=ih (fun k hk=>hF k (by simp only[iq,List.flatMap_cons,Wz];exact .inr hk)) (HH (off:=off) hc hx ab) hf
    refine⟨out,?_,q2⟩
    simp only[List.map_cons,Instr.fill,hp]
    rw[V3 (by simp only[ne_eq,gt_iff_lt,WN,Wn,not_or,WB];exact⟨ab,ab⟩)]
    exact q1
def AZ (vs:List Value):List PV:=vs.map ak
theorem A7 {vs:Array Value}(h:vs.toList.all (·.oneCell')=true):gW N w vs (AZ vs.toList):=by
 refine⟨by simp[AZ],fun j A hj=>?_⟩
 unfold AZ at hj
 rw[List.getElem?_map]at hj
 cases hv:vs.toList[j]? with
 | none=>rw[hv]at hj;cases hj
 | some y=>
  rw[hv]at hj;cases hj
  rw[WJ]at h
  exact⟨y,by simpa using hv,h y (WK hv),rfl⟩
theorem KD {z:Value}(hz:(P.info? ty).bind (·.zero)=some z):(zeroValue ty).run P w=.ok z w:=by
 cases hi:P.info? ty with
 | none=>rw[hi]at hz;cases hz
 | some i=>
  rw[hi]at hz
  simp only[Option.bind_some]at hz
  simp[zeroValue,typeInfo,program,Sem.run,hi,hz]
def A8 (P:Program)(ty:TypeId):Option (List (Nat×Nat)):=match P.underlying ty with
 | some (.struct fs)=>fs.toList.mapM (fun f=>(P.info? f.type).map fun i=>(f.offset,i.size))
 | _=>none
theorem A9 {z:Value}{ls:List (Nat×Nat)}{parts:List (Nat×Value)}{out:Array Value}(hl:A8 P ty=some ls)(hz:(P.info? ty).bind (·.zero)=some z)
 (h:Instr.fill (fun i=>ls[i]?) z.cells parts=some out):P.built ty parts=some out:=by
 unfold A8 at hl
 unfold Program.built
 cases hi:P.info? ty with
 | none=>rw[hi]at hz;cases hz
 | some it=>
  rw[hi]at hz
  simp only[Option.bind_some]at hz
  split at hl
  ·rename_i fs hu
   simp only[hu,hz,hl]
   simpa using h
  ·cases hl
theorem KE {z:Value}{ls:List (Nat×Nat)}(hp:Pl n o t)(ho:o.op=.build ty parts.toArray)(hl:A8 P ty=some ls)(hz:(P.info? ty).bind (·.zero)=some z)
 (h1:z.cells.toList.all (·.oneCell')=true) (hpt:bM S parts pps) (hf:mX (fun i=>ls[i]?) (AZ z.cells.toList) pps=some cs):aw n P ops o (iq parts) (.per (cB cs)) [] S:=
 aV hp fun C T g a w hA hR=>by
  obtain⟨out,r1,r2⟩:=AY hpt hA (fun k h=>h) hR (A7 h1) hf
  refine⟨.agg out,?_,out,rfl,r2⟩
  simp only[execOp,ho,Sem.run_bind]
  rw[run_build w ty _ out (by rw[show((parts.toArray.map fun(x:Nat×Operand)=>(x.1,a.eval x.2)).toList)=parts.map fun(i,x)=>(i,a.eval x)by simp];exact A9 hl hz r1)]
  rfl
def mY (k:Nat):Nat→List PV→List (List PV)
 | 0,_=>[]
 | m+1,l=>l.take k::mY k m (l.drop k)
theorem aQ (k:Nat):∀(m:Nat)(l:List PV),(mY k m l).length=m:=by
 intro m
 induction m with
 | zero=>intro l;rfl
 | succ m ih=>intro l;simp[mY,ih]
theorem wZ (k:Nat):∀(m:Nat)(l:List PV)(i:Nat)(ps:List PV),(mY k m l)[i]?=some ps→ps=(l.drop (i*k)).take k∧i<m:=by
 intro m
 induction m with
 | zero=>intro l i ps h;simp[mY]at h
 | succ m ih=>
  intro l i ps h
  cases i with
  | zero=>simp[mY]at h;subst h;simp
  | succ i=>
   simp only[mY,List.getElem?_cons_succ]at h
   obtain⟨h1,h2⟩:=ih _ _ _ h
   refine⟨?_,ab⟩
   rw[h1,List.drop_drop,WU,Nat.add_comm]
def ww (k len:Nat)(zs:List Value):List PV:=(List.range (len*k)).map fun i=>ak (zs.getD (i % zs.length) default)
theorem ue {ty:Nat}{z:Value}(hT:TI P ty e k bytes)(hk:0<k)(hlen:0<len)(hz:(P.info? e).bind (·.zero)=some z)
 (h1:z.cells.toList.all (·.oneCell')=true) (hzk:z.cells.size=k) (hsm:len*k≤16777216) (hA:dV F T S) (hF:∀k∈iq parts,k∈F) (hR:RG C n T g a w) (hpt:bM S parts pps)
 (hf:mX (fun i=>some (i*k,k)) (ww k len z.cells.toList) pps=some cs) :
 ∃out:Array Value,(Instr.buildSlice ty len (parts.toArray.map fun(i,x)=>(i,a.eval x))).run P w=.ok (.slice (some ⟨w.heap.size,0,none⟩) len len) (w.alloc (.cells out e))∧gW (g.N C) w out cs:=by
 obtain⟨i,z',hi,hz',hs1,hs2,hs3⟩:=hT.info
 rw[hi]at hz
 simp only[Option.bind_some]at hz
 rw[hz']at hz;cases hz
 have hpos:0<len*k:=Nat.mul_pos hlen hk
 have hbase:gW (g.N C) w ((Array.range (len*k)).map (z.cells[· % z.cells.size]!)) (ww k len z.cells.toList):=by
  refine⟨by simp[ww],fun j A hj=>?_⟩
  unfold ww at hj
  rw[List.getElem?_map]at hj
  cases hr:(List.range (len*k))[j]? with
  | none=>rw[hr]at hj;cases hj
  | some q=>
   rw[hr]at hj;cases hj
   have hjl:j<len*k:=by
    rcases Wm j (len*k)with h|h
    ·exact h
    ·rw[Wq (by simpa using h)]at hr;cases hr
   have hq:q=j:=by simpa[hjl]using hr.symm
   subst hq
   have hm:q % z.cells.size<z.cells.size:=XG _ ab
   refine⟨z.cells[q % z.cells.size]!,by simp[hjl],?_,?_⟩
   ·rw[WJ]at h1
    rw[getElem!_pos z.cells _ hm]
    exact h1 _ au
   ·show _=_
    simp[hm]
 obtain⟨out,q1,q2⟩:=AY hpt hA hF hR hbase hf
 refine⟨out,?_,q2⟩
 refine run_buildSlice w ty e len _ out i z hT.und hi hz' (by rw[hs1];omega) (by rw[hs1];omega) ?_
 rw[hs1]
 simpa using q1
theorem Ba {place:Nat→Option (Nat×Nat)}:∀{pps:List (Nat×List PV)} {zs cs:List PV},mX place zs pps=some cs→cs.length=zs.length:=by
 intro pps
 induction pps with
 | nil=>intro zs cs h;cases h;rfl
 | cons p l ih=>
  obtain⟨i,ps⟩:=p
  intro zs cs h
  unfold mX at h
  cases hp:place i with
  | none=>simp only[hp]at h;cases h
  | some q=>
   obtain⟨off,size⟩:=q
   simp only[hp]at h
   cases hb:(Nat.beq ps.length size&&Nat.ble (off+size) zs.length)with
   | false=>rw[hb]at h;cases h
   | true=>
    rw[hb]at h
    rw[Wi]at hb
    have h1:=bq.1 hb.1
    have h2:=Wc hb.2
    rw[ih h];simp[cH];omega
theorem HM {ty:Nat}{z:Value}(hp:Pl n o t)(ho:o.op=.buildSlice ty len parts.toArray)(hT:TI P ty e k bytes)(hk:Nat.blt 0 k=true)(hlen:Nat.blt 0 len=true)(hz:(P.info? e).bind (·.zero)=some z)
 (h1:z.cells.toList.all (·.oneCell')=true) (hzk:z.cells.size=k) (hsm:Nat.ble (len*k) 16777216=true) (hpt:bM S parts pps) (hf:mX (fun i=>some (i*k,k)) (ww k len z.cells.toList) pps=some cs) :
 aw n P ops o (iq parts) (.per (cA k (mY k len cs))) [] S:=by
 refine⟨?_⟩
 intro C T hA a w ⟨g,hR⟩
 have hk:=Wc hk
 have hlen:=Wc hlen
 obtain⟨out,r1,r2⟩:=ue (P:=P) hT hk hlen hz h1 hzk (Wc hsm) hA (fun k h=>h) hR hpt hf
 unfold iM
 rw[V6 (hp.wanted a)]
 unfold Oper.wp
 have hex:(execOp a.eval o).run P w=.ok (.value (.slice (some ⟨w.heap.size,0,none⟩) len len)) (w.alloc (.cells out e)):=by
  simp only[execOp,ho,Sem.run_bind]
  rw[r1];rfl
 rw[hex,Oper.upon_value]
 have hcl:cs.length=len*k:=by rw[Ba hf];simp[ww]
 refine⟨g,hR.app0 ((eX.refl w).alloc _) hp.dOk ?_⟩
 show eH (g.N C) (g.N C) k (mY k len cs) _ _
 have hcl2:=aQ k len cs
 refine⟨_,len,w.heap.size,0,by rw[hcl2],ab,by have:=Wc hsm;have:len≤len*k:=Nat.le_mul_of_pos_right _ hk;unfold maxLen;omega,au,fun _=>⟨rfl,gF _ _,fun hn=>?_⟩,fun i ps hi=>?_⟩
 ·rcases hn with hn|hn
  ·exact FY hR _ (V8 _) hn
  ·exact hn (tk hR _ (V8 _))
 ·obtain⟨q1,q2⟩:=wZ k len cs i ps hi
  have hik:i*k+k≤len*k:=by have:=WQ k (show i+1≤len from q2);rw[WU]at this;exact this
  refine⟨by rw[q1];simp;omega,fun j A hj=>?_⟩
  rw[q1,WI]at hj
  split at hj
  ·rw[WO]at hj
   obtain⟨y,s1,s2,s3⟩:=r2.2 _ A hj
   refine⟨y,?_,s2,A.mono au (fun b hb _=>Below.heap_alloc _ _ _ hb) (fun _ _ h=>h) s3⟩
   rw[WF,eo (heap_alloc_new w _)];exact s1
  ·cases hj
theorem wx {ty:Nat}{z:Value}(hp:Pl n o t)(ho:o.op=.buildSlice ty len parts.toArray)(hT:TI P ty e k bytes)(hk:Nat.blt 0 k=true)(hlen:Nat.blt 0 len=true)(hz:(P.info? e).bind (·.zero)=some z)
 (h1:z.cells.toList.all (·.oneCell')=true) (hzk:z.cells.size=k) (hsm:Nat.ble (len*k) 16777216=true) (hpt:bM S parts pps) (hf:mX (fun i=>some (i*k,k)) (ww k len z.cells.toList) pps=some cs) :
 aw n P ops o ((2*t+1)::iq parts) (.row t (S.ver t+1)) [(t,S.ver t+1,.row e k (mY k len cs))] S:=
 qd hp au fun C T g a w hA hR=>by
  have hk:=Wc hk
  have hlen:=Wc hlen
  obtain⟨out,r1,r2⟩:=ue (P:=P) hT hk hlen hz h1 hzk (Wc hsm) hA (fun k h=>by simp[h]) hR hpt hf
  have hcl:cs.length=len*k:=by rw[Ba hf];simp[ww]
  have hcl2:=aQ k len cs
  refine⟨.slice (some ⟨w.heap.size,0,none⟩) len len,w.alloc (.cells out e),w.heap.size,?_,(eX.refl w).alloc _,V8 _,gF _ _,fun vr' hvr hst=>⟨?_,?_⟩⟩
  ·simp only[execOp,ho,Sem.run_bind]
   rw[r1];rfl
  ·exact⟨by rw[hvr,V6 rfl];exact V8 _,fun _=>(V6 rfl).symm⟩
  ·have hph:(g.mk1 t w.heap.size (.slice (some ⟨w.heap.size,0,none⟩) len len)).ph t=w.heap.size:=V6 rfl
   have hrh:(g.mk1 t w.heap.size (.slice (some ⟨w.heap.size,0,none⟩) len len)).rh t=.slice (some ⟨w.heap.size,0,none⟩) len len:=V6 rfl
   refine .inr ⟨len,out,by rw[hrh,hph,hcl2],by rw[hph];exact heap_alloc_new w _,by rw[hph];exact V6 rfl,ab,by have:=Wc hsm;have:len≤len*k:=Nat.le_mul_of_pos_right _ hk;unfold maxLen;omega,by rw[r2.1,hcl],fun i ps hi=>?_⟩
   obtain⟨q1,q2⟩:=wZ k len cs i ps hi
   have hik:i*k+k≤len*k:=by have:=WQ k (show i+1≤len from q2);rw[WU]at this;exact this
   refine⟨by rw[q1];simp;omega,fun j A hj=>?_⟩
   rw[q1,WI]at hj
   split at hj
   ·rw[WO]at hj
    obtain⟨y,s1,s2,s3⟩:=r2.2 _ A hj
    exact⟨y,s1,s2,A.mono hst.sz hst.keepN hst.n s3⟩
   ·cases hj
theorem DP {ty:Nat}(hp:Pl n o t)(ho:o.op=.buildSlice ty 0 #[])(hT:TI P ty e k bytes) :
 aw n P ops o [2*t+1] (.row t (S.ver t+1)) [(t,S.ver t+1,.row e k [])] S:=
 qd hp au fun C T g a w hA hR=>by
  obtain⟨i,z',hi,hz',hs1,hs2,hs3⟩:=hT.info
  refine⟨.slice (some ⟨w.heap.size,0,none⟩) 0 0,w.alloc (.cells #[] e),w.heap.size,?_,(eX.refl w).alloc _,V8 _,gF _ _,fun vr' hvr hst=>⟨?_,?_⟩⟩
  ·simp only[execOp,ho,Sem.run_bind,Instr.buildSlice,run_underlying hT.und,Result.andThen_ok]
   simp[sizeOf,typeInfo,program,Sem.run,hi,Instr.fill,newRow,newObj,Array.range_zero']
  ·exact⟨by rw[hvr,V6 rfl];exact V8 _,fun _=>(V6 rfl).symm⟩
  ·have hph:(g.mk1 t w.heap.size (.slice (some ⟨w.heap.size,0,none⟩) 0 0)).ph t=w.heap.size:=V6 rfl
   have hrh:(g.mk1 t w.heap.size (.slice (some ⟨w.heap.size,0,none⟩) 0 0)).rh t=.slice (some ⟨w.heap.size,0,none⟩) 0 0:=V6 rfl
   exact .inr ⟨0,#[],by rw[hrh,hph];rfl,by rw[hph];exact heap_alloc_new w _,by rw[hph];exact V6 rfl,au,bz,au,fun i ps hi=>by simp at hi⟩
end
def byteP (c:UInt8):List PV:=[ak (.int .u8 (c.toNat:Int))]
def TK (n:Int):List PV:=[ak (.int .i64 n)]
def strP (s:ByteArray):List PV:=[ak (.string s)]
section
variable {P:Program} {n:Nat} {ops:Array Oper} {o:Oper} {F:List Nat} {S T:St} {C:Ctx} {g:Gh} {a:Act} {w w':World} {t:Nat}
theorem FZ (h:eH top N k es w v)(lo hi:Nat)(h1:lo≤hi)(h2:hi≤es.length) :
 ∃ad c,v=.slice ad es.length c∧hi≤c∧eH top N k ((es.drop lo).take (hi-lo)) w (.slice (if c=lo then ad else ad.map (·.add (lo*k))) (hi-lo) (c-lo)):=by
 obtain⟨ad,c,b,of,rfl,g1,g2,g0,g3,g4⟩:=h
 refine⟨ad,c,rfl,ab,?_⟩
 have hlen:((es.drop lo).take (hi-lo)).length=hi-lo:=bn
 by_cases hz:hi=lo
 ·subst hz
  refine⟨_,c-hi,0,0,by rw[hlen],ab,ab,fun hn=>?_,by rw[hlen];omega,fun i cs hx=>?_⟩
  ·by_cases hc:c=hi
   ·omega
   ·rw[V3 hc]at hn
    cases ad with
    | none=>have:=g0 rfl;omega
    | some ad=>simp at hn
  ·rw[Wq (by rw[hlen];omega)]at hx;cases hx
 ·obtain⟨ha,q2,q3⟩:=g3 ab
  have hc:¬c=lo:=ab
  refine⟨_,c-lo,b,of+lo*k,by rw[hlen],ab,ab,fun hn=>?_,fun _=>⟨by rw[V3 hc,ha];simp[Addr.add_lit],q2,q3⟩,fun i cs hx=>?_⟩
  ·rw[V3 hc,ha]at hn;simp at hn
  ·rw[WI]at hx
   split at hx
   ·rw[WO]at hx
    obtain⟨r1,r2⟩:=g4 _ cs hx
    refine⟨r1,fun j A hj=>?_⟩
    obtain⟨y,s1,s2⟩:=r2 j A hj
    exact⟨y,by rw[show of+lo*k+i*k+j=of+(lo+i)*k+j by rw[XH];omega];exact s1,s2⟩
   ·cases hx
def J8 (S:St)(lo hi:Option Operand)(len:Nat)(l h:Nat):Prop:=
 (match lo with|none=>l=0|some x=>∃k z,S.opd x=iC k z∧z=(l:Int))∧(match hi with|none=>h=len|some x=>∃k z,S.opd x=iC k z∧z=(h:Int))∧l≤h∧h≤len
def m7 (lo hi:Option Operand):List Nat:=(match lo with|none=>[]|some x=>az x)++(match hi with|none=>[]|some x=>az x)
theorem lF {ty:Nat}{ad:Option Addr}{c l:Nat}(hT:P.underlying ty=some (.slice e))(hk:P.cellsOf e=k)(h0:0<k)(hA:dV F T S)(hF:∀k∈m7 lo hi,k∈F)(hR:RG C n T g a w)(hb:J8 S lo hi len l h)(hc:h≤c) :
 (Instr.sliceAt ty (.slice ad len c) (lo.map a.eval) (hi.map a.eval) none).run P w=.ok (.slice (if c=l then ad else ad.map (·.add (l*k))) (h-l) (c-l)) w:=by
 have hel:P.elem ty=e:=by unfold Program.elem;rw[hT]
 rw[run_sliceAt_slice (h:=by rw[hel];exact hT)]
 obtain⟨h1,h2,h3,h4⟩:=hb
 have fin:∀(r:Result Value),(r=((sizeOf (P.elem ty)).run P w).andThen fun s w=>.ok (sliced ad l h c s) w)→r=.ok (.slice (if c=l then ad else ad.map (·.add (l*k))) (h-l) (c-l)) w:=by
  intro r hr
  rw[hr,hel,gD hk h0]
  simp[sliced,Result.andThen]
 cases lo with
 | none=>
  subst h1
  cases hi with
  | none=>
   have h2:h=len:=h2
   subst h2
   exact fin _ (by simp only[W8];rw[run_slice_all (ht:=by rw[hel];exact hT)])
  | some y=>
   obtain⟨kk,z,hz,rfl⟩:=h2
   have:=aP (x:=y) hA (fun k hk=>hF k (by simp[m7,hk])) hR hz
   exact fin _ (by simp only[W8,W5,this];rw[run_slice_h (ht:=by rw[hel];exact hT) (h0:=ab) (h2:=ab)];simp)
 | some x=>
  obtain⟨kk,z,hz,rfl⟩:=h1
  have hx:=aP (x:=x) hA (fun k hk=>hF k (by simp[m7,hk])) hR hz
  cases hi with
  | none=>
   have h2:h=len:=h2
   subst h2
   exact fin _ (by simp only[W8,W5,hx];rw[run_slice_l (ht:=by rw[hel];exact hT) (h0:=ab) (h1:=ab)];simp)
  | some y=>
   obtain⟨kk',z',hz',rfl⟩:=h2
   have hy:=aP (x:=y) hA (fun k hk=>hF k (by simp[m7,hk])) hR hz'
   exact fin _ (by simp only[W5,hx,hy];rw[run_slice_lh (ht:=by rw[hel];exact hT) (h0:=ab) (h1:=ab) (h2:=ab)];simp)
theorem KF {ty l:Nat}{es':List (List PV)}(hp:Pl n o t)(ho:o.op=.slice ty x lo hi none)(hT:P.underlying ty=some (.slice e))(hk:P.cellsOf e=k)(h0:Nat.blt 0 k=true)
 (hx:S.opd x=.per (cA k es)) (hb:J8 S lo hi es.length l h) (he:(es.drop l).take (h-l)=es'):aw n P ops o (az x++m7 lo hi) (.per (cA k es')) [] S:=
 aV hp fun C T g a w hA hR=>by
  have hr:=aG (x:=x) hA (fun k h=>by simp[h]) hR
  rw[hx]at hr
  obtain⟨ad,c,hv,hc,hl⟩:=FZ hr l h hb.2.2.1 hb.2.2.2
  subst he
  refine⟨_,?_,hl⟩
  simp only[execOp,ho,hv,Sem.run_bind,W8,lF hT hk (Wc h0) hA (fun k h=>by simp[h]) hR hb hc];rfl
theorem DQ {ty l:Nat}{es':List (List PV)}(hp:Pl n o t)(ho:o.op=.slice ty x lo hi none)(hT:P.underlying ty=some (.slice e))(hk:P.cellsOf e=k)(h0:Nat.blt 0 k=true)
 (hx:S.opd x=.bor k es) (hb:J8 S lo hi es.length l h) (he:(es.drop l).take (h-l)=es'):aw n P ops o (az x++m7 lo hi) (.bor k es') [] S:=
 aV hp fun C T g a w hA hR=>by
  have hr:=aG (x:=x) hA (fun k h=>by simp[h]) hR
  rw[hx]at hr
  obtain⟨ad,c,hv,hc,hl⟩:=FZ hr l h hb.2.2.1 hb.2.2.2
  subst he
  refine⟨_,?_,hl⟩
  simp only[execOp,ho,hv,Sem.run_bind,W8,lF hT hk (Wc h0) hA (fun k h=>by simp[h]) hR hb hc];rfl
theorem HN {ty l:Nat}{s':ByteArray}(hp:Pl n o t)(ho:o.op=.slice ty x lo hi none)(hT:P.underlying ty=some .string)(hx:S.opd x=sC s)(hb:J8 S lo hi s.size l h)(he:s.extract l h=s') :
 aw n P ops o (az x++m7 lo hi) (sC s') [] S:=
 aV hp fun C T g a w hA hR=>by
  have hv:=aP (x:=x) hA (fun k h=>by simp[h]) hR hx
  obtain⟨h1,h2,h3,h4⟩:=hb
  subst he
  refine⟨.string (s.extract l h),?_,rfl⟩
  have hs:s.extract 0 s.size=s:=au
  have key:(Instr.sliceAt ty (.string s) (lo.map a.eval) (hi.map a.eval) none).run P w=.ok (.string (s.extract l h)) w:=by
   rw[run_sliceAt_string (h:=hT)]
   cases lo with
   | none=>
    have h1:l=0:=h1
    subst h1
    cases hi with
    | none=>
     have h2:h=s.size:=h2
     subst h2
     simp only[W8]
     rw[run_slice_string_all (h:=hT),hs]
    | some y=>
     obtain⟨kk,z,hz,rfl⟩:=h2
     have:=aP (x:=y) hA (fun k hk=>by simp[m7,hk]) hR hz
     simp only[W8,W5,this]
     rw[run_slice_string_to_if (h:=hT)]
     simp
     omega
   | some x=>
    obtain⟨kk,z,hz,rfl⟩:=h1
    have hx:=aP (x:=x) hA (fun k hk=>by simp[m7,hk]) hR hz
    cases hi with
    | none=>
     have h2:h=s.size:=h2
     subst h2
     simp only[W8,W5,hx]
     rw[run_slice_string_from_if (h:=hT)]
     simp
     omega
    | some y=>
     obtain⟨kk',z',hz',rfl⟩:=h2
     have hy:=aP (x:=y) hA (fun k hk=>by simp[m7,hk]) hR hz'
     simp only[W5,hx,hy]
     rw[run_slice_string (h:=hT) (h0:=ab) (h1:=ab) (h2:=ab)]
     simp
  simp only[execOp,ho,hv,Sem.run_bind,W8,key];rfl
theorem uf {l:List UInt8}(h:eH top N 1 (l.map byteP) w v):Bs w v l:=by
 obtain⟨ad,c,b,of,h1,h2,h3,h4,h5,h6⟩:=h
 simp only[V7]at h1 h2 h5
 refine⟨ad,c,b,of,h1,h2,h3,fun h0=>(h5 h0).1,h4,fun i x hx j y hy=>?_⟩
 obtain⟨_,q⟩:=h6 i (byteP x) (by rw[List.getElem?_map,hx];rfl)
 cases j with
 | zero=>
  simp[encB]at hy;subst hy
  obtain⟨y,r1,_,r3⟩:=q 0 _ rfl
  have r3:y=.int .u8 (x.toNat:Int):=r3
  subst r3;exact r1
 | succ j=>simp[encB]at hy
theorem TL {src dst:Nat}{l:List UInt8}(hp:Pl n o t)(ho:o.op=.convert src dst x)(hs:P.underlying src=some (.slice e))(he:P.underlying e=some (.int .u8))(hd:P.underlying dst=some .string)
 (hx:DM F S x 1 (l.map byteP)):aw n P ops o F (sC ⟨l.toArray⟩) [] S:=
 aV hp fun C T g a w hA hR=>by
  refine⟨_,?_,rfl⟩
  simp only[execOp,ho,Sem.run_bind,Bs.toStr hs he hd (uf (hx n C T g a w hA hR))];rfl
end
class gx (P:Program)(t:TypeId)(d:outParam TypeDesc):Prop where h:P.underlying t=some d
class dZ (P:Program)(t:TypeId)(b:outParam Bool):Prop where h:∃d,P.underlying t=some d∧ip d=b
class gN (P:Program)(t:TypeId)(k:outParam Nat):Prop where h:P.cellsOf t=k:=by kernel_rfl
class bw (P:Program)(t f:Nat)(off:outParam Nat):Prop where h:Rs P t f off
class tl (P:Program)(t:TypeId)(e k b:outParam Nat):Prop where h:TI P t e k b
class k8 (P:Program)(t:TypeId)(z:outParam Value):Prop where h:(P.info? t).bind (·.zero)=some z:=by kernel_rfl
class jt (P:Program)(t:TypeId)(ls:outParam (List (Nat×Nat))):Prop where h:A8 P t=some ls:=by kernel_rfl
theorem bK {P:Program}{T f:Nat}{fs:Array Field}(hT:P.underlying T=some (.struct fs))(h:(fs[f]?).map (fun x=>(x.offset,Nat.blt 0 (P.cellsOf x.type)))=some (off,true):=by kernel_rfl):bw P T f off:=⟨Rs.mk' hT h⟩
section
variable {f:St→Prop} {Q:Exit→St→Prop} {S:St} {i j:Nat}
theorem bD (h:f S):sw f Q .normal S:=h
theorem bF (h:Q .ret S):sw f Q .ret S:=h
theorem bG (h:Q (.exit i) S):sw f Q (.exit i) S:=h
theorem de (h:Q .normal S):jK i Q .normal S:=h
theorem dg (h:Q .ret S):jK i Q .ret S:=h
theorem bH (h:Q .normal S):jK i Q (.exit i) S:=by simp only[jK,Xq];exact h
theorem bj (hb:Nat.beq j i=false)(h:Q (.exit j) S):jK i Q (.exit j) S:=by
 simp only[jK]
 rw[V3 (fun e=>by subst e;rw[Nat.beq_refl]at hb;cases hb)]
 exact h
end
section
variable {P:Program} {n:Nat} {ops:Array Oper} {l:List Oper} {o:Oper} {F:List Nat} {S:St} {t:Nat} {c:Cnt} {b:Upd} {Q:St→Prop}
theorem aB (hd:o.dst=some t)(h:aw n P ops o F c b S)(k:AL P n ops Q l (S.app (some t) c b)):AL P n ops Q (o::l) S:=FT h (by rw[hd];exact k)
theorem aC (hd:o.dst=none)(h:aw n P ops o F c b S)(k:AL P n ops Q l (S.putB b)):AL P n ops Q (o::l) S:=FT h (by rw[hd];exact k)
theorem aD {done:List (List Nat×List Nat)}(hd:o.dst=some t)(h:aw n P ops o F c b S)(k:AD P n ops Q (done++[(F,Kg (some t) b)]) l (S.app (some t) c b)):AD P n ops Q done (o::l) S:=FW h (by rw[hd];exact k)
theorem aF {done:List (List Nat×List Nat)}(hd:o.dst=none)(h:aw n P ops o F c b S)(k:AD P n ops Q (done++[(F,Kg none b)]) l (S.putB b)):AD P n ops Q done (o::l) S:=FW h (by rw[hd];exact k)
theorem aR {S':St}(h:Le n S S')(k:AL P n ops Q l S'):AL P n ops Q l S:=⟨fun C a w hr=>k.run C a w (h C a w hr)⟩
theorem qh {e:TypeId}(hp:Pl n o t)(ho:o.op=.load ty x)(hT:dZ P ty false)(hx:S.opd x=.ptr id vr off)(hv:S.ver id=vr)(hb:S.blk id=.box e cells)(hc:cells[off]?=some c) :
 aw n P ops o ((2*id+1)::az x) c [] S:=by obtain⟨d,h1,h2⟩:=hT.h;exact Ks hp ho h1 h2 hx hv hb hc
theorem oe {e:TypeId}(hp:Pl n o t)(ho:o.op=.load ty x)(hT:dZ P ty true)(hk:gN P ty k)(hx:S.opd x=.ptr id vr off)(hv:S.ver id=vr)(hb:S.blk id=.box e cells)
 (h0:Nat.blt 0 k=true) (hl:Nat.ble (off+k) cells.length=true) (hc:ru ((cells.drop off).take k)=some As):aw n P ops o ((2*id+1)::az x) (.per (cB As)) [] S:=by
 obtain⟨d,h1,h2⟩:=hT.h;exact Kt hp ho h1 h2 hk.h h0 hx hv hb hl hc
theorem mx (hp:Pl n o t)(ho:o.op=.load ty x)(hT:dZ P ty false)(hx:S.opd x=.per (fM cs))(hA:cs[0]?=some A):aw n P ops o (az x) (.per A) [] S:=by
 obtain⟨d,h1,h2⟩:=hT.h;exact AE hp ho h1 h2 hx hA
theorem my (hp:Pl n o t)(ho:o.op=.load ty x)(hT:dZ P ty true)(hk:gN P ty k)(hx:S.opd x=.per (fM cs))(hl:cs.length=k)(h0:Nat.blt 0 k=true):aw n P ops o (az x) (.per (cB cs)) [] S:=by
 obtain⟨d,h1,h2⟩:=hT.h;exact AF hp ho h1 h2 (by rw[hk.h,hl]) (by rw[hl];exact Wc h0) hx
theorem mz (hp:Pl n o t)(ho:o.op=.load ty x)(hT:dZ P ty false)(hx:S.opd x=.bpt cs)(hA:cs[0]?=some A):aw n P ops o (az x) (.per A) [] S:=by
 obtain⟨d,h1,h2⟩:=hT.h;exact AI hp ho h1 h2 hx hA
theorem mA (hp:Pl n o t)(ho:o.op=.load ty x)(hT:dZ P ty true)(hk:gN P ty k)(hx:S.opd x=.bpt cs)(hl:cs.length=k)(h0:Nat.blt 0 k=true):aw n P ops o (az x) (.per (cB cs)) [] S:=by
 obtain⟨d,h1,h2⟩:=hT.h;exact AJ hp ho h1 h2 (by rw[hk.h,hl]) (by rw[hl];exact Wc h0) hx
theorem bR {i j:Nat}(hp:Pl n o t)(ho:o.op=.load ty x)(hT:dZ P ty false)(hx:S.opd x=.ept id vr k i j)(hv:S.ver id=vr)(hb:S.blk id=.row e k es)(hi:es[i]?=some ps)(hj:ps[j]?=some A) :
 aw n P ops o ((2*id+1)::az x) (.per A) [] S:=by obtain⟨d,h1,h2⟩:=hT.h;exact DJ hp ho h1 h2 hx hv hb hi hj
theorem ax {i j m:Nat}(hp:Pl n o t)(ho:o.op=.load ty x)(hT:dZ P ty true)(hk:gN P ty m)(hx:S.opd x=.ept id vr k i j)(hv:S.ver id=vr)(hb:S.blk id=.row e k es)(hi:es[i]?=some ps)(hj:(ps.drop j).take m=As)(hl:As.length=m)(h0:Nat.blt 0 m=true) :
 aw n P ops o ((2*id+1)::az x) (.per (cB As)) [] S:=by obtain⟨d,h1,h2⟩:=hT.h;exact DK hp ho h1 h2 hk.h h0 hx hv hb hi hj hl
theorem tn {ty f:Nat}(hp:Pl n o t)(ho:o.op=.fieldAddr ty x f)(hf:bw P ty f fo)(hx:S.opd x=.ptr id vr off)(hv:S.ver id=vr):aw n P ops o ((2*id+1)::az x) (.ptr id vr (off+fo)) [] S:=Ku hp ho hf.h hx hv
theorem mB {ty f:Nat}(hp:Pl n o t)(ho:o.op=.fieldAddr ty x f)(hf:bw P ty f fo)(hx:S.opd x=.per (fM cs)):aw n P ops o (az x) (.per (fM (cs.drop fo))) [] S:=AG hp ho hf.h hx
theorem mC {ty f:Nat}(hp:Pl n o t)(ho:o.op=.fieldAddr ty x f)(hf:bw P ty f fo)(hx:S.opd x=.bpt cs):aw n P ops o (az x) (.bpt (cs.drop fo)) [] S:=AH hp ho hf.h hx
theorem w6 {ty f:Nat}{i j:Nat}(hp:Pl n o t)(ho:o.op=.fieldAddr ty x f)(hf:bw P ty f fo)(hx:S.opd x=.ept id vr k i j)(hv:S.ver id=vr):aw n P ops o ((2*id+1)::az x) (.ept id vr k i (j+fo)) [] S:=DI hp ho hf.h hx hv
theorem F0 {e:TypeId}{z:Value}(hp:Pl n o t)(ho:o.op=.alloc e)(hz:k8 P e z)(h1:z.cells.toList.all (·.oneCell')=true):aw n P ops o [2*t+1] (.ptr t (S.ver t+1) 0) [(t,S.ver t+1,.box e (z.cells.toList.map Ko))] S:=Kr hp ho hz.h h1
theorem Bb {e:TypeId}(hp:Dw o)(ho:o.op=.store ty x y)(hk:gN P ty 1)(hx:S.opd x=.ptr id vr off)(hv:S.ver id=vr)(hb:S.blk id=.box e cells)(hl:Nat.ble (off+1) cells.length=true)(hy:S.opd y=.per A)(h1:rt A) :
 aw n P ops o ((2*id+1)::(az x++az y)) .any [(id,vr,.box e (kU cells off [.per A]))] S:=Hr hp ho hk.h hx hv hb hl hy h1
theorem ug {e:TypeId}(hp:Dw o)(ho:o.op=.store ty x y)(hk:gN P ty k)(hx:S.opd x=.ptr id vr off)(hv:S.ver id=vr)(hb:S.blk id=.box e cells)(h0:Nat.blt 0 k=true)(hl:Nat.ble (off+k) cells.length=true)(hy:S.opd y=.per (cB As))(hn:As.length=k) :
 aw n P ops o ((2*id+1)::(az x++az y)) .any [(id,vr,.box e (kU cells off (As.map .per)))] S:=Hs hp ho hk.h h0 hx hv hb hl hy hn
theorem iO {e:TypeId}{i:Nat}(hp:Pl n o t)(ho:o.op=.indexAddr ty x ix)(hT:gx P ty (.slice e))(hk:gN P e k)(h0:Nat.blt 0 k=true)(hx:S.opd x=.per (cA k es))(hi:S.opd ix=iC kk z)(hz:z=(i:Int))(hc:es[i]?=some cs) :
 aw n P ops o (az x++az ix) (.per (fM cs)) [] S:=Kv hp ho hT.h hk.h h0 hx hi hz hc
theorem og {e:TypeId}{i:Nat}(hp:Pl n o t)(ho:o.op=.indexAddr ty x ix)(hT:gx P ty (.slice e))(hk:gN P e k)(h0:Nat.blt 0 k=true)(hx:S.opd x=.bor k es)(hi:S.opd ix=iC kk z)(hz:z=(i:Int))(hc:es[i]?=some cs) :
 aw n P ops o (az x++az ix) (.bpt cs) [] S:=DG hp ho hT.h hk.h h0 hx hi hz hc
theorem rx {i:Nat}(hp:Pl n o t)(ho:o.op=.indexAddr ty x ix)(hT:gx P ty (.slice e'))(hk:gN P e' k)(h0:Nat.blt 0 k=true)(hx:S.opd x=.row id vr)(hv:S.ver id=vr)(hb:S.blk id=.row e k es)(hi:S.opd ix=iC kk z)(hz:z=(i:Int))(hlt:i<es.length) :
 aw n P ops o ((2*id+1)::(az x++az ix)) (.ept id vr k i 0) [] S:=DH hp ho hT.h hk.h h0 hx hv hb hi hz hlt
theorem gZ {i:Nat}{c:UInt8}(hp:Pl n o t)(ho:o.op=.index ty x ix)(hT:gx P ty .string)(hx:S.opd x=sC s)(hi:S.opd ix=iC kk z)(hz:z=(i:Int))(hc:s.data.toList[i]?=some c) :
 aw n P ops o (az x++az ix) (iC .u8 (c.toNat:Int)) [] S:=Ht hp ho hT.h hx hi hz hc
theorem Bc {e:TypeId}(hp:Pl n o t)(ho:kE o ty x)(hT:gx P ty (.slice e))(hx:S.opd x=.per (cA k es)):aw n P ops o (az x) (iC .i64 (es.length:Int)) [] S:=R7 hp ho hT.h hx
theorem qi {e:TypeId}(hp:Pl n o t)(ho:kE o ty x)(hT:gx P ty (.slice e))(hx:S.opd x=.bor k es):aw n P ops o (az x) (iC .i64 (es.length:Int)) [] S:=Kw hp ho hT.h hx
theorem tt (hp:Pl n o t)(ho:kE o ty x)(hT:gx P ty .string)(hx:S.opd x=sC s):aw n P ops o (az x) (iC .i64 (s.size:Int)) [] S:=Kx hp ho hT.h hx
theorem qj (hp:Pl n o t)(ho:kE o ty x)(hT:gx P ty (.slice e'))(hx:S.opd x=.row id vr)(hv:S.ver id=vr)(hb:S.blk id=.row e k es) :
 aw n P ops o ((2*id+1)::az x) (iC .i64 (es.length:Int)) [] S:=Ky hp ho hT.h hx hv hb
theorem KG {e:TypeId}{l:List α}{f:α→List PV}(hp:Pl n o t)(ho:kE o ty x)(hT:gx P ty (.slice e))(hx:S.opd x=.per (cA k (l.map f))):aw n P ops o (az x) (iC .i64 (l.length:Int)) [] S:=by
 have:=Bc (ops:=ops) hp ho hT hx
 rwa [V7]at this
theorem Bd {e:TypeId}{l:List α}{f:α→List PV}(hp:Pl n o t)(ho:kE o ty x)(hT:gx P ty (.slice e))(hx:S.opd x=.bor k (l.map f)):aw n P ops o (az x) (iC .i64 (l.length:Int)) [] S:=by
 have:=qi (ops:=ops) hp ho hT hx
 rwa [V7]at this
theorem Bf {l:List α}{f:α→List PV}(hp:Pl n o t)(ho:kE o ty x)(hT:gx P ty (.slice e'))(hx:S.opd x=.row id vr)(hv:S.ver id=vr)(hb:S.blk id=.row e k (l.map f)) :
 aw n P ops o ((2*id+1)::az x) (iC .i64 (l.length:Int)) [] S:=by
 have:=qj (ops:=ops) hp ho hT hx hv hb
 rwa [V7]at this
theorem d8 {src dst:TypeId}{k k':IntKind}(hp:Pl n o t)(ho:o.op=.convert src dst x)(hs:gx P src d)(hd:gx P dst (.int k))(hx:S.opd x=iC k' p)(hz:k.wrap p=z):aw n P ops o (az x) (iC k z) [] S:=
 O4 hp ho (by rw[hs.h];rfl) hd.h hx hz
def TM:Op→Nat
 | .move _=>0|.assign _=>1|.pick _ _ _=>2|.box _ _=>3|.alloc _=>4|.load _ _=>5|.store _ _ _=>6|.fieldAddr _ _ _=>7|.binOp _ _ _ _ _=>8|.unOp _ _ _=>9|.convert _ _ _=>10
 | .nilCheck _=>21|.makeFunc _ _ _=>22|.makeSlice _ _ _=>23
 | .slice _ _ _ _ _=>11|.indexAddr _ _ _=>12|.index _ _ _=>13|.build _ _=>14|.buildSlice _ _ _=>15|.extract _ _=>16
 | .call c=>match c.callee with
  | .builtin .len=>17
  | .builtin .append=>18
  | .builtin _=>19
  | _=>20
 | _=>99
theorem aZ (k:Nat)(_:TM o.op=k)(h:aw n P ops o F c b S):aw n P ops o F c b S:=h
theorem bI (_:o.guard.isSome=true)(h:aw n P ops o F c b S):aw n P ops o F c b S:=h
def Pf:Cnt→List Nat
 | .row id _=>[2*id+1]
 | _=>[]
def eN (S:St)(x:Operand):List Nat:=az x++Pf (S.opd x)
def fN (S:St)(xs:List Operand):List Nat:=xs.flatMap (eN S)
theorem ep (hx:S.opd x=.per A):jN (eN S x) S x (.per A):=Hu hx (fun k h=>by simp[eN,h])
theorem eR (hx:S.opd x=.per (cA k es)):jN (eN S x) S x (.bor k es):=Hv hx (fun k h=>by simp[eN,h])
theorem eS (hx:S.opd x=.bor k es):jN (eN S x) S x (.bor k es):=Hw hx (fun k h=>by simp[eN,h])
theorem gk (hx:S.opd x=.row id vr)(hv:S.ver id=vr)(hb:S.blk id=.row e k es):jN (eN S x) S x (.bor k es):=Hx hx hv hb (fun k h=>by simp[eN,h]) (by simp[eN,hx,Pf])
theorem gl (hx:S.opd x=.per (ak (.slice none 0 0))):jN (eN S x) S x (.bor k []):=Hy hx (fun k h=>by simp[eN,h])
theorem eM (hx:S.opd x=.per (ak (.slice none 0 0))):jN (eN S x) S x (.per (cA k [])):=DL hx (fun k h=>by simp[eN,h])
theorem jN.mono {F F':List Nat}{c:Cnt}(h:jN F S x c)(hF:∀k∈F,k∈F'):jN F' S x c:=fun n C T g a w hA hR=>h n C T g a w ⟨fun t ht=>hA.1 t (hF _ ht),fun i hi=>hA.2 i (hF _ hi)⟩ hR
inductive GL (S:St):List Operand→List Cnt→Prop
 | nil:GL S [] []
 | cons {x:Operand} {c:Cnt} {xs:List Operand} {cs:List Cnt} (h:jN (eN S x) S x c) (t:GL S xs cs):GL S (x::xs) (c::cs)
theorem GL.gives {cs:List Cnt}(h:GL S xs cs){F:List Nat}(hF:∀k∈fN S xs,k∈F):mw F S xs cs:=by
 induction h with
 | nil=>exact .nil
 | cons h t ih=>exact .cons (h.mono (fun k hk=>hF k (by simp[fN,hk]))) (ih (fun k hk=>hF k (by simp only[fN,List.flatMap_cons,Wz];exact .inr hk)))
theorem yU {f:FuncId}{As:List Cnt}(hp:Pl n o t)(ho:j4 o f xs)(hf:Fn P f As r)(hpl:r.plain=true)(hg:GL S xs As):aw n P ops o (fN S xs) (ud t 0 r) [] S:=O5 hp ho hf hpl (hg.gives fun _ h=>h)
theorem uh {f:FuncId}{As:List Cnt}(hp:Pl n o t)(ho:j4 o f xs)(hf:Fn P f As (.own e k es))(hg:GL S xs As) :
 aw n P ops o ((2*t+1)::fN S xs) (.row t (S.ver t+1)) [(t,S.ver t+1,.row e k es)] S:=AR hp ho hf (hg.gives fun _ h=>by simp[h]) au
theorem sx {f:FuncId}{As:List Cnt}(hp:Pl n o t)(ho:j4 o f xs)(hf:Fn P f As (.tup2 (.own e k es) (.per (ak u))))(hg:GL S xs As) :
 aw n P ops o ((2*t+1)::fN S xs) (.tup2 (.row t (S.ver t+1)) (.per (ak u))) [(t,S.ver t+1,.row e k es)] S:=yS hp ho hf (hg.gives fun _ h=>by simp[h]) au
theorem ry (hx:S.opd x=.per (cA k ns)):DM (eN S x) S x k ns:=O6 hx (fun k h=>by simp[eN,h])
theorem rz (hx:S.opd x=.bor k ns):DM (eN S x) S x k ns:=O7 hx (fun k h=>by simp[eN,h])
theorem rA (hx:S.opd x=.row id vr)(hv:S.ver id=vr)(hb:S.blk id=.row e k es):DM (eN S x) S x k es:=O8 hx hv hb (fun k h=>by simp[eN,h]) (by simp[eN,hx,Pf])
theorem DM.mono {F F':List Nat}(h:DM F S x k ns)(hF:∀k∈F,k∈F'):DM F' S x k ns:=fun n C T g a w hA hR=>h n C T g a w ⟨fun t ht=>hA.1 t (hF _ ht),fun i hi=>hA.2 i (hF _ hi)⟩ hR
theorem Rt {s:Operand}(hp:Pl n o t)(ho:qg o ty s x)(hT:tl P ty e k bytes)(hk:Nat.blt 0 k=true)
 (hs:S.opd s=.row id vr) (hv:S.ver id=vr) (hb:S.blk id=.row e k es) (hx:DM (eN S x) S x k ns)
 (hlen:es.length+ns.length≤1000000000000) (hby:Nat.ble bytes 140=true) (hfx:fq id=false:=by rfl) :
 aw n P ops o ((2*id+1)::(az s++eN S x)) (.row id (vr+1)) [(id,vr+1,.row e k (es++ns))] S:=HG hp ho hT.h hk hs hv hb (hx.mono fun k h=>by simp[h]) (fun k h=>by simp[h]) (by unfold maxLen;omega) (hfx:=hfx)
  (W7 (Nat.mul_le_mul hlen (Wc hby)) bz)
theorem F1 {z:Value}{ls:List (Nat×Nat)}(hp:Pl n o t)(ho:o.op=.build ty parts.toArray)(hl:jt P ty ls)(hz:k8 P ty z)
 (h1:z.cells.toList.all (·.oneCell')=true) (hpt:bM S parts pps) (hf:mX (fun i=>ls[i]?) (AZ z.cells.toList) pps=some cs):aw n P ops o (iq parts) (.per (cB cs)) [] S:=KE hp ho hl.h hz.h h1 hpt hf
theorem Bg {ty:Nat}{z:Value}(hp:Pl n o t)(ho:o.op=.buildSlice ty len parts.toArray)(hT:tl P ty e k bytes)(hz:k8 P e z)(hk:Nat.blt 0 k=true)(hlen:Nat.blt 0 len=true)
 (h1:z.cells.toList.all (·.oneCell')=true) (hzk:z.cells.size=k) (hsm:Nat.ble (len*k) 16777216=true) (hpt:bM S parts pps) (hf:mX (fun i=>some (i*k,k)) (ww k len z.cells.toList) pps=some cs) :
 aw n P ops o (iq parts) (.per (cA k (mY k len cs))) [] S:=HM hp ho hT.h hk hlen hz.h h1 hzk hsm hpt hf
theorem cq {ty:Nat}{z:Value}(hp:Pl n o t)(ho:o.op=.buildSlice ty len parts.toArray)(hT:tl P ty e k bytes)(hz:k8 P e z)(hk:Nat.blt 0 k=true)(hlen:Nat.blt 0 len=true)
 (h1:z.cells.toList.all (·.oneCell')=true) (hzk:z.cells.size=k) (hsm:Nat.ble (len*k) 16777216=true) (hpt:bM S parts pps) (hf:mX (fun i=>some (i*k,k)) (ww k len z.cells.toList) pps=some cs) :
 aw n P ops o ((2*t+1)::iq parts) (.row t (S.ver t+1)) [(t,S.ver t+1,.row e k (mY k len cs))] S:=wx hp ho hT.h hk hlen hz.h h1 hzk hsm hpt hf
theorem w7 {ty:Nat}(hp:Pl n o t)(ho:o.op=.buildSlice ty 0 #[])(hT:tl P ty e k bytes):aw n P ops o [2*t+1] (.row t (S.ver t+1)) [(t,S.ver t+1,.row e k [])] S:=DP hp ho hT.h
theorem jO {ty l:Nat}{f:α→List PV}(hp:Pl n o t)(ho:o.op=.slice ty x lo hi none)(hT:gx P ty (.slice e))(hk:gN P e k)(h0:Nat.blt 0 k=true)(hx:S.opd x=.per (cA k (m.map f)))(hb:J8 S lo hi m.length l h) :
 aw n P ops o (az x++m7 lo hi) (.per (cA k (((m.drop l).take (h-l)).map f))) [] S:=KF hp ho hT.h hk.h h0 hx (by rw[V7];exact hb) (by rw[←List.map_drop,←List.map_take])
theorem pC {ty l:Nat}{f:α→List PV}(hp:Pl n o t)(ho:o.op=.slice ty x lo hi none)(hT:gx P ty (.slice e))(hk:gN P e k)(h0:Nat.blt 0 k=true)(hx:S.opd x=.bor k (m.map f))(hb:J8 S lo hi m.length l h) :
 aw n P ops o (az x++m7 lo hi) (.bor k (((m.drop l).take (h-l)).map f)) [] S:=DQ hp ho hT.h hk.h h0 hx (by rw[V7];exact hb) (by rw[←List.map_drop,←List.map_take])
theorem drop_take (m:List α)(l:Nat):(m.drop l).take (m.length-l)=m.drop l:=Wd au
theorem Bh {ty l:Nat}{f:α→List PV}(hp:Pl n o t)(ho:o.op=.slice ty x lo none none)(hT:gx P ty (.slice e))(hk:gN P e k)(h0:Nat.blt 0 k=true)(hx:S.opd x=.per (cA k (m.map f)))(hb:J8 S lo none m.length l h)(hh:h=m.length) :
 aw n P ops o (az x++m7 lo none) (.per (cA k ((m.drop l).map f))) [] S:=by
 have:=jO (ops:=ops) hp ho hT hk h0 hx hb
 rw[hh,drop_take]at this;exact this
theorem Bi {ty:Nat}{f:α→List PV}(hp:Pl n o t)(ho:o.op=.slice ty x none hi none)(hT:gx P ty (.slice e))(hk:gN P e k)(h0:Nat.blt 0 k=true)(hx:S.opd x=.per (cA k (m.map f)))(hb:J8 S none hi m.length 0 h) :
 aw n P ops o (az x++m7 none hi) (.per (cA k ((m.take h).map f))) [] S:=jO hp ho hT hk h0 hx hb
theorem ui {ty:Nat}{f:α→List PV}(hp:Pl n o t)(ho:o.op=.slice ty x none hi none)(hT:gx P ty (.slice e))(hk:gN P e k)(h0:Nat.blt 0 k=true)(hx:S.opd x=.bor k (m.map f))(hb:J8 S none hi m.length 0 h) :
 aw n P ops o (az x++m7 none hi) (.bor k ((m.take h).map f)) [] S:=pC hp ho hT hk h0 hx hb
theorem Bj {ty l:Nat}{s':ByteArray}(hp:Pl n o t)(ho:o.op=.slice ty x lo hi none)(hT:gx P ty .string)(hx:S.opd x=sC s)(hb:J8 S lo hi s.size l h)(he:s.extract l h=s') :
 aw n P ops o (az x++m7 lo hi) (sC s') [] S:=HN hp ho hT.h hx hb he
theorem TN {src dst:Nat}{l:List UInt8}(hp:Pl n o t)(ho:o.op=.convert src dst x)(hs:gx P src (.slice e))(he:gx P e (.int .u8))(hd:gx P dst .string)(hx:DM (eN S x) S x 1 (l.map byteP)):aw n P ops o (eN S x) (sC ⟨l.toArray⟩) [] S:=TL hp ho hs.h he.h hd.h hx
theorem kn {β:Type}{l:List α}{f:α→β}{i:Nat}(h:i<l.length):(l.map f)[i]?=some (f l[i]):=by simp[h]
theorem cJ {f:α→List PV}{t:Nat}{l l':List α}(h:S.get t=.row id vr)(hv:S.ver id=vr)(hb:S.blk id=.row e k (l.map f))(hl:l=l'):cC P n S (.tmp t) (.own e k (l'.map f)):=fT h hv (hl▸hb)
theorem al {t:Nat}{k:IntKind}{z':Int}(h:S.get t=.per (ak (.int k z)))(hz:z=z'):cC P n S (.tmp t) (.per (ak (.int k z'))):=dA (hz▸h)
theorem aL {t:Nat}{z z':Bool}(h:S.get t=.per (ak (.bool z)))(hz:z=z'):cC P n S (.tmp t) (.per (ak (.bool z'))):=dA (hz▸h)
theorem R9 {t:Nat}{z z':ByteArray}(h:S.get t=.per (ak (.string z)))(hz:z=z'):cC P n S (.tmp t) (.per (ak (.string z'))):=dA (hz▸h)
theorem k9 {f:α→List PV}{t:Nat}{l l':List α}(h:S.get t=.per (cA k (l.map f)))(hl:l=l'):cC P n S (.tmp t) (.per (cA k (l'.map f))):=dA (hl▸h)
theorem Sa {f:α→List PV}{t:Nat}{l l':List α}(h:S.get t=.row id vr)(hv:S.ver id=vr)(hb:S.blk id=.row e k (l.map f))(hl:l=l'):cC P n S (.tmp t) (.per (cA k (l'.map f))):=DN h hv (hl▸hb)
theorem Dx {k:IntKind}{z':Int}(h:z=z'):(Cnt.per (ak (.int k z)))=.per (ak (.int k z')):=by rw[h]
theorem pb {z z':Bool}(h:z=z'):(Cnt.per (ak (.bool z)))=.per (ak (.bool z')):=by rw[h]
theorem ke {D D':List PV}{c:Cnt}(h:D=D'):Blk.mix e D c=.mix e D' c:=by rw[h]
theorem mD {es':List (List PV)}(h:es=es'):Blk.row e k es=.row e k es':=by rw[h]
theorem uj {P:Program}{n:Nat}{Q:Exit→St→Prop}{S:St}{c:Code}(N:Nat)(I:Nat→St)(h0:Le n S (I 0))
 (round:∀k,k≤N→AW P n c (sw (fun S'=>k<N∧Le n S' (I (k+1))) Q) (I k)):AW P n (.loop c) Q S:=by
 refine FX (X:={ k:Nat // k≤N }) (fun k=>I k.1) (fun k=>N-k.1) ⟨0,Wa _⟩ h0 (fun⟨k,hk⟩=>⟨fun C a w hr=>?_⟩)
 refine wp_mono ((round k hk).run C a w hr) (fun e a w ⟨S',hq,hr⟩=>⟨S',?_,hr⟩)
 cases e with
 | normal=>exact⟨⟨k+1,hq.1⟩,by have:=hq.1;simp only;omega,hq.2⟩
 | _=>exact hq
theorem bZ {P:Program}{n:Nat}{Q:Exit→St→Prop}{S:St}{c:Code}{X:Type}(pre:X→Prop)(I:X→St)(mu:X→Nat)(x0:X)(hp:pre x0)(h0:Le n S (I x0))
 (round:∀x,pre x→AW P n c (sw (fun S'=>∃x',pre x'∧mu x'<mu x∧Le n S' (I x')) Q) (I x)):AW P n (.loop c) Q S:=by
 refine FX (X:={ x:X // pre x }) (fun x=>I x.1) (fun x=>mu x.1) ⟨x0,hp⟩ h0 (fun⟨x,hx⟩=>⟨fun C a w hr=>?_⟩)
 refine wp_mono ((round x hx).run C a w hr) (fun e a w ⟨S',hq,hr⟩=>⟨S',?_,hr⟩)
 cases e with
 | normal=>obtain⟨x',h1,h2,h3⟩:=hq;exact⟨⟨x',h1⟩,h2,h3⟩
 | _=>exact hq
end
end Go.Proofs.YtaclhhkblbacgaaGreat
