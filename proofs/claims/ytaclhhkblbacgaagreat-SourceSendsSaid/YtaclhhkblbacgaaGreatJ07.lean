/- Texts joined: Sq AbsY AbsX. -/
import Derived.Test.YtaclhhkblbacgaaGreatJ06
import Derived.Test.YtaclhhkblbacgaaGreatJ05
set_option maxRecDepth 10000
set_option maxHeartbeats 8000000
namespace Go.Proofs.YtaclhhkblbacgaaGreat
open Go.RowKit
variable {i:Nat} {ty:TypeId} {k:Nat} {es:List (List PV)} {z:Int} {G A0 A1 A2 A3 A4 A5:Prop}
section
variable {P:Program} {f:FuncId} {fn:Func} {body:Code} {As:List Cnt} {n:Nat} {S:St} {e:Exit} {rv rv':ResultVar} {r r':Ret} {pre post:List (Nat×Blk)} {c:Cnt}
theorem fi (hf:P.funcs[f]?=some fn)(hn:fn.ntmps=n)(h:AW P n body (fun e S=>(e=.ret∨e=.normal)∧nm P n fn S r) (Kl As))
 (hb : fn.body = some body := by rfl) (hm : (fn.name == "runtime.NumGoroutine") = false := by kernel_rfl) (hl : As.length ≤ n := by exact Wc rfl) (h1 : Nat.ble n 1000 = true := by rfl) : Fn P f As r :=
 Km hf hb hm hn hl h h1
theorem dH (hf:P.funcs[f]?=some fn)(hn:fn.ntmps=n)(h:AW P n body (fun e S=>(e=.ret∨e=.normal)∧sN P n fn S c post) (KL As pre))
 (hb : fn.body = some body := by rfl) (hm : (fn.name == "runtime.NumGoroutine") = false := by kernel_rfl) (hl : As.length ≤ n := by exact Wc rfl) (h1 : Nat.ble n 1000 = true := by rfl) : dh P f As pre c post :=
 HZ hf hb hm hn hl h h1
theorem dw (h:cC P n S rv r)(hf:fn.results=#[rv]:=by rfl)(he:e=.ret∨e=.normal:=by first|exact .inl rfl|exact .inr rfl):(e=.ret∨e=.normal)∧nm P n fn S r:=⟨he,KC hf h⟩
theorem d9 (h:cC P n S rv r)(h':cC P n S rv' r')(hf:fn.results=#[rv,rv']:=by rfl)(he:e=.ret∨e=.normal:=by first|exact .inl rfl|exact .inr rfl):(e=.ret∨e=.normal)∧nm P n fn S (.tup2 r r'):=⟨he,AV hf h h'⟩
variable {c' c'':Cnt} {rv'':ResultVar}
theorem j3 (hf:fn.results=#[]:=by rfl)(he:e=.ret∨e=.normal:=by first|exact .inl rfl|exact .inr rfl)(hp:eh S [(1000,1000)] post:=by repeat (first|exact eh.nil|refine eh.cons rfl (by rfl) ?_)):(e=.ret∨e=.normal)∧sN P n fn S .any post:=⟨he,TQ [(1000,1000)] hf rfl hp⟩
theorem gM (h:Bn P n S [(1000,1000)] rv c)(hf:fn.results=#[rv]:=by rfl)(he:e=.ret∨e=.normal:=by first|exact .inl rfl|exact .inr rfl)(hp:eh S [(1000,1000)] post:=by repeat (first|exact eh.nil|refine eh.cons rfl (by rfl) ?_)):(e=.ret∨e=.normal)∧sN P n fn S c post:=⟨he,gq [(1000,1000)] hf rfl hp h⟩
theorem OY (h:Bn P n S [(1000,1000)] rv c)(h':Bn P n S [(1000,1000)] rv' c')(hf:fn.results=#[rv,rv']:=by rfl)(he:e=.ret∨e=.normal:=by first|exact .inl rfl|exact .inr rfl)(hp:eh S [(1000,1000)] post:=by repeat (first|exact eh.nil|refine eh.cons rfl (by rfl) ?_)):(e=.ret∨e=.normal)∧sN P n fn S (.tup2 c c') post:=⟨he,Bo [(1000,1000)] hf rfl hp h h'⟩
theorem Vb (τ:List (Nat×Nat))(h:Bn P n S τ rv c)(hf:fn.results=#[rv]:=by rfl)(hτ:Tz τ=true:=by rfl)(he:e=.ret∨e=.normal:=by first|exact .inl rfl|exact .inr rfl)(hp:eh S τ post:=by repeat (first|exact eh.nil|refine eh.cons rfl (by rfl) ?_)):(e=.ret∨e=.normal)∧sN P n fn S c post:=⟨he,gq τ hf hτ hp h⟩
theorem dp {p:Prop}(h:p:=by exact dw (aL rfl rfl)):p:=h
theorem wo {p:Prop}(h:p:=by exact dw (al rfl rfl)):p:=h
theorem nx {p:Prop}(h:p:=by exact dw (fT rfl rfl rfl)):p:=h
theorem OZ {p:Prop}(h:p:=by exact dw (dA rfl)):p:=h
theorem Sk {p:Prop}(h:p:=by exact Rv inferInstance inferInstance rfl rfl rfl rfl rfl rfl):p:=h
theorem D0 {p:Prop}(h:p:=by exact Ic inferInstance inferInstance rfl rfl rfl rfl rfl rfl):p:=h
end
section
variable {n:Nat} {S:St}
theorem Sm {id v id' v':Nat}{B B':Blk}{v0:Nat}{B0:Blk}(h:ub [(id,v,B),(id',v',B')] i=some (v0,B0)):(i=id∧v0=v∧B0=B)∨(i=id'∧v0=v'∧B0=B'):=by
 unfold ub at h
 cases hb:Nat.beq i id with
 | true=>rw[hb]at h;cases h;exact .inl ⟨bq.1 hb,rfl,rfl⟩
 | false=>
  rw[hb]at h
  have h':ub [(id',v',B')] i=some (v0,B0):=h
  rw[pB]at h'
  split at h'
  ·rename_i e;cases h';exact .inr ⟨e,rfl,rfl⟩
  ·cases h'
theorem F6 (id off idr e er k:Nat){cells:List Cnt}(hb:S.blk id=.box e cells)(hc:cells[off]?=some (.per (ak (.slice none 0 0))))(hne:Nat.beq idr id=false:=by rfl)(hfx:fq idr=false:=by rfl) :
 Le n S (S.app none .any [(id,S.ver id,.box e (cells.set off (.row idr (S.ver idr+1)))),(idr,S.ver idr+1,.row er k [])]):=by
 rintro C a w ⟨g,hR⟩
 have hne':idr≠id:=fun e=>by rw[bq.2 e]at hne;cases hne
 have hvr:∀i,(S.app none .any [(id,S.ver id,.box e (cells.set off (.row idr (S.ver idr+1)))),(idr,S.ver idr+1,.row er k [])]).ver i=if i=idr then S.ver idr+1 else S.ver i:=by
  intro i
  rw[St.app_ver]
  unfold ub
  cases h1:Nat.beq i id with
  | true=>
   have:=bq.1 h1
   subst this
   rw[V3 (XJ hne')];rfl
  | false=>
   show((ub [(idr,S.ver idr+1,Blk.row er k [])] i).map (·.1)).getD (S.ver i)=_
   rw[pB]
   split<;>rfl
 have hst:=od (v:=.slice none 0 0) (t:=idr) hR (eX.refl w) hvr hfx
 have hrh:(g.mkN idr (.slice none 0 0)).rh idr=.slice none 0 0:=V6 rfl
 have hid:hst=hst:=rfl
 refine⟨g.mkN idr (.slice none 0 0),?_⟩
 have key:=hR.appL (g':=g.mkN idr (.slice none 0 0)) (bs:=[(id,S.ver id,.box e (cells.set off (.row idr (S.ver idr+1)))),(idr,S.ver idr+1,.row er k [])]) (d:=none) (fun t h=>by cases h) (c:=.any) (v:=undef)
  (hst.cong (fun i hi=>by
    subst hi
    unfold ub
    rw[hne]
    show ub [(i,S.ver i+1,Blk.row er k [])] i≠none
    rw[pB,V6 rfl];simp)) trivial ?_
 ·exact key
 ·intro i v B hu
  rcases Sm hu with⟨rfl,rfl,rfl⟩|⟨rfl,rfl,rfl⟩
  ·have h0:=hst.brep (fun b id e=>(hR.dom b id e).1) (id:=i) (fun h=>hne' h.symm) (hR.blks i)
   rw[hb]at h0
   obtain⟨cs,q1,q2,q3,q4⟩:=h0
   refine⟨cs,q1,q2,by rw[q3];simp,fun j c hj=>?_⟩
   rw[List.getElem?_set]at hj
   split at hj
   ·rename_i e1
    subst e1
    split at hj
    ·cases hj
     obtain⟨y,r1,r2,r3⟩:=q4 off _ hc
     refine⟨y,r1,r2,by rw[hvr,V6 rfl];exact V8 _,fun _=>?_⟩
     rw[hrh];exact r3
    ·cases hj
   ·exact q4 j c hj
  ·exact .inl ⟨hrh,rfl⟩
end
def Sn (es:List (List PV)):PV:=⟨fun _ _ u=>∃b,u=.bool b∧(b=true→es=[]),fun _ _ _ h=>h⟩
section
variable {P:Program} {n:Nat} {ops:Array Oper} {o:Oper} {S:St} {t:Nat}
theorem F7 {e:TypeId}{x y:Operand}{a:Option Addr}{l c:Nat}(hT:P.underlying ty=some (.slice e))(w:World):(do eqGuard .eql ty x y (.slice a l c) (.slice none 0 0);binOp .eql ty (.slice a l c) (.slice none 0 0)).run P w=.ok (.bool a.isNone) w:=by
 rw[show eqGuard .eql ty x y (.slice a l c) (.slice none 0 0)=pure ()from rfl]
 exact Lib.run_eql_slice_nil w _ _ a l c 0 0 hT
theorem TT {ty' e:TypeId}{x:Operand}(hp:Pl n o t)(ho:o.op=.binOp .eql ty x (.const (.slice none 0 0)) ty')(hT:gx P ty (.slice e))(hx:DM (eN S x) S x k es) :
 aw n P ops o (eN S x) (.per (Sn es)) [] S:=
 aV hp fun C T g a w hA hR=>by
  obtain⟨ad,c,b,of,hv,_,_,_,h5,_⟩:=hx n C T g a w hA hR
  refine⟨.bool ad.isNone,fy ho hv rfl (F7 hT.h w),_,rfl,fun hn=>?_⟩
  rcases W6 es.length with q|q
  ·exact Wf q
  ·rw[(h5 q).1]at hn;cases hn
theorem Sp {ty' e:TypeId}{x:Operand}(hp:Pl n o t)(ho:o.op=.binOp .eql ty x (.const (.slice none 0 0)) ty')(hT:gx P ty (.slice e))(hx:DM (eN S x) S x k es)(h0:0<es.length) :
 aw n P ops o (eN S x) (bC false) [] S:=
 aV hp fun C T g a w hA hR=>by
  obtain⟨ad,c,b,of,hv,_,_,_,h5,_⟩:=hx n C T g a w hA hR
  exact⟨.bool false,fy ho hv rfl ((F7 hT.h w).trans (by rw[(h5 h0).1];rfl)),rfl⟩
theorem aH {Q:Exit→St→Prop}{c:Operand}{x y:Code}(hc:c=.tmp t)(hb:S.get t=.per (Sn es))
 (h1:es=[]→AW P n x Q S) (h2:AW P n y Q S):AW P n (.cond c x y) Q S:=⟨fun C a w hr=>by
 obtain⟨g,hg⟩:=hr
 have:=hg.slots t
 rw[hb]at this
 obtain⟨b,hv,hn⟩:=this
 subst hc
 exact wp_cond_split (t:=b) hv (fun h=>(h1 (hn h)).run C a w ⟨g,hg⟩) (fun _=>h2.run C a w ⟨g,hg⟩)⟩
theorem yY {w:World}{e:TypeId}{len:Nat}{kk:IntKind}{b of:Nat}(hT:P.underlying ty=some (.array len e))(hk:P.cellsOf e=k)(h0:0<k)(hi:i<len) :
 (Instr.indexAt ty (.pointer (some ⟨b,of,none⟩)) (.int kk (i:Int))).run P w=.ok (.pointer (some ⟨b,of+i*k,none⟩)) w:=by
 have hel:P.elem ty=e:=by unfold Program.elem;rw[hT]
 have hal:P.arrayLen ty=len:=by unfold Program.arrayLen;rw[hT]
 rw[run_indexAt_array (h:=by rw[hel,hal];exact hT),hal,V6 ⟨ab,ab⟩,hel,gD hk h0]
 simp[Result.andThen,Addr.add_lit]
theorem K2 {e:TypeId}{x ix:Operand}{id vr off len:Nat}{kk:IntKind}(hp:Pl n o t)(ho:o.op=.indexAddr ty x ix)(hT:gx P ty (.array len e))(hk:gN P e k)(h0:Nat.blt 0 k=true)
 (hx:S.opd x=.ptr id vr off) (hv:S.ver id=vr) (hi:S.opd ix=iC kk z) (hz:z=(i:Int)) (hlt:i<len):aw n P ops o ((2*id+1)::(az x++az ix)) (.ptr id vr (off+i*k)) [] S:=
 aV hp fun C T g a w hA hR=>by
  have h:=aG (x:=x) hA (fun k h=>by simp[h]) hR
  rw[hx]at h
  have h3:=aP (x:=ix) hA (fun k h=>by simp[h]) hR hi
  have hv':=(hA.2 id au).2
  have hev:=h.2 ab
  refine⟨.pointer (some ⟨g.ph id,off+i*k,none⟩),?_,⟨ab,fun _=>rfl⟩⟩
  subst hz
  simp only[execOp,ho,hev,h3,Sem.run_bind,yY hT.h hk.h (Wc h0) hlt];rfl
theorem Bz {e:TypeId}{x ix:Operand}{len:Nat}{kk:IntKind}{As:List PV}{A:PV}(hp:Pl n o t)(ho:o.op=.index ty x ix)(hT:gx P ty (.array len e))(hk:gN P e 1)(hE:dZ P e false)
 (hx:S.opd x=.per (cB As)) (hi:S.opd ix=iC kk z) (hz:z=(i:Int)) (hlt:i<len) (hA0:As[i]?=some A):aw n P ops o (az x++az ix) (.per A) [] S:=
 aV hp fun C T g a w hA hR=>by
  have h:=aG (x:=x) hA (fun k h=>by simp[h]) hR
  rw[hx]at h
  obtain⟨vs,hev,_,q⟩:=h
  obtain⟨y,q1,_,q3⟩:=q i A hA0
  have h3:=aP (x:=ix) hA (fun k h=>by simp[h]) hR hi
  obtain⟨d,hd,hd'⟩:=hE.h
  refine⟨y,?_,q3⟩
  subst hz
  simp only[execOp,ho,hev,h3,Instr.index,asIntOf,Sem.run_bind,Sem.run_pure,Result.andThen_ok,run_underlying hT.h]
  rw[V6 ⟨ab,ab⟩]
  simp only[Sem.run_bind,gD hk.h bz,Result.andThen_ok,part,nZ hd,hd']
  simp[q1]
end
theorem K3 (l:List Cnt)(j:Nat)(c:Cnt)(h:j<l.length):kU l j [c]=l.set j c:=by
 unfold kU
 rw[List.set_eq_take_append_cons_drop,V6 h]
 rfl
def TU (c c':Cnt):Prop:=∀(C:Ctx)(vr:Nat→Nat)(g:Gh)(w:World)(v:Value),crep C vr g w v c→crep C vr g w v c'
theorem Py:TU (.per (ak (.slice none 0 0))) (.per (cA k [])):=fun C vr g w v h=>by
 have h:v=.slice none 0 0:=h
 rw[h]
 exact⟨none,0,0,0,rfl,au,bz,fun _=>rfl,au,fun i cs hi=>by simp at hi⟩
theorem K4 {n:Nat}{S:St}(id e:Nat){cells cells':List Cnt}(hb:S.blk id=.box e cells)(hl:cells'.length=cells.length)(h:∀(j:Nat)(c c':Cnt),cells[j]?=some c→cells'[j]?=some c'→TU c c') :
 Le n S (S.app none .any [(id,S.ver id,.box e cells')]):=by
 rintro C a w ⟨g,hR⟩
 have hvr:∀i,(S.app none .any [(id,S.ver id,.box e cells')]).ver i=S.ver i:=fun i=>by
  rw[St.app_some_ver];split
  ·rename_i e;rw[e]
  ·rfl
 refine⟨g,hR.defers,hR.tsz,hR.nle,hR.keep,hR.os,hR.tape,hR.output,hR.size,hR.old,hR.n0,hR.n0l,hR.dom,fun t=>?_,fun i=>?_⟩
 ·rw[show(S.app none .any [(id,S.ver id,.box e cells')]).ver=S.ver from funext hvr,St.app_get]
  exact hR.slots t
 ·rw[show(S.app none .any [(id,S.ver id,.box e cells')]).ver=S.ver from funext hvr,St.app_some_blk]
  split
  ·rename_i hi
   subst hi
   have h0:=hR.blks i
   rw[hb]at h0
   obtain⟨cs,q1,q2,q3,q4⟩:=h0
   refine⟨cs,q1,q2,by rw[q3,hl],fun j c' hj=>?_⟩
   have hjl:j<cells.length:=by have:=(Ws.1 hj).1;omega
   obtain⟨y,r1,r2,r3⟩:=q4 j _ (V4 hjl)
   exact⟨y,r1,r2,h j _ c' (V4 hjl) hj C _ g w y r3⟩
  ·exact hR.blks i
section
variable {P:Program} {n:Nat} {ops:Array Oper} {o:Oper} {F:List Nat} {S:St} {c:Cnt} {b:Upd}
def TV:Op→Bool
 | .binOp p _ _ _ _=>match p with
  | .lss|.leq|.gtr|.geq|.eql|.neq=>true
  | _=>false
 | _=>false
def TW:Op→Bool
 | .binOp .sub _ _ _ _=>true
 | _=>false
theorem VL (_:TV o.op=true)(h:aw n P ops o F c b S):aw n P ops o F c b S:=h
theorem VM (_:TW o.op=true)(h:aw n P ops o F c b S):aw n P ops o F c b S:=h
theorem Pz (h:aw n P ops o F c b S:=by
 first
  | exact cT (c:=.per _) ⟨rfl,rfl,rfl⟩ rfl rfl
  | exact cT (c:=.row _ _) ⟨rfl,rfl,rfl⟩ rfl rfl
  | exact cT (c:=.bor _ _) ⟨rfl,rfl,rfl⟩ rfl rfl
  | exact cT (c:=.ptr _ _ _) ⟨rfl,rfl,rfl⟩ rfl rfl
  | exact cT (c:=.tup2 _ _) ⟨rfl,rfl,rfl⟩ rfl rfl
  | exact cT (c:=.tup3 _ _ _) ⟨rfl,rfl,rfl⟩ rfl rfl
  | exact cT (c:=.ept _ _ _ _ _) ⟨rfl,rfl,rfl⟩ rfl rfl
  | exact cT (c:=.vw _ _ _ _ _) ⟨rfl,rfl,rfl⟩ rfl rfl
  | exact cT (c:=.bpt _) ⟨rfl,rfl,rfl⟩ rfl rfl
  | exact cT (c:=.clo1 _ _) ⟨rfl,rfl,rfl⟩ rfl rfl
  | exact cT (c:=.clo2 _ _ _) ⟨rfl,rfl,rfl⟩ rfl rfl
  | exact cT (c:=.clo3 _ _ _ _) ⟨rfl,rfl,rfl⟩ rfl rfl
  | exact cT (c:=.aggK _ _) ⟨rfl,rfl,rfl⟩ rfl rfl
  | exact cT (c:=.any) ⟨rfl,rfl,rfl⟩ rfl rfl
  | fail):aw n P ops o F c b S:=h
theorem PA (h:aw n P ops o F c b S:=by
 first
  | exact cZ (c:=.per _) ⟨rfl,rfl,rfl⟩ rfl rfl
  | exact cZ (c:=.row _ _) ⟨rfl,rfl,rfl⟩ rfl rfl
  | exact cZ (c:=.bor _ _) ⟨rfl,rfl,rfl⟩ rfl rfl
  | exact cZ (c:=.ptr _ _ _) ⟨rfl,rfl,rfl⟩ rfl rfl
  | exact cZ (c:=.tup3 _ _ _) ⟨rfl,rfl,rfl⟩ rfl rfl
  | exact cZ (c:=.ept _ _ _ _ _) ⟨rfl,rfl,rfl⟩ rfl rfl
  | exact cZ (c:=.vw _ _ _ _ _) ⟨rfl,rfl,rfl⟩ rfl rfl
  | exact cZ (c:=.bpt _) ⟨rfl,rfl,rfl⟩ rfl rfl
  | exact cZ (c:=.tup2 _ _) ⟨rfl,rfl,rfl⟩ rfl rfl
  | exact cZ (c:=.clo1 _ _) ⟨rfl,rfl,rfl⟩ rfl rfl
  | exact cZ (c:=.clo2 _ _ _) ⟨rfl,rfl,rfl⟩ rfl rfl
  | exact cZ (c:=.clo3 _ _ _ _) ⟨rfl,rfl,rfl⟩ rfl rfl
  | exact cZ (c:=.aggK _ _) ⟨rfl,rfl,rfl⟩ rfl rfl
  | exact cZ (c:=.any) ⟨rfl,rfl,rfl⟩ rfl rfl
  | fail):aw n P ops o F c b S:=h
theorem PB (h:aw n P ops o F c b S:=by
 first
  | (apply nY<;>first|exact⟨rfl,rfl,rfl⟩|rfl|(intro hb0;first|rfl|exact an rfl (by rw[hb0];rfl)|exact an rfl (by simp_all)))
  | fail):aw n P ops o F c b S:=h
theorem PC (h:aw n P ops o F c b S:=by
 first
  | exact tY ⟨rfl,rfl,rfl⟩ rfl rfl
  | exact tZ ⟨rfl,rfl,rfl⟩ rfl rfl (by first|exact dJ rfl rfl|exact dK|exact eZ)
  | exact Bu ⟨rfl,rfl,rfl⟩ rfl rfl
  | exact u_box_c (c:=.ptr _ _ _) ⟨rfl,rfl,rfl⟩ rfl rfl (by first|exact fA (by first|exact dJ rfl rfl|exact dK|exact eZ)|exact fB rfl|exact fa rfl rfl|exact fC rfl rfl|exact ez|exact eA|exact eB)
  | exact u_box_c (c:=.row _ _) ⟨rfl,rfl,rfl⟩ rfl rfl (by first|exact fA (by first|exact dJ rfl rfl|exact dK|exact eZ)|exact fB rfl|exact fa rfl rfl|exact fC rfl rfl|exact ez|exact eA|exact eB)
  | exact u_box_c (c:=.clo1 _ _) ⟨rfl,rfl,rfl⟩ rfl rfl (by first|exact fA (by first|exact dJ rfl rfl|exact dK|exact eZ)|exact fB rfl|exact fa rfl rfl|exact fC rfl rfl|exact ez|exact eA|exact eB)
  | fail):aw n P ops o F c b S:=h
theorem PD (h:aw n P ops o F c b S:=by
 first
  | exact F0 ⟨rfl,rfl,rfl⟩ rfl inferInstance rfl
  | fail):aw n P ops o F c b S:=h
theorem PE (h:aw n P ops o F c b S:=by
 first
  | exact qh ⟨rfl,rfl,rfl⟩ rfl inferInstance rfl rfl rfl rfl
  | exact oe ⟨rfl,rfl,rfl⟩ rfl inferInstance inferInstance rfl rfl rfl rfl rfl rfl
  | exact mx ⟨rfl,rfl,rfl⟩ rfl inferInstance rfl rfl
  | exact my ⟨rfl,rfl,rfl⟩ rfl inferInstance inferInstance rfl rfl rfl
  | exact mz ⟨rfl,rfl,rfl⟩ rfl inferInstance rfl rfl
  | exact mA ⟨rfl,rfl,rfl⟩ rfl inferInstance inferInstance rfl rfl rfl
  | exact Pq ⟨rfl,rfl,rfl⟩ rfl inferInstance inferInstance rfl rfl rfl rfl rfl rfl
  | fail):aw n P ops o F c b S:=h
theorem PF (h:aw n P ops o F c b S:=by
 first
  | exact Bb ⟨rfl,rfl⟩ rfl inferInstance rfl rfl rfl rfl rfl (by first|exact dJ rfl rfl|exact dK|exact eZ)
  | exact ug ⟨rfl,rfl⟩ rfl inferInstance rfl rfl rfl rfl rfl rfl rfl
  | exact oq (c:=.ptr _ _ _) ⟨rfl,rfl⟩ rfl inferInstance rfl rfl rfl rfl rfl (by first|exact fA (by first|exact dJ rfl rfl|exact dK|exact eZ)|exact fB rfl|exact fa rfl rfl|exact fC rfl rfl|exact ez|exact eA|exact eB)
  | exact oq (c:=.row _ _) ⟨rfl,rfl⟩ rfl inferInstance rfl rfl rfl rfl rfl (by first|exact fA (by first|exact dJ rfl rfl|exact dK|exact eZ)|exact fB rfl|exact fa rfl rfl|exact fC rfl rfl|exact ez|exact eA|exact eB)
  | exact oq (c:=.clo1 _ _) ⟨rfl,rfl⟩ rfl inferInstance rfl rfl rfl rfl rfl (by first|exact fA (by first|exact dJ rfl rfl|exact dK|exact eZ)|exact fB rfl|exact fa rfl rfl|exact fC rfl rfl|exact ez|exact eA|exact eB)
  | exact yW ⟨rfl,rfl⟩ rfl inferInstance rfl rfl rfl rfl rfl rfl rfl
  | fail):aw n P ops o F c b S:=h
theorem PG (h:aw n P ops o F c b S:=by
 first
  | exact tn ⟨rfl,rfl,rfl⟩ rfl inferInstance rfl rfl
  | exact mB ⟨rfl,rfl,rfl⟩ rfl inferInstance rfl
  | exact mC ⟨rfl,rfl,rfl⟩ rfl inferInstance rfl
  | exact w6 ⟨rfl,rfl,rfl⟩ rfl inferInstance rfl rfl
  | fail):aw n P ops o F c b S:=h
theorem PH (h:aw n P ops o F c b S:=by
 first
  | (apply VL;(focus rfl);exact rq ⟨rfl,rfl,rfl⟩ rfl rfl rfl rfl)
  | (apply VM;(focus rfl);first|exact gC ⟨rfl,rfl,rfl⟩ rfl rfl rfl rfl (by with_reducible exact Po ab)|exact gC ⟨rfl,rfl,rfl⟩ rfl rfl rfl rfl (by with_reducible exact sub_one' ab))
  | exact gC ⟨rfl,rfl,rfl⟩ rfl rfl rfl rfl (cU (by first|omega|(simp;omega)|(simp[aQ];omega)) (by first|omega|(simp;omega)|(simp[aQ];omega)))
  | exact rq ⟨rfl,rfl,rfl⟩ rfl rfl rfl rfl
  | exact Ps ⟨rfl,rfl,rfl⟩ rfl rfl rfl (by first|omega|(simp;omega)|(simp[aQ];omega))
  | exact Pt ⟨rfl,rfl,rfl⟩ rfl inferInstance (by first|exact KU rfl rfl|exact Ru rfl)
  | exact Pu ⟨rfl,rfl,rfl⟩ rfl inferInstance (by first|exact KU rfl rfl|exact Ru rfl)
  | exact K0 ⟨rfl,rfl,rfl⟩ rfl inferInstance rfl
  | exact K1 ⟨rfl,rfl,rfl⟩ rfl inferInstance rfl
  | exact lq ⟨rfl,rfl,rfl⟩ rfl rfl rfl (by first|decide|omega|(simp;omega)) (Pn (by first|omega|(simp;omega)|(simp[aQ];omega)) (by first|omega|(simp;omega)|(simp[aQ];omega)) (by first|omega|(simp;omega)|(simp[aQ];omega)))
  | exact rr ⟨rfl,rfl,rfl⟩ rfl rfl rfl (by first|decide|omega|(simp;omega)) (Pm (by first|omega|(simp;omega)|(simp[aQ];omega)))
  | exact lq ⟨rfl,rfl,rfl⟩ rfl rfl rfl (by first|decide|omega|(simp;omega)) (cU (by first|omega|(simp;omega)|(simp[aQ];omega)) (by first|omega|(simp;omega)|(simp[aQ];omega)))
  | exact rr ⟨rfl,rfl,rfl⟩ rfl rfl rfl (by first|decide|omega|(simp;omega)) rfl
  | exact Sp ⟨rfl,rfl,rfl⟩ rfl inferInstance (by first|exact ry rfl|exact rA rfl rfl rfl|exact rz rfl|exact sr_nil rfl) (by first|assumption|omega|(simp;done)|(simp;omega))
  | exact TT ⟨rfl,rfl,rfl⟩ rfl inferInstance (by first|exact ry rfl|exact rA rfl rfl rfl|exact rz rfl|exact sr_nil rfl)
  | fail):aw n P ops o F c b S:=h
theorem PI (h:aw n P ops o F c b S:=by
 first
  | exact yO ⟨rfl,rfl,rfl⟩ rfl rfl
  | fail):aw n P ops o F c b S:=h
theorem K5 (h:aw n P ops o F c b S:=by
 first
  | exact d8 ⟨rfl,rfl,rfl⟩ rfl inferInstance inferInstance rfl (by with_reducible exact Ib _)
  | exact d8 ⟨rfl,rfl,rfl⟩ rfl inferInstance inferInstance rfl (cU ab ab)
  | exact d8 ⟨rfl,rfl,rfl⟩ rfl inferInstance inferInstance rfl rfl
  | exact TN ⟨rfl,rfl,rfl⟩ rfl inferInstance inferInstance inferInstance (by first|exact ry rfl|exact rA rfl rfl rfl|exact rz rfl|exact sr_nil rfl)
  | fail):aw n P ops o F c b S:=h
theorem K6 (h:aw n P ops o F c b S:=by
 first
  | exact Bh ⟨rfl,rfl,rfl⟩ rfl inferInstance inferInstance rfl rfl (by refine⟨?_,?_,?_,?_⟩<;>first|rfl|exact⟨_,_,rfl,rfl⟩|omega|(simp;done)|(simp;omega)) rfl
  | exact u_sliceD_b ⟨rfl,rfl,rfl⟩ rfl inferInstance inferInstance rfl rfl (by refine⟨?_,?_,?_,?_⟩<;>first|rfl|exact⟨_,_,rfl,rfl⟩|omega|(simp;done)|(simp;omega)) rfl
  | exact Bi ⟨rfl,rfl,rfl⟩ rfl inferInstance inferInstance rfl rfl (by refine⟨?_,?_,?_,?_⟩<;>first|rfl|exact⟨_,_,rfl,rfl⟩|omega|(simp;done)|(simp;omega))
  | exact ui ⟨rfl,rfl,rfl⟩ rfl inferInstance inferInstance rfl rfl (by refine⟨?_,?_,?_,?_⟩<;>first|rfl|exact⟨_,_,rfl,rfl⟩|omega|(simp;done)|(simp;omega))
  | exact jO ⟨rfl,rfl,rfl⟩ rfl inferInstance inferInstance rfl rfl (by refine⟨?_,?_,?_,?_⟩<;>first|rfl|exact⟨_,_,rfl,rfl⟩|omega|(simp;done)|(simp;omega))
  | exact pC ⟨rfl,rfl,rfl⟩ rfl inferInstance inferInstance rfl rfl (by refine⟨?_,?_,?_,?_⟩<;>first|rfl|exact⟨_,_,rfl,rfl⟩|omega|(simp;done)|(simp;omega))
  | exact u_slice ⟨rfl,rfl,rfl⟩ rfl inferInstance inferInstance rfl rfl (by refine⟨?_,?_,?_,?_⟩<;>first|rfl|exact⟨_,_,rfl,rfl⟩|omega|(simp;done)|(simp;omega)) rfl
  | exact u_slice_b ⟨rfl,rfl,rfl⟩ rfl inferInstance inferInstance rfl rfl (by refine⟨?_,?_,?_,?_⟩<;>first|rfl|exact⟨_,_,rfl,rfl⟩|omega|(simp;done)|(simp;omega)) rfl
  | exact Bj ⟨rfl,rfl,rfl⟩ rfl inferInstance rfl (by refine⟨?_,?_,?_,?_⟩<;>first|rfl|exact⟨_,_,rfl,rfl⟩|omega|(simp;done)|(simp;omega)) rfl
  | fail):aw n P ops o F c b S:=h
theorem K7 (h:aw n P ops o F c b S:=by
 first
  | exact iO ⟨rfl,rfl,rfl⟩ rfl inferInstance inferInstance rfl rfl rfl rfl (kn (by first|assumption|omega|(simp;done)|(simp;omega)))
  | exact og ⟨rfl,rfl,rfl⟩ rfl inferInstance inferInstance rfl rfl rfl rfl (kn (by first|assumption|omega|(simp;done)|(simp;omega)))
  | exact rx ⟨rfl,rfl,rfl⟩ rfl inferInstance inferInstance rfl rfl rfl rfl rfl rfl (by first|assumption|omega|(simp;done)|(simp;omega))
  | exact iO ⟨rfl,rfl,rfl⟩ rfl inferInstance inferInstance rfl rfl rfl rfl rfl
  | exact KZ ⟨rfl,rfl,rfl⟩ rfl inferInstance inferInstance rfl rfl rfl (by first|omega|(simp;omega)|(simp[aQ];omega)) (by first|assumption|omega|(simp;done)|(simp;omega))
  | exact u_indexZ_b ⟨rfl,rfl,rfl⟩ rfl inferInstance inferInstance rfl rfl rfl (by first|omega|(simp;omega)|(simp[aQ];omega)) (by first|assumption|omega|(simp;done)|(simp;omega))
  | exact DZ ⟨rfl,rfl,rfl⟩ rfl inferInstance inferInstance rfl rfl rfl rfl rfl (by first|omega|(simp;omega)|(simp[aQ];omega)) (by first|assumption|omega|(simp;done)|(simp;omega))
  | exact K2 ⟨rfl,rfl,rfl⟩ rfl inferInstance inferInstance rfl rfl rfl rfl rfl (by first|assumption|omega|(simp;done)|(simp;omega))
  | fail):aw n P ops o F c b S:=h
theorem K8 (h:aw n P ops o F c b S:=by
 first
  | exact gZ ⟨rfl,rfl,rfl⟩ rfl inferInstance rfl rfl rfl (V4 (by first|assumption|omega|(simp;done)|(simp;omega)))
  | exact lJ ⟨rfl,rfl,rfl⟩ rfl inferInstance rfl rfl (by first|omega|(simp;omega)|(simp[aQ];omega)) (by first|assumption|omega|(simp;done)|(simp;omega))
  | fail):aw n P ops o F c b S:=h
theorem K9 (h:aw n P ops o F c b S:=by
 first
  | (solve|(apply F1<;>first|exact⟨rfl,rfl,rfl⟩|rfl|infer_instance|(repeat (first|exact bM.nil|(apply bM.cons;(focus (first|exact aY rfl rfl rfl|exact dm rfl|exact dn rfl)))))))
  | (solve|(apply KY<;>first|exact⟨rfl,rfl,rfl⟩|rfl|infer_instance|(repeat (first|exact nv.nil|(apply nv.cons;(focus (first|exact partQ_agg rfl|exact kv (c:=.per _) rfl (by first|exact fA (by first|exact dJ rfl rfl|exact dK|exact eZ)|exact fB rfl|exact fa rfl rfl|exact fC rfl rfl|exact ez|exact eA|exact eB)|exact kv (c:=.ptr _ _ _) rfl (by first|exact fA (by first|exact dJ rfl rfl|exact dK|exact eZ)|exact fB rfl|exact fa rfl rfl|exact fC rfl rfl|exact ez|exact eA|exact eB)|exact kv (c:=.row _ _) rfl (by first|exact fA (by first|exact dJ rfl rfl|exact dK|exact eZ)|exact fB rfl|exact fa rfl rfl|exact fC rfl rfl|exact ez|exact eA|exact eB)|exact kv (c:=.clo1 _ _) rfl (by first|exact fA (by first|exact dJ rfl rfl|exact dK|exact eZ)|exact fB rfl|exact fa rfl rfl|exact fC rfl rfl|exact ez|exact eA|exact eB)|exact kv (c:=.clo2 _ _ _) rfl (by first|exact fA (by first|exact dJ rfl rfl|exact dK|exact eZ)|exact fB rfl|exact fa rfl rfl|exact fC rfl rfl|exact ez|exact eA|exact eB)|exact kv (c:=.clo3 _ _ _ _) rfl (by first|exact fA (by first|exact dJ rfl rfl|exact dK|exact eZ)|exact fB rfl|exact fa rfl rfl|exact fC rfl rfl|exact ez|exact eA|exact eB)|exact Pr rfl)))))))
  | fail):aw n P ops o F c b S:=h
theorem La (h:aw n P ops o F c b S:=by
 first
  | exact w7 ⟨rfl,rfl,rfl⟩ rfl inferInstance
  | (solve|(apply Bg<;>first|exact⟨rfl,rfl,rfl⟩|rfl|infer_instance|(repeat (first|exact bM.nil|(apply bM.cons;(focus (first|exact aY rfl rfl rfl|exact dm rfl|exact dn rfl)))))))
  | fail):aw n P ops o F c b S:=h
theorem Lb (h:aw n P ops o F c b S:=by
 first
  | exact AM ⟨rfl,rfl,rfl⟩ rfl rfl
  | exact AN ⟨rfl,rfl,rfl⟩ rfl rfl
  | exact AO ⟨rfl,rfl,rfl⟩ rfl rfl
  | exact AP ⟨rfl,rfl,rfl⟩ rfl rfl
  | exact AQ ⟨rfl,rfl,rfl⟩ rfl rfl
  | fail):aw n P ops o F c b S:=h
theorem Lc (h:aw n P ops o F c b S:=by
 first
  | exact tt ⟨rfl,rfl,rfl⟩ rfl inferInstance rfl
  | exact KG ⟨rfl,rfl,rfl⟩ rfl inferInstance rfl
  | exact Bd ⟨rfl,rfl,rfl⟩ rfl inferInstance rfl
  | exact Bf ⟨rfl,rfl,rfl⟩ rfl inferInstance rfl rfl rfl
  | exact Bc ⟨rfl,rfl,rfl⟩ rfl inferInstance rfl
  | exact qj ⟨rfl,rfl,rfl⟩ rfl inferInstance rfl rfl rfl
  | exact qi ⟨rfl,rfl,rfl⟩ rfl inferInstance rfl
  | fail):aw n P ops o F c b S:=h
theorem Ld (h:aw n P ops o F c b S:=by
 first
  | exact Rt ⟨rfl,rfl,rfl⟩ rfl inferInstance rfl rfl rfl rfl (by first|exact ry rfl|exact rA rfl rfl rfl|exact rz rfl|exact sr_nil rfl) (by first|omega|(simp;done)|(simp;omega)|(simp[aQ];done)|(simp[aQ];omega)|(simp at *;omega)) rfl
  | exact u_appS ⟨rfl,rfl,rfl⟩ rfl inferInstance inferInstance inferInstance rfl rfl rfl rfl (by first|omega|(simp;done)|(simp;omega)|(simp[aQ];done)|(simp[aQ];omega)|(simp at *;omega))
  | fail):aw n P ops o F c b S:=h
theorem Lf (h:aw n P ops o F c b S:=by
 first
  | exact KI ⟨rfl,rfl,rfl⟩ rfl rfl rfl
  | exact Sc ⟨rfl,rfl,rfl⟩ rfl rfl rfl
  | fail):aw n P ops o F c b S:=h
theorem Lg (h:aw n P ops o F c b S:=by
 first
  | exact Pk ⟨rfl,rfl,rfl⟩ rfl rfl rfl
  | exact DW ⟨rfl,rfl,rfl⟩ rfl rfl
  | fail):aw n P ops o F c b S:=h
theorem Lh (h:aw n P ops o F c b S:=by
 first
  | exact op_mkf0 ⟨rfl,rfl,rfl⟩ rfl
  | exact op_mkf1 ⟨rfl,rfl,rfl⟩ rfl
  | exact op_mkf2 ⟨rfl,rfl,rfl⟩ rfl
  | exact op_mkf3 ⟨rfl,rfl,rfl⟩ rfl
  | fail):aw n P ops o F c b S:=h
theorem Li (h:aw n P ops o F c b S:=by
 first
  | (apply aZ 8;(focus rfl);exact PH)
  | (apply aZ 5;(focus rfl);exact PE)
  | (apply aZ 0;(focus rfl);exact Pz)
  | (apply aZ 1;(focus rfl);exact PA)
  | (apply aZ 7;(focus rfl);exact PG)
  | (apply aZ 12;(focus rfl);exact K7)
  | (apply aZ 2;(focus rfl);exact PB)
  | (apply aZ 6;(focus rfl);exact PF)
  | (apply aZ 10;(focus rfl);exact K5)
  | (apply aZ 14;(focus rfl);exact K9)
  | (apply aZ 3;(focus rfl);exact PC)
  | (apply aZ 4;(focus rfl);exact PD)
  | (apply aZ 9;(focus rfl);exact PI)
  | (apply aZ 11;(focus rfl);exact K6)
  | (apply aZ 13;(focus rfl);exact K8)
  | (apply aZ 15;(focus rfl);exact La)
  | (apply aZ 16;(focus rfl);exact Lb)
  | (apply aZ 17;(focus rfl);exact Lc)
  | (apply aZ 18;(focus rfl);exact Ld)
  | (apply aZ 19;(focus rfl);exact Lf)
  | (apply aZ 21;(focus rfl);exact Lg)
  | (apply aZ 22;(focus rfl);exact Lh)
  | fail):aw n P ops o F c b S:=h
theorem cz (h:aw n P ops o F c b S:=by
 first
  | (apply bI;(focus rfl);first|(apply ag rfl rfl rfl rfl rfl;first|(apply aZ 2;(focus rfl);first|exact w8 ⟨rfl,rfl,rfl⟩ rfl rfl rfl rfl|exact w9 ⟨rfl,rfl,rfl⟩ rfl rfl rfl rfl)|exact Li)|exact Sb rfl rfl rfl rfl rfl rfl rfl|exact KH rfl rfl rfl rfl rfl rfl)
  | (apply aZ 2;(focus rfl);first|exact w8 ⟨rfl,rfl,rfl⟩ rfl rfl rfl rfl|exact w9 ⟨rfl,rfl,rfl⟩ rfl rfl rfl rfl)
  | exact Li):aw n P ops o F c b S:=h
end
def Ret.frz:Ret→Ret
 | .per A=>.per A
 | .own _ k es=>.per (cA k es)
 | .tup2 c d=>.tup2 c.frz d.frz
 | .tup3 c d e=>.tup3 c.frz d.frz e.frz
theorem Ret.frz_rep {N0:BP}{w w':World}(hN:∀b,N0 b→b<w.heap.size):∀{r:Ret} {v:Value},r.rep N0 w w' v→r.frz.rep N0 w w' v:=by
 intro r
 induction r with
 | per A=>intro v h;exact h
 | own e k es=>
  intro v h
  show eH N0 N0 k es w' v
  rcases h with⟨rfl,rfl⟩|⟨q,cap,cs,rfl,hq,hh,h1,h2,h3,h4⟩
  ·exact⟨none,0,0,0,rfl,au,bz,fun _=>rfl,au,fun i cs hi=>by simp at hi⟩
  ·have hlt:q<w'.heap.size:=by
    rcases Wm q w'.heap.size with h|h
    ·exact h
    ·rw[Array.getElem?_eq_none h]at hh;cases hh
   refine⟨_,cap,q,0,rfl,h1,h2,au,fun _=>⟨rfl,hlt,fun hn=>by have:=hN q hn;omega⟩,fun i ps hi=>?_⟩
   obtain⟨r1,r2⟩:=h4 i ps hi
   refine⟨r1,fun j A hj=>?_⟩
   obtain⟨y,s1,s2,s3⟩:=r2 j A hj
   exact⟨y,by rw[WF,eo hh];exact s1,s2,A.mono (V8 _) (fun _ _ _=>rfl) (fun b _ hb=>.inl hb) s3⟩
 | tup2 c d ih1 ih2=>rintro v ⟨x,y,rfl,h1,h2⟩;exact⟨x,y,rfl,ih1 h1,ih2 h2⟩
 | tup3 c d e ih1 ih2 ih3=>rintro v ⟨x,y,z,rfl,h1,h2,h3⟩;exact⟨x,y,z,rfl,ih1 h1,ih2 h2,ih3 h3⟩
theorem Fn.frz {P:Program}{f:FuncId}{As:List Cnt}{r:Ret}(h:Fn P f As r):Fn P f As r.frz:=
 ⟨h.ent,fun N0 w vs hN ha=>Calls.mono (h.run N0 w vs hN ha) fun _ _ ⟨v,h1,h2,h3⟩=>⟨v,h1,h2,Ret.frz_rep hN h3⟩⟩
section
variable {P:Program} {n:Nat} {ops:Array Oper} {o:Oper} {S:St}
theorem Lj {f:FuncId}{x0:Operand}{xs:List Operand}{As:List Cnt}{pre post:List (Nat×Blk)}{r:Cnt}(sg:List (Nat×Nat))(hf:dh P f As pre r post)(hp:H3 n o:=by exact⟨rfl,rfl⟩)(ho:kp o x0 xs:=by exact⟨_,rfl⟩)(hx:S.opd x0=.per (ak (.func (.func f) #[] #[])):=by rfl)(hok:KN sg=true:=by rfl)
 (hg:sy S sg xs As:=by first|((repeat (first|exact sy.nil|(refine sy.cons ?_ ?_;focus (first|exact pD rfl|exact pE rfl|exact gq_row rfl rfl rfl rfl|exact pF rfl|exact gq_nil rfl|exact gq_nil' rfl|exact nw rfl rfl))));done)|fail) (hpre:m8 S sg pre:=by first|((repeat (first|exact m8.nil|(refine m8.cons rfl rfl ?_)));done)|fail):aw n P ops o (az x0++(fN S xs++Dy sg)) (r.mp false (kV sg) z0 (wn S.ver sg)) (nr S post sg sg) S:=
 lH (cs:=[]) sg hp ho (Bt hx (fun k h=>by simp[h])) (by simpa using hf) hok (fun p h=>by simp[uq p h]) (hg.gives (fun _ h=>by simp at h ⊢;exact .inr (.inl h)) (fun _ h=>by simp[h])) hpre
end
class Cl (b:Bool)(p q:outParam Prop):Prop where
 t:b=true→p
 f:b=false→q
instance (priority:=low) {b:Bool}:Cl b (b=true) (b=false):=⟨fun h=>h,fun h=>h⟩
instance {p:Prop} [d:Decidable p]:Cl (decide p) p (¬p):=⟨of_decide_eq_true,of_decide_eq_false⟩
instance {α:Type} [BEq α] [LawfulBEq α] {a b:α}:Cl (a==b) (a=b) (a≠b):=⟨beq_iff_eq.1,beq_eq_false_iff_ne.1⟩
instance {α:Type} [BEq α] [LawfulBEq α] {a b:α}:Cl (a != b) (a≠b) (a=b):=⟨bne_iff_ne.1,bne_eq_false_iff_eq.1⟩
instance {b:Bool} {p q:Prop} [h:Cl b p q]:Cl (!b) q p:=⟨fun e=>h.f (by simpa using e),fun e=>h.t (by simpa using e)⟩
section
variable {P:Program} {n t:Nat} {ops:Array Oper} {o:Oper} {F:List Nat} {S:St} {c:Cnt} {b:Upd}
theorem dL {Q:Exit→St→Prop}{c:Operand}{x y:Code}{b:Bool}{p q:Prop}(hc:c=.tmp t)(hb:S.get t=bC b)[h:Cl b p q](k:(p→AW P n x Q S)∧(q→AW P n y Q S)):AW P n (.cond c x y) Q S:=
 jL hc hb (fun e=>k.1 (h.t e)) (fun e=>k.2 (h.f e))
theorem dM {l:List Oper}{Q:St→Prop}{j tg:Nat}{want b:Bool}{p q:Prop}(h1:o.guard=some (j,want))(h2:(ops[j]?).bind (·.dst)=some tg)(hb:S.get tg=bC b)[h:Cl b p q]
 (k:(p→AL P n ops Q (o::l) (S.put (some tg) (bC true)))∧(q→AL P n ops Q (o::l) (S.put (some tg) (bC false)))):AL P n ops Q (o::l) S:=
 oj h1 h2 hb (fun e=>k.1 (h.t e)) (fun e=>k.2 (h.f e))
theorem dN {l:List Oper}{Q:St→Prop}{done:List (List Nat×List Nat)}{j tg:Nat}{want b:Bool}{p q:Prop}(h1:o.guard=some (j,want))(h2:(ops[j]?).bind (·.dst)=some tg)(hb:S.get tg=bC b)[h:Cl b p q]
 (k:(p→AD P n ops Q done (o::l) (S.put (some tg) (bC true)))∧(q→AD P n ops Q done (o::l) (S.put (some tg) (bC false)))):AD P n ops Q done (o::l) S:=
 oo h1 h2 hb (fun e=>k.1 (h.t e)) (fun e=>k.2 (h.f e))
theorem ce {p:Prop}(hc:p)(h:p→False:=by
 intro hc
 first
  | contradiction
  | omega
  | (simp[*]at hc;done)
  | fail):G:=(h hc).elim
theorem nf {f:FuncId}{As:List Cnt}{r:Ret}(hf:Fn P f As r)(h:Fn P f As r→aw n P ops o F c b S:=by
 intro hf
 first
  | exact UZ hf
  | exact Ka hf
  | exact TS hf
  | (apply bI;(focus rfl);apply ag rfl rfl rfl rfl rfl;first|exact UZ hf|exact Ka hf|exact TS hf|fail)
  | fail):aw n P ops o F c b S:=h hf
theorem m9 {f:FuncId}{As:List Cnt}{pre post:List (Nat×Blk)}{r:Cnt}(hf:dh P f As pre r post)(h:dh P f As pre r post→aw n P ops o F c b S:=by
 intro hf
 first
  | exact Vx hf
  | (apply bI;(focus rfl);apply ag rfl rfl rfl rfl rfl;exact Vx hf)
  | fail):aw n P ops o F c b S:=h hf
theorem Lk {f:FuncId}{As:List Cnt}{pre post:List (Nat×Blk)}{r:Cnt}(hf:dh P f As pre r post)(h:dh P f As pre r post→aw n P ops o F c b S:=by
 intro hf
 first
  | exact Vy hf
  | (apply bI;(focus rfl);apply ag rfl rfl rfl rfl rfl;exact Vy hf)
  | fail):aw n P ops o F c b S:=h hf
def kW (_:List (Nat×Nat))(P:Program)(f:FuncId)(As:List Cnt)(pre:List (Nat×Blk))(r:Cnt)(post:List (Nat×Blk)):Prop:=dh P f As pre r post
theorem PJ {sg:List (Nat×Nat)}{f:FuncId}{xs:List Operand}{As:List Cnt}{pre post:List (Nat×Blk)}{r:Cnt}(hf:kW sg P f As pre r post)(hp:H3 n o:=by exact⟨rfl,rfl⟩)(ho:kp o (.func f) xs:=by exact⟨_,rfl⟩)(hok:KN sg=true:=by rfl)
 (hg:sy S sg xs As:=by first|((repeat (first|exact sy.nil|(refine sy.cons ?_ ?_;focus (first|exact pD rfl|exact pE rfl|exact gq_row rfl rfl rfl rfl|exact pF rfl|exact gq_nil rfl|exact gq_nil' rfl|exact nw rfl rfl))));done)|fail) (hpre:m8 S sg pre:=by first|((repeat (first|exact m8.nil|(refine m8.cons rfl rfl ?_)));done)|fail):aw n P ops o (fN S xs++Dy sg) (r.mp false (kV sg) z0 (wn S.ver sg)) (nr S post sg sg) S:=VK sg hf hp ho hok hg hpre
theorem TX {f:FuncId}{As:List Cnt}{pre post:List (Nat×Blk)}{r:Cnt}(sg:List (Nat×Nat))(hf:dh P f As pre r post)(h:kW sg P f As pre r post→aw n P ops o F c b S:=by
 intro hf
 first
  | exact PJ hf
  | (apply bI;(focus rfl);apply ag rfl rfl rfl rfl rfl;exact PJ hf)
  | fail):aw n P ops o F c b S:=h hf
end
structure W2 (A B:Prop):Prop where
 l:A
 r:B
structure W1 (p:Prop)(A:p→Prop):Prop where
 h:∀h:p,A h
structure Kq (A:Prop):Prop where
 h:A
theorem Kq.l {p:Prop}{A:p→Prop}(k:Kq (W1 p A))(h:p):Kq (A h):=⟨k.h.h h⟩
theorem Kq.a {p B:Prop}{A:p→Prop}(k:Kq (W2 (W1 p A) B))(h:p):Kq (A h):=⟨k.h.l.h h⟩
theorem Kq.b {p B:Prop}{A:p→Prop}(k:Kq (W2 B (W1 p A)))(h:p):Kq (A h):=⟨k.h.r.h h⟩
section
variable {P:Program} {n t:Nat} {ops:Array Oper} {o:Oper} {F:List Nat} {S:St} {c:Cnt} {b:Upd} {l:List Oper} {done:List (List Nat×List Nat)} {j tg:Nat} {want v:Bool} {p q:Prop} {Qa:p→Prop} {Qb:q→Prop}
section
variable {Q:Exit→St→Prop} {c:Operand} {x y:Code}
theorem yZ (k:Kq (W2 (W1 p Qa) (W1 q Qb)))(hc:c=.tmp t)(hb:S.get t=bC v)[h:Cl v p q](ka:(h:p)→Kq (Qa h)→AW P n x Q S)(kb:(h:q)→Kq (Qb h)→AW P n y Q S):AW P n (.cond c x y) Q S:=
 jL hc hb (fun e=>ka (h.t e) (k.a (h.t e))) (fun e=>kb (h.f e) (k.b (h.f e)))
theorem y0 (k:Kq (W1 p Qa))(hc:c=.tmp t)(hb:S.get t=bC v)[h:Cl v p q](hq:q→False)(ka:(h:p)→Kq (Qa h)→AW P n x Q S):AW P n (.cond c x y) Q S:=
 jL hc hb (fun e=>ka (h.t e) (k.l (h.t e))) (fun e=>(hq (h.f e)).elim)
theorem y6 (k:Kq (W1 q Qb))(hc:c=.tmp t)(hb:S.get t=bC v)[h:Cl v p q](hp:p→False)(kb:(h:q)→Kq (Qb h)→AW P n y Q S):AW P n (.cond c x y) Q S:=
 jL hc hb (fun e=>(hp (h.t e)).elim) (fun e=>kb (h.f e) (k.l (h.f e)))
theorem y7 {Qa:es=[]→Prop}{Qb:Prop}(k:Kq (W2 (W1 (es=[]) Qa) Qb))(hc:c=.tmp t)(hb:S.get t=.per (Sn es))(ka:(h:es=[])→Kq (Qa h)→AW P n x Q S)(kb:Kq Qb→AW P n y Q S):AW P n (.cond c x y) Q S:=
 aH hc hb (fun e=>ka e (k.a e)) (kb ⟨k.h.r⟩)
end
variable {Q:St→Prop}
theorem Ll (k:Kq (W2 (W1 p Qa) (W1 q Qb)))(h1:o.guard=some (j,want))(h2:(ops[j]?).bind (·.dst)=some tg)(hb:S.get tg=bC v)[h:Cl v p q]
 (ka:(h:p)→Kq (Qa h)→AL P n ops Q (o::l) (S.put (some tg) (bC true))) (kb:(h:q)→Kq (Qb h)→AL P n ops Q (o::l) (S.put (some tg) (bC false))):AL P n ops Q (o::l) S:=
 oj h1 h2 hb (fun e=>ka (h.t e) (k.a (h.t e))) (fun e=>kb (h.f e) (k.b (h.f e)))
theorem Lm (k:Kq (W1 p Qa))(h1:o.guard=some (j,want))(h2:(ops[j]?).bind (·.dst)=some tg)(hb:S.get tg=bC v)[h:Cl v p q]
 (hq:q→False) (ka:(h:p)→Kq (Qa h)→AL P n ops Q (o::l) (S.put (some tg) (bC true))):AL P n ops Q (o::l) S:=
 oj h1 h2 hb (fun e=>ka (h.t e) (k.l (h.t e))) (fun e=>(hq (h.f e)).elim)
theorem Ln (k:Kq (W1 q Qb))(h1:o.guard=some (j,want))(h2:(ops[j]?).bind (·.dst)=some tg)(hb:S.get tg=bC v)[h:Cl v p q]
 (hp:p→False) (kb:(h:q)→Kq (Qb h)→AL P n ops Q (o::l) (S.put (some tg) (bC false))):AL P n ops Q (o::l) S:=
 oj h1 h2 hb (fun e=>(hp (h.t e)).elim) (fun e=>kb (h.f e) (k.l (h.f e)))
theorem Lo (k:Kq (W2 (W1 p Qa) (W1 q Qb)))(h1:o.guard=some (j,want))(h2:(ops[j]?).bind (·.dst)=some tg)(hb:S.get tg=bC v)[h:Cl v p q]
 (ka:(h:p)→Kq (Qa h)→AD P n ops Q done (o::l) (S.put (some tg) (bC true))) (kb:(h:q)→Kq (Qb h)→AD P n ops Q done (o::l) (S.put (some tg) (bC false))):AD P n ops Q done (o::l) S:=
 oo h1 h2 hb (fun e=>ka (h.t e) (k.a (h.t e))) (fun e=>kb (h.f e) (k.b (h.f e)))
theorem Lp (k:Kq (W1 p Qa))(h1:o.guard=some (j,want))(h2:(ops[j]?).bind (·.dst)=some tg)(hb:S.get tg=bC v)[h:Cl v p q]
 (hq:q→False) (ka:(h:p)→Kq (Qa h)→AD P n ops Q done (o::l) (S.put (some tg) (bC true))):AD P n ops Q done (o::l) S:=
 oo h1 h2 hb (fun e=>ka (h.t e) (k.l (h.t e))) (fun e=>(hq (h.f e)).elim)
theorem Lq (k:Kq (W1 q Qb))(h1:o.guard=some (j,want))(h2:(ops[j]?).bind (·.dst)=some tg)(hb:S.get tg=bC v)[h:Cl v p q]
 (hp:p→False) (kb:(h:q)→Kq (Qb h)→AD P n ops Q done (o::l) (S.put (some tg) (bC false))):AD P n ops Q done (o::l) S:=
 oo h1 h2 hb (fun e=>(hp (h.t e)).elim) (fun e=>kb (h.f e) (k.l (h.f e)))
end
section
variable {P:Program} {n t:Nat} {ops:Array Oper} {o:Oper} {S:St}
theorem Lr {ty':TypeId}{x y:Operand}{k k':IntKind}{p q:Int}(hp:Pl n o t)(ho:o.op=.binOp .shr ty x y ty')(hx:S.opd x=iC k p)(hy:S.opd y=iC k' q)(hq:0≤q)(hz:p / 2 ^ min q.toNat k.bits=z):aw n P ops o (az x++az y) (iC k z) [] S:=
 aV hp fun C T g a w hA hR=>by
  have h1:=aP (x:=x) hA (fun k h=>by simp[h]) hR hx
  have h2:=aP (x:=y) hA (fun k h=>by simp[h]) hR hy
  subst hz
  refine⟨.int k (p / 2 ^ min q.toNat k.bits),fy ho h1 h2 ?_,rfl⟩
  rw[show eqGuard .shr ty x y (.int k p) (.int k' q)=pure ()from rfl]
  simp only[binOp_shr,shift_shr_any k k' p q hq]
  rfl
end
theorem wrap_u64 (h1:0≤z)(h2:z≤18446744073709551615):IntKind.u64.wrap z=z:=by
 simp[IntKind.wrap,IntKind.bits,IntKind.signed];omega
theorem Ls {h:Int}(e:z / 2=h):z / 2 ^ min (1:Int).toNat IntKind.u64.bits=h:=by
 rw[show min (1:Int).toNat IntKind.u64.bits=1 from rfl,Int.pow_one];exact e
section
variable {P:Program} {n t:Nat} {ops:Array Oper} {o:Oper} {F:List Nat} {S:St} {c:Cnt} {b:Upd}
theorem Ig {sg:List (Nat×Nat)}{f:FuncId}{As:List Cnt}{pre post:List (Nat×Blk)}{r:Cnt}(hf:kW sg P f As pre r post)(h:kW sg P f As pre r post→aw n P ops o F c b S:=by
 intro hf
 first
  | exact PJ hf
  | (apply bI;(focus rfl);apply ag rfl rfl rfl rfl rfl;exact PJ hf)
  | fail):aw n P ops o F c b S:=h hf
theorem Ih {f:FuncId}{As:List Cnt}{r:Ret}(hf:Fn P f As r)(h:Fn P f As r→aw n P ops o F c b S:=by
 intro hf
 first
  | (refine Ka (hf) (hg:=?_);((repeat (first|exact GL.nil|(refine GL.cons ?_ ?_;focus (first|exact ep rfl|exact eR rfl|exact gk rfl rfl rfl|exact eS rfl|exact gl rfl|exact eM rfl))));done))
  | (apply bI;(focus rfl);apply ag rfl rfl rfl rfl rfl;(refine Ka (hf) (hg:=?_);((repeat (first|exact GL.nil|(refine GL.cons ?_ ?_;focus (first|exact ep rfl|exact eR rfl|exact gk rfl rfl rfl|exact eS rfl|exact gl rfl|exact eM rfl))));done)))
  | fail):aw n P ops o F c b S:=h hf
theorem y8 {f:FuncId}{As:List Cnt}{r:Ret}(hf:Fn P f As r)(h:Fn P f As r→aw n P ops o F c b S:=by
 intro hf
 first
  | (refine UZ (hf) (hg:=?_);((repeat (first|exact GL.nil|(refine GL.cons ?_ ?_;focus (first|exact ep rfl|exact eR rfl|exact gk rfl rfl rfl|exact eS rfl|exact gl rfl|exact eM rfl))));done))
  | (apply bI;(focus rfl);apply ag rfl rfl rfl rfl rfl;(refine UZ (hf) (hg:=?_);((repeat (first|exact GL.nil|(refine GL.cons ?_ ?_;focus (first|exact ep rfl|exact eR rfl|exact gk rfl rfl rfl|exact eS rfl|exact gl rfl|exact eM rfl))));done)))
  | fail):aw n P ops o F c b S:=h hf
theorem y9 (h:aw n P ops o F c b S:=by
 first
  | (apply aZ 20;(focus rfl);first|exact nf kc1|exact nf kc2|exact nf kc3|exact nf kc4|exact nf kc5|exact nf kc6|exact nf kc7|exact nf kc8|exact nf kc9|exact nf kc10|exact nf kc11|exact nf kc12|exact nf kc13|exact nf kc14|exact nf kc15|exact nf kc16|exact y8 kf1|exact y8 kf2|exact y8 kf3|exact y8 kf4|exact y8 kf5|exact y8 kf6|exact y8 kf7|exact y8 kf8|exact y8 kf9|exact Ih ko1|exact Ih ko2|exact Ih ko3|exact Ih ko4|exact Ih ko5|exact Ih ko6|exact m9 kr1|exact m9 kr2|exact m9 kr3|exact m9 kr4|exact m9 kr5|exact m9 kr6|exact m9 kr7|exact m9 kr8|exact m9 kr9|exact Lk kn1|exact Lk kn2|exact Lk kn3|exact Ig km1|exact Ig km2|exact Ig km3|exact Ig km4|exact Ig km5|exact Ig km6|fail)
  | fail):aw n P ops o F c b S:=h
theorem PK (h:aw n P ops o F c b S:=by
 first|exact gC ⟨rfl,rfl,rfl⟩ rfl rfl rfl rfl ((cU ab ab).trans ke1.out)|exact gC ⟨rfl,rfl,rfl⟩ rfl rfl rfl rfl ((cU ab ab).trans ke2.out)|exact gC ⟨rfl,rfl,rfl⟩ rfl rfl rfl rfl ((cU ab ab).trans ke3.out)|fail):aw n P ops o F c b S:=h
theorem PL (h:aw n P ops o F c b S:=by
 first|exact bR ⟨rfl,rfl,rfl⟩ rfl inferInstance rfl rfl rfl kL1.out rfl|exact ax ⟨rfl,rfl,rfl⟩ rfl inferInstance inferInstance rfl rfl rfl kL1.out rfl rfl rfl|exact bR ⟨rfl,rfl,rfl⟩ rfl inferInstance rfl rfl rfl kL2.out rfl|exact ax ⟨rfl,rfl,rfl⟩ rfl inferInstance inferInstance rfl rfl rfl kL2.out rfl rfl rfl|exact bR ⟨rfl,rfl,rfl⟩ rfl inferInstance rfl rfl rfl kL3.out rfl|exact ax ⟨rfl,rfl,rfl⟩ rfl inferInstance inferInstance rfl rfl rfl kL3.out rfl rfl rfl|fail):aw n P ops o F c b S:=h
theorem PM (h:aw n P ops o F c b S:=by
 first|exact aM ⟨rfl,rfl⟩ rfl inferInstance rfl rfl rfl rfl kL1.out rfl (by first|exact aY rfl rfl rfl|exact .inl rfl) rfl kS1.out|exact aM ⟨rfl,rfl⟩ rfl inferInstance rfl rfl rfl rfl kL1.out rfl (by first|exact aY rfl rfl rfl|exact .inl rfl) rfl kS2.out|exact aM ⟨rfl,rfl⟩ rfl inferInstance rfl rfl rfl rfl kL2.out rfl (by first|exact aY rfl rfl rfl|exact .inl rfl) rfl kS1.out|exact aM ⟨rfl,rfl⟩ rfl inferInstance rfl rfl rfl rfl kL2.out rfl (by first|exact aY rfl rfl rfl|exact .inl rfl) rfl kS2.out|fail):aw n P ops o F c b S:=h
theorem PN (h:aw n P ops o F c b S:=by
 first|exact Lr ⟨rfl,rfl,rfl⟩ rfl rfl rfl bz (Ls kh1.out)|exact Lr ⟨rfl,rfl,rfl⟩ rfl rfl rfl bz (Ls kh2.out)|fail):aw n P ops o F c b S:=h
theorem Sq (h:aw n P ops o F c b S:=by
 first
  | (apply aZ 8;(focus rfl);have e:=kh1;exact PN)
  | (apply aZ 10;(focus rfl);have e:=kh1;exact d8 ⟨rfl,rfl,rfl⟩ rfl inferInstance inferInstance rfl (by with_reducible exact wrap_u64 ab ab))
  | (apply aZ 8;(focus rfl);have e:=ke1;exact PK)
  | (apply aZ 5;(focus rfl);have e:=kL1;exact PL)
  | (apply aZ 6;(focus rfl);have e:=kS1;exact PM)
  | fail):aw n P ops o F c b S:=h
end
theorem na (h:G:=by
 repeat' (first
  | refine ck ?_
  | refine bi ?_
  | refine bA ?_
  | refine bB ?_
  | refine cn ?_
  | refine aU ?_
  | refine bV cI ?_
  | refine ci ?_
  | refine cj (by kernel_rfl) ?_
  | ((first|apply aB rfl|apply aC rfl|apply aD rfl|apply aF rfl);focus (first|exact cz|exact y9|fail))
  | (apply y0 k rfl rfl;(focus (clear k;intro hc;(repeat rw[V7]at hc);exact ce hc));intro hc k;(repeat rw[V7]at hc))
  | (apply y6 k rfl rfl;(focus (clear k;intro hc;(repeat rw[V7]at hc);exact ce hc));intro hc k;(repeat rw[V7]at hc))
  | (apply yZ k rfl rfl;(case' ka=>intro hc k;(repeat rw[V7]at hc));(case' kb=>intro hc k;(repeat rw[V7]at hc)))
  | with_reducible refine bD ?_
  | with_reducible refine bF ?_
  | with_reducible refine bG ?_
  | with_reducible refine de ?_
  | with_reducible refine dg ?_
  | with_reducible refine bH ?_
  | refine bj rfl ?_
  | ((first|apply Lm k rfl rfl rfl|apply Lp k rfl rfl rfl);(focus (clear k;intro hc;(repeat rw[V7]at hc);exact ce hc));intro hc k;(fail_if_success (have q:(true=true):=hc));(fail_if_success (have q:(false=false):=hc)))
  | ((first|apply Ln k rfl rfl rfl|apply Lq k rfl rfl rfl);(focus (clear k;intro hc;(repeat rw[V7]at hc);exact ce hc));intro hc k;(fail_if_success (have q:(true=true):=hc));(fail_if_success (have q:(false=false):=hc)))
  | ((first|apply Ll k rfl rfl rfl|apply Lo k rfl rfl rfl);(case' ka=>intro hc k;(fail_if_success (have q:(true=true):=hc));(fail_if_success (have q:(false=false):=hc)));(case' kb=>intro hc k;(fail_if_success (have q:(true=true):=hc));(fail_if_success (have q:(false=false):=hc))))
  | (apply y7 k rfl rfl;(case' ka=>intro hc k);(case' kb=>intro k))
  | exact k.h)):G:=h
theorem lK (h:G:=by
 repeat' (first
  | refine ck ?_
  | refine bi ?_
  | refine bA ?_
  | refine bB ?_
  | refine cn ?_
  | refine aU ?_
  | refine bV cI ?_
  | refine ci ?_
  | refine cj (by kernel_rfl) ?_
  | ((first|apply aB rfl|apply aC rfl|apply aD rfl|apply aF rfl);focus (first|exact Sq|exact cz|exact y9|fail))
  | (apply y0 k rfl rfl;(focus (clear k;intro hc;(repeat rw[V7]at hc);exact ce hc));intro hc k;(repeat rw[V7]at hc))
  | (apply y6 k rfl rfl;(focus (clear k;intro hc;(repeat rw[V7]at hc);exact ce hc));intro hc k;(repeat rw[V7]at hc))
  | (apply yZ k rfl rfl;(case' ka=>intro hc k;(repeat rw[V7]at hc));(case' kb=>intro hc k;(repeat rw[V7]at hc)))
  | with_reducible refine bD ?_
  | with_reducible refine bF ?_
  | with_reducible refine bG ?_
  | with_reducible refine de ?_
  | with_reducible refine dg ?_
  | with_reducible refine bH ?_
  | refine bj rfl ?_
  | ((first|apply Lm k rfl rfl rfl|apply Lp k rfl rfl rfl);(focus (clear k;intro hc;(repeat rw[V7]at hc);exact ce hc));intro hc k;(fail_if_success (have q:(true=true):=hc));(fail_if_success (have q:(false=false):=hc)))
  | ((first|apply Ln k rfl rfl rfl|apply Lq k rfl rfl rfl);(focus (clear k;intro hc;(repeat rw[V7]at hc);exact ce hc));intro hc k;(fail_if_success (have q:(true=true):=hc));(fail_if_success (have q:(false=false):=hc)))
  | ((first|apply Ll k rfl rfl rfl|apply Lo k rfl rfl rfl);(case' ka=>intro hc k;(fail_if_success (have q:(true=true):=hc));(fail_if_success (have q:(false=false):=hc)));(case' kb=>intro hc k;(fail_if_success (have q:(true=true):=hc));(fail_if_success (have q:(false=false):=hc))))
  | (apply y7 k rfl rfl;(case' ka=>intro hc k);(case' kb=>intro k))
  | exact k.h)):G:=h
theorem Sr (h:G:=by
 repeat' (first
  | refine ck ?_
  | refine bi ?_
  | refine bA ?_
  | refine bB ?_
  | refine cn ?_
  | refine aU ?_
  | refine bV cI ?_
  | refine ci ?_
  | refine cj (by kernel_rfl) ?_
  | ((first|apply aB rfl|apply aC rfl|apply aD rfl|apply aF rfl);focus (first|exact DR|exact y9|fail))
  | (apply y0 k rfl rfl;(focus (clear k;intro hc;(repeat rw[V7]at hc);exact ce hc));intro hc k;(repeat rw[V7]at hc))
  | (apply y6 k rfl rfl;(focus (clear k;intro hc;(repeat rw[V7]at hc);exact ce hc));intro hc k;(repeat rw[V7]at hc))
  | (apply yZ k rfl rfl;(case' ka=>intro hc k;(repeat rw[V7]at hc));(case' kb=>intro hc k;(repeat rw[V7]at hc)))
  | with_reducible refine bD ?_
  | with_reducible refine bF ?_
  | with_reducible refine bG ?_
  | with_reducible refine de ?_
  | with_reducible refine dg ?_
  | with_reducible refine bH ?_
  | refine bj rfl ?_
  | (apply y7 k rfl rfl;(case' ka=>intro hc k);(case' kb=>intro k))
  | exact k.h)):G:=h
theorem w0 {Q:Prop}(k:Q)(h:Kq Q→G:=by
 intro k
 exact na):G:=h ⟨k⟩
theorem BA {Q:Prop}(k:Q)(h:Kq Q→G:=by
 intro k
 exact lK):G:=h ⟨k⟩
theorem Vc (h:G:=by
 repeat' (first
  | refine ck ?_
  | refine bi ?_
  | refine bA ?_
  | refine bB ?_
  | refine cn ?_
  | refine aU ?_
  | refine ci ?_
  | refine cj (by kernel_rfl) ?_
  | ((first|apply aB rfl|apply aC rfl|apply aD rfl|apply aF rfl);focus (first|exact DR|exact y9|fail))
  | (apply y0 k rfl rfl;(focus (clear k;intro hc;(repeat rw[V7]at hc);exact ce hc));intro hc k;(repeat rw[V7]at hc))
  | (apply y6 k rfl rfl;(focus (clear k;intro hc;(repeat rw[V7]at hc);exact ce hc));intro hc k;(repeat rw[V7]at hc))
  | (apply yZ k rfl rfl;(case' ka=>intro hc k;(repeat rw[V7]at hc));(case' kb=>intro hc k;(repeat rw[V7]at hc)))
  | with_reducible refine bD ?_
  | with_reducible refine bF ?_
  | with_reducible refine bG ?_
  | with_reducible refine de ?_
  | with_reducible refine dg ?_
  | with_reducible refine bH ?_
  | refine bj rfl ?_
  | (apply y7 k rfl rfl;(case' ka=>intro hc k);(case' kb=>intro k))
  | exact k.h)):G:=h
theorem wH {Q:Prop}(k:Q)(h:Kq Q→G:=by
 intro k
 exact Sr):G:=h ⟨k⟩
theorem wS {Q:Prop}(k:Q)(h:Kq Q→G:=by
 intro k
 exact Vc):G:=h ⟨k⟩
theorem ah {A B:Prop}(a:A)(b:B):W2 A B:=⟨a,b⟩
theorem ai {p:Prop}{A:p→Prop}(h:∀h:p,A h):W1 p A:=⟨h⟩
theorem fD {P:Program}{f:FuncId}{As:List Cnt}{pre:List (Nat×Blk)}{r:Cnt}{post:List (Nat×Blk)}(h:dh P f As pre r post):kW [(1000,1000)] P f As pre r post:=h
theorem xi (s:List (Nat×Nat)){P:Program}{f:FuncId}{As:List Cnt}{pre:List (Nat×Blk)}{r:Cnt}{post:List (Nat×Blk)}(h:dh P f As pre r post):kW s P f As pre r post:=h
theorem aq {Q:Prop}(x0:A0)(k:Q)(h:A0→Kq Q→G:=by
 intro kc1 k
 exact na):G:=h x0 ⟨k⟩
theorem Lu {Q:Prop}(x0:A0)(x1:A1)(k:Q)(h:A0→A1→Kq Q→G:=by
 intro kc1 kf1 k
 exact na):G:=h x0 x1 ⟨k⟩
theorem kG {Q:Prop}(x0:A0)(x1:A1)(x2:A2)(k:Q)(h:A0→A1→A2→Kq Q→G:=by
 intro kc1 kf1 kf2 k
 exact na):G:=h x0 x1 x2 ⟨k⟩
theorem ny {Q:Prop}(x0:A0)(x1:A1)(k:Q)(h:A0→A1→Kq Q→G:=by
 intro kc1 km1 k
 exact na):G:=h x0 x1 ⟨k⟩
theorem BB {Q:Prop}(x0:A0)(x1:A1)(k:Q)(h:A0→A1→Kq Q→G:=by
 intro kc1 ko1 k
 exact na):G:=h x0 x1 ⟨k⟩
theorem jP {Q:Prop}(x0:A0)(x1:A1)(x2:A2)(k:Q)(h:A0→A1→A2→Kq Q→G:=by
 intro kc1 ko1 ko2 k
 exact na):G:=h x0 x1 x2 ⟨k⟩
theorem cW {Q:Prop}(x0:A0)(x1:A1)(k:Q)(h:A0→A1→Kq Q→G:=by
 intro kc1 kr1 k
 exact na):G:=h x0 x1 ⟨k⟩
theorem ur {Q:Prop}(x0:A0)(x1:A1)(x2:A2)(x3:A3)(k:Q)(h:A0→A1→A2→A3→Kq Q→G:=by
 intro kc1 kr1 kn1 km1 k
 exact na):G:=h x0 x1 x2 x3 ⟨k⟩
theorem nz {Q:Prop}(x0:A0)(x1:A1)(x2:A2)(x3:A3)(x4:A4)(k:Q)(h:A0→A1→A2→A3→A4→Kq Q→G:=by
 intro kc1 kr1 kn1 km1 km2 k
 exact na):G:=h x0 x1 x2 x3 x4 ⟨k⟩
theorem BC {Q:Prop}(x0:A0)(x1:A1)(x2:A2)(k:Q)(h:A0→A1→A2→Kq Q→G:=by
 intro kc1 kr1 kr2 k
 exact na):G:=h x0 x1 x2 ⟨k⟩
theorem bg {Q:Prop}(x0:A0)(x1:A1)(k:Q)(h:A0→A1→Kq Q→G:=by
 intro kc1 kc2 k
 exact na):G:=h x0 x1 ⟨k⟩
theorem BD {Q:Prop}(x0:A0)(x1:A1)(x2:A2)(k:Q)(h:A0→A1→A2→Kq Q→G:=by
 intro kc1 kc2 km1 k
 exact na):G:=h x0 x1 x2 ⟨k⟩
theorem qp {Q:Prop}(x0:A0)(x1:A1)(x2:A2)(k:Q)(h:A0→A1→A2→Kq Q→G:=by
 intro kc1 kc2 kr1 k
 exact na):G:=h x0 x1 x2 ⟨k⟩
theorem nA {Q:Prop}(x0:A0)(x1:A1)(x2:A2)(x3:A3)(x4:A4)(x5:A5)(k:Q)(h:A0→A1→A2→A3→A4→A5→Kq Q→G:=by
 intro kc1 kc2 kr1 kn1 km1 km2 k
 exact na):G:=h x0 x1 x2 x3 x4 x5 ⟨k⟩
theorem Lv {Q:Prop}(x0:A0)(x1:A1)(x2:A2)(x3:A3)(x4:A4)(k:Q)(h:A0→A1→A2→A3→A4→Kq Q→G:=by
 intro kc1 kc2 kr1 kr2 kr3 k
 exact na):G:=h x0 x1 x2 x3 x4 ⟨k⟩
theorem fO {Q:Prop}(x0:A0)(x1:A1)(x2:A2)(k:Q)(h:A0→A1→A2→Kq Q→G:=by
 intro kc1 kc2 kc3 k
 exact na):G:=h x0 x1 x2 ⟨k⟩
theorem jQ {Q:Prop}(x0:A0)(x1:A1)(x2:A2)(x3:A3)(k:Q)(h:A0→A1→A2→A3→Kq Q→G:=by
 intro kc1 kc2 kc3 kr1 k
 exact na):G:=h x0 x1 x2 x3 ⟨k⟩
theorem pj {Q:Prop}(x0:A0)(x1:A1)(x2:A2)(x3:A3)(k:Q)(h:A0→A1→A2→A3→Kq Q→G:=by
 intro kc1 kc2 kc3 kc4 k
 exact na):G:=h x0 x1 x2 x3 ⟨k⟩
theorem xj {Q:Prop}(x0:A0)(x1:A1)(x2:A2)(x3:A3)(x4:A4)(k:Q)(h:A0→A1→A2→A3→A4→Kq Q→G:=by
 intro kc1 kc2 kc3 kc4 kc5 k
 exact na):G:=h x0 x1 x2 x3 x4 ⟨k⟩
theorem Rx {Q:Prop}(x0:A0)(x1:A1)(x2:A2)(x3:A3)(x4:A4)(x5:A5)(k:Q)(h:A0→A1→A2→A3→A4→A5→Kq Q→G:=by
 intro kc1 kc2 kc3 kc4 kc5 kc6 k
 exact na):G:=h x0 x1 x2 x3 x4 x5 ⟨k⟩
theorem F8 {Q:Prop}{A6:Prop}(x0:A0)(x1:A1)(x2:A2)(x3:A3)(x4:A4)(x5:A5)(x6:A6)(k:Q)(h:A0→A1→A2→A3→A4→A5→A6→Kq Q→G:=by
 intro kc1 kc2 kc3 kc4 kc5 kc6 kc7 k
 exact na):G:=h x0 x1 x2 x3 x4 x5 x6 ⟨k⟩
theorem TY {Q:Prop}(x0:A0)(x1:A1)(k:Q)(h:A0→A1→Kq Q→G:=by
 intro kf1 kf2 k
 exact na):G:=h x0 x1 ⟨k⟩
theorem fP {Q:Prop}(x0:A0)(k:Q)(h:A0→Kq Q→G:=by
 intro km1 k
 exact na):G:=h x0 ⟨k⟩
theorem TZ {Q:Prop}(x0:A0)(x1:A1)(k:Q)(h:A0→A1→Kq Q→G:=by
 intro km1 km2 k
 exact na):G:=h x0 x1 ⟨k⟩
theorem Ry {Q:Prop}(x0:A0)(k:Q)(h:A0→Kq Q→G:=by
 intro ko1 k
 exact na):G:=h x0 ⟨k⟩
theorem dy {Q:Prop}(x0:A0)(k:Q)(h:A0→Kq Q→G:=by
 intro kr1 k
 exact na):G:=h x0 ⟨k⟩
theorem ut {Q:Prop}(x0:A0)(x1:A1)(k:Q)(h:A0→A1→Kq Q→G:=by
 intro kr1 km1 k
 exact na):G:=h x0 x1 ⟨k⟩
theorem BF {Q:Prop}(x0:A0)(x1:A1)(k:Q)(h:A0→A1→Kq Q→G:=by
 intro kr1 kn1 k
 exact na):G:=h x0 x1 ⟨k⟩
theorem ft {Q:Prop}(x0:A0)(x1:A1)(k:Q)(h:A0→A1→Kq Q→G:=by
 intro kr1 kr2 k
 exact na):G:=h x0 x1 ⟨k⟩
theorem dF {Q:Prop}(x0:A0)(x1:A1)(x2:A2)(k:Q)(h:A0→A1→A2→Kq Q→G:=by
 intro kr1 kr2 kr3 k
 exact na):G:=h x0 x1 x2 ⟨k⟩
theorem BG {Q:Prop}(x0:A0)(x1:A1)(x2:A2)(x3:A3)(k:Q)(h:A0→A1→A2→A3→Kq Q→G:=by
 intro kr1 kr2 kr3 km1 k
 exact na):G:=h x0 x1 x2 x3 ⟨k⟩
theorem uu {Q:Prop}(x0:A0)(x1:A1)(x2:A2)(x3:A3)(k:Q)(h:A0→A1→A2→A3→Kq Q→G:=by
 intro kr1 kr2 kr3 kn1 k
 exact na):G:=h x0 x1 x2 x3 ⟨k⟩
theorem mZ {Q:Prop}(x0:A0)(x1:A1)(x2:A2)(x3:A3)(k:Q)(h:A0→A1→A2→A3→Kq Q→G:=by
 intro kr1 kr2 kr3 kr4 k
 exact na):G:=h x0 x1 x2 x3 ⟨k⟩
theorem uv {Q:Prop}(x0:A0)(x1:A1)(x2:A2)(x3:A3)(x4:A4)(k:Q)(h:A0→A1→A2→A3→A4→Kq Q→G:=by
 intro kr1 kr2 kr3 kr4 kn1 k
 exact na):G:=h x0 x1 x2 x3 x4 ⟨k⟩
theorem T4 {Q:Prop}(x0:A0)(x1:A1)(x2:A2)(x3:A3)(x4:A4)(k:Q)(h:A0→A1→A2→A3→A4→Kq Q→G:=by
 intro kr1 kr2 kr3 kr4 kr5 k
 exact na):G:=h x0 x1 x2 x3 x4 ⟨k⟩
theorem Rz {Q:Prop}(x0:A0)(x1:A1)(x2:A2)(x3:A3)(x4:A4)(x5:A5)(k:Q)(h:A0→A1→A2→A3→A4→A5→Kq Q→G:=by
 intro kr1 kr2 kr3 kr4 kr5 kr6 k
 exact na):G:=h x0 x1 x2 x3 x4 x5 ⟨k⟩
theorem D4 {Q:Prop}(x0:A0)(k:Q)(h:A0→Kq Q→G:=by
 intro kc1 k
 exact lK):G:=h x0 ⟨k⟩
theorem eT {Q:Prop}(x0:A0)(k:Q)(h:RowKit.Hid A0→Kq Q→G:=by
 intro ke1 k
 exact lK):G:=h x0 ⟨k⟩
theorem cF {Q:Prop}(x0:A0)(x1:A1)(k:Q)(h:RowKit.Hid A0→A1→Kq Q→G:=by
 intro ke1 kc1 k
 exact lK):G:=h x0 x1 ⟨k⟩
theorem bp {Q:Prop}(x0:A0)(x1:A1)(x2:A2)(k:Q)(h:RowKit.Hid A0→A1→A2→Kq Q→G:=by
 intro ke1 kc1 kc2 k
 exact lK):G:=h x0 x1 x2 ⟨k⟩
theorem ot {Q:Prop}(x0:A0)(x1:A1)(x2:A2)(x3:A3)(k:Q)(h:RowKit.Hid A0→A1→A2→A3→Kq Q→G:=by
 intro ke1 kc1 kc2 kc3 k
 exact lK):G:=h x0 x1 x2 x3 ⟨k⟩
theorem gP {Q:Prop}(x0:A0)(x1:A1)(x2:A2)(x3:A3)(x4:A4)(k:Q)(h:RowKit.Hid A0→A1→A2→A3→A4→Kq Q→G:=by
 intro ke1 kc1 kc2 kc3 kc4 k
 exact lK):G:=h x0 x1 x2 x3 x4 ⟨k⟩
theorem ou {Q:Prop}(x0:A0)(x1:A1)(x2:A2)(x3:A3)(x4:A4)(x5:A5)(k:Q)(h:RowKit.Hid A0→A1→A2→A3→A4→A5→Kq Q→G:=by
 intro ke1 kc1 kc2 kc3 kc4 kc5 k
 exact lK):G:=h x0 x1 x2 x3 x4 x5 ⟨k⟩
theorem kx {Q:Prop}(x0:A0)(x1:A1)(x2:A2)(k:Q)(h:RowKit.Hid A0→A1→A2→Kq Q→G:=by
 intro ke1 kf1 kf2 k
 exact lK):G:=h x0 x1 x2 ⟨k⟩
theorem iA {Q:Prop}(x0:A0)(x1:A1)(k:Q)(h:RowKit.Hid A0→RowKit.Hid A1→Kq Q→G:=by
 intro ke1 kh1 k
 exact lK):G:=h x0 x1 ⟨k⟩
theorem ed {Q:Prop}(x0:A0)(x1:A1)(k:Q)(h:RowKit.Hid A0→A1→Kq Q→G:=by
 intro ke1 km1 k
 exact lK):G:=h x0 x1 ⟨k⟩
theorem eY {Q:Prop}(x0:A0)(x1:A1)(x2:A2)(k:Q)(h:RowKit.Hid A0→A1→A2→Kq Q→G:=by
 intro ke1 km1 km2 k
 exact lK):G:=h x0 x1 x2 ⟨k⟩
theorem ov {Q:Prop}(x0:A0)(x1:A1)(x2:A2)(x3:A3)(k:Q)(h:RowKit.Hid A0→A1→A2→A3→Kq Q→G:=by
 intro ke1 km1 km2 km3 k
 exact lK):G:=h x0 x1 x2 x3 ⟨k⟩
theorem rE {Q:Prop}(x0:A0)(x1:A1)(k:Q)(h:RowKit.Hid A0→RowKit.Hid A1→Kq Q→G:=by
 intro ke1 ke2 k
 exact lK):G:=h x0 x1 ⟨k⟩
theorem m0 {Q:Prop}{A6:Prop}(x0:A0)(x1:A1)(x2:A2)(x3:A3)(x4:A4)(x5:A5)(x6:A6)(k:Q)(h:RowKit.Hid A0→RowKit.Hid A1→A2→A3→A4→A5→A6→Kq Q→G:=by
 intro ke1 ke2 kc1 kr1 kr2 kr3 kn1 k
 exact lK):G:=h x0 x1 x2 x3 x4 x5 x6 ⟨k⟩
theorem xm {Q:Prop}(x0:A0)(x1:A1)(x2:A2)(x3:A3)(k:Q)(h:RowKit.Hid A0→RowKit.Hid A1→A2→A3→Kq Q→G:=by
 intro ke1 ke2 kc1 kc2 k
 exact lK):G:=h x0 x1 x2 x3 ⟨k⟩
theorem xn {Q:Prop}(x0:A0)(x1:A1)(x2:A2)(k:Q)(h:RowKit.Hid A0→RowKit.Hid A1→RowKit.Hid A2→Kq Q→G:=by
 intro ke1 ke2 kh1 k
 exact lK):G:=h x0 x1 x2 ⟨k⟩
theorem ox {Q:Prop}(x0:A0)(x1:A1)(x2:A2)(k:Q)(h:RowKit.Hid A0→RowKit.Hid A1→A2→Kq Q→G:=by
 intro ke1 ke2 km1 k
 exact lK):G:=h x0 x1 x2 ⟨k⟩
theorem xq {Q:Prop}(x0:A0)(x1:A1)(x2:A2)(x3:A3)(k:Q)(h:RowKit.Hid A0→RowKit.Hid A1→RowKit.Hid A2→RowKit.Hid A3→Kq Q→G:=by
 intro ke1 ke2 ke3 kh1 k
 exact lK):G:=h x0 x1 x2 x3 ⟨k⟩
theorem nD {Q:Prop}(x0:A0)(k:Q)(h:RowKit.Hid A0→Kq Q→G:=by
 intro kh1 k
 exact lK):G:=h x0 ⟨k⟩
theorem kf {Q:Prop}(x0:A0)(k:Q)(h:A0→Kq Q→G:=by
 intro kc1 k
 exact Sr):G:=h x0 ⟨k⟩
theorem sA {Q:Prop}(x0:A0)(x1:A1)(k:Q)(h:A0→A1→Kq Q→G:=by
 intro kc1 kc2 k
 exact Sr):G:=h x0 x1 ⟨k⟩
end Go.Proofs.YtaclhhkblbacgaaGreat
