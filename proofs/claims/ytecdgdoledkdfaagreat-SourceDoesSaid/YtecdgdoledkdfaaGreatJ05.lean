/- Lemmas, walks. -/
import Derived.Test.YtecdgdoledkdfaaGreatJ04
import Derived.Test.YtecdgdoledkdfaaGreatJ03
set_option maxRecDepth 10000
set_option maxHeartbeats 8000000
namespace Go.Proofs.YtecdgdoledkdfaaGreat
open Go.RowKit
variable {i:Nat} {ty:TypeId} {k:Nat} {es:List (List PV)} {z:Int} {G A0 A1 A2 A3 A4 A5:Prop}
section
variable {P:Program} {f:FuncId} {fn:Func} {body:Code} {As:List Cnt} {n:Nat} {S:St} {e:Exit} {rv rv':ResultVar} {r r':Ret} {pre post:List (Nat×Blk)} {c:Cnt}
theorem fi (hf:P.funcs[f]?=some fn)(hn:fn.ntmps=n)(h:AW P n body (λe S=>(e=.ret\/e=.normal)/\oG P n fn S r) (Nw As))
 (hb : fn.body = some body := by rfl) (hm : (fn.name == "runtime.NumGoroutine") = false := by kernel_rfl) (hl : As.length <= n := by exact aaq rfl) (h1 : Nat.ble n 1000 = true := by rfl) : Fn P f As r :=
 Nx hf hb hm hn hl h h1
theorem cp (hf:P.funcs[f]?=some fn)(hn:fn.ntmps=n)(h:AW P n body (λe S=>(e=.ret\/e=.normal)/\tW P n fn S c post) (NV As pre))
 (hb : fn.body = some body := by rfl) (hm : (fn.name == "runtime.NumGoroutine") = false := by kernel_rfl) (hl : As.length <= n := by exact aaq rfl) (h1 : Nat.ble n 1000 = true := by rfl) : bZ P f As pre c post :=
 KY hf hb hm hn hl h h1
theorem dr (h:cH P n S rv r)(hf:fn.results=#[rv]:=by rfl)(he:e=.ret\/e=.normal:=by first|exact .inl rfl|exact .inr rfl):(e=.ret\/e=.normal)/\oG P n fn S r:=⟨he,KS hf h⟩
theorem dV (h:cH P n S rv r)(h':cH P n S rv' r')(hf:fn.results=#[rv,rv']:=by rfl)(he:e=.ret\/e=.normal:=by first|exact .inl rfl|exact .inr rfl):(e=.ret\/e=.normal)/\oG P n fn S (.tup2 r r'):=⟨he,Ds hf h h'⟩
variable {c' c'':Cnt} {rv'':ResultVar}
theorem kJ (hf:fn.results=#[]:=by rfl)(he:e=.ret\/e=.normal:=by first|exact .inl rfl|exact .inr rfl)(hp:bG S [(1000,1000)] post:=by repeat (first|exact bG.nil|refine bG.cons rfl (by rfl) ?_)):(e=.ret\/e=.normal)/\tW P n fn S .any post:=⟨he,YS [(1000,1000)] hf rfl hp⟩
theorem kC (h:BB P n S [(1000,1000)] rv c)(hf:fn.results=#[rv]:=by rfl)(he:e=.ret\/e=.normal:=by first|exact .inl rfl|exact .inr rfl)(hp:bG S [(1000,1000)] post:=by repeat (first|exact bG.nil|refine bG.cons rfl (by rfl) ?_)):(e=.ret\/e=.normal)/\tW P n fn S c post:=⟨he,dv [(1000,1000)] hf rfl hp h⟩
theorem Tf (h:BB P n S [(1000,1000)] rv c)(h':BB P n S [(1000,1000)] rv' c')(hf:fn.results=#[rv,rv']:=by rfl)(he:e=.ret\/e=.normal:=by first|exact .inl rfl|exact .inr rfl)(hp:bG S [(1000,1000)] post:=by repeat (first|exact bG.nil|refine bG.cons rfl (by rfl) ?_)):(e=.ret\/e=.normal)/\tW P n fn S (.tup2 c c') post:=⟨he,rX [(1000,1000)] hf rfl hp h h'⟩
theorem jB (τ:List (Nat×Nat))(h:BB P n S τ rv c)(hf:fn.results=#[rv]:=by rfl)(hτ:Xb τ=true:=by rfl)(he:e=.ret\/e=.normal:=by first|exact .inl rfl|exact .inr rfl)(hp:bG S τ post:=by repeat (first|exact bG.nil|refine bG.cons rfl (by rfl) ?_)):(e=.ret\/e=.normal)/\tW P n fn S c post:=⟨he,dv τ hf hτ hp h⟩
theorem Z0 (τ:List (Nat×Nat))(h:BB P n S τ rv c)(h':BB P n S τ rv' c')(hf:fn.results=#[rv,rv']:=by rfl)(hτ:Xb τ=true:=by rfl)(he:e=.ret\/e=.normal:=by first|exact .inl rfl|exact .inr rfl)(hp:bG S τ post:=by repeat (first|exact bG.nil|refine bG.cons rfl (by rfl) ?_)):(e=.ret\/e=.normal)/\tW P n fn S (.tup2 c c') post:=⟨he,rX τ hf hτ hp h h'⟩
theorem dz {p:Prop}(h:p:=by exact dr (aP rfl rfl)):p:=h
theorem uZ {p:Prop}(h:p:=by exact dr (aq rfl rfl)):p:=h
theorem oo {p:Prop}(h:p:=by exact dr (f9 rfl rfl rfl)):p:=h
theorem Nj {p:Prop}(h:p:=by exact dr (cS rfl)):p:=h
theorem Od {p:Prop}(h:p:=by exact Wi aS aS rfl rfl rfl rfl rfl rfl):p:=h
theorem C0 {p:Prop}(h:p:=by exact K9 aS aS rfl rfl rfl rfl rfl rfl):p:=h
end
section
variable {n:Nat} {S:St}
theorem Oe {id v id' v':Nat}{B B':Blk}{v0:Nat}{B0:Blk}(h:ub [(id,v,B),(id',v',B')] i=some (v0,B0)):(i=id/\v0=v/\B0=B)\/(i=id'/\v0=v'/\B0=B'):=by grind[ub,bc]
theorem nt (id off idr e er k:Nat){cells:List Cnt}(hb:S.blk id=.box e cells)(hc:cells[off]?=some (.per (ai (.slice none 0 0))))(hne:Nat.beq idr id=false:=by rfl)(hfx:eL idr=false:=by rfl) :
 Le n S (S.app none .any [(id,S.ver id,.box e (cells.set off (.row idr (S.ver idr+1)))),(idr,S.ver idr+1,.row er k [])]):=by
 rintro C a w ⟨g,hR⟩
 have hne':idr≠id:=λe=>by rw[bc.2 e]at hne;cases hne
 have hvr:∀i,(S.app none .any [(id,S.ver id,.box e (cells.set off (.row idr (S.ver idr+1)))),(idr,S.ver idr+1,.row er k [])]).ver i=if i=idr then S.ver idr+1 else S.ver i:=by grind[St.app_ver,ub,bc]
 have hst:=ni (v:=.slice none 0 0) (t:=idr) hR (bQ.refl w) hvr hfx
 have hrh:(g.mkN idr (.slice none 0 0)).rh idr=.slice none 0 0:=aae rfl
 have hid:hst=hst:=rfl
 refine⟨g.mkN idr (.slice none 0 0),?_⟩
 have key:=hR.appL (g':=g.mkN idr (.slice none 0 0)) (bs:=[(id,S.ver id,.box e (cells.set off (.row idr (S.ver idr+1)))),(idr,S.ver idr+1,.row er k [])]) (d:=none) (λt h=>by cases h) (c:=.any) (v:=undef)
  (hst.cong (λi hi=>by grind[ub,tG])) trivial ?_
 ·exact key
 ·intro i v B hu
  rcases Oe hu with⟨rfl,rfl,rfl⟩|⟨rfl,rfl,rfl⟩
  ·have h0:=hst.brep (λb id e=>(hR.dom b id e).1) (id:=i) (λh=>hne' h.symm) (hR.blks i)
   rw[hb]at h0
   obtain⟨cs,q1,q2,q3,q4⟩:=h0
   refine⟨cs,q1,q2,by rw[q3];simp,λj c hj=>?_⟩
   rw[List.getElem?_set]at hj
   split at hj
   ·rename_i e1
    subst e1
    split at hj
    ·cases hj
     obtain⟨y,r1,r2,r3⟩:=q4 off _ hc
     refine⟨y,r1,r2,by rw[hvr,aae rfl];exact aaf _,λ_=>?_⟩
     rw[hrh];exact r3
    ·cases hj
   ·exact q4 j c hj
  ·exact .inl ⟨hrh,rfl⟩
end
def Xg (es:List (List PV)):PV:=⟨λ_ _ u=>∃b,u=.bool b/\(b=true->es=[]),λ_ _ _ h=>h⟩
section
variable {P:Program} {n:Nat} {ops:Array Oper} {o:Oper} {S:St} {t:Nat}
theorem Jx {e:TypeId}{x y:Operand}{a:Option Addr}{l c:Nat}(hT:P.underlying ty=some (.slice e))(w:World):(do eqGuard .eql ty x y (.slice a l c) (.slice none 0 0);binOp .eql ty (.slice a l c) (.slice none 0 0)).run P w=.ok (.bool a.isNone) w:=by
 rw[show eqGuard .eql ty x y (.slice a l c) (.slice none 0 0)=pure ()from rfl]
 grind[Lib.run_eql_slice_nil]
theorem YU {ty' e:TypeId}{x:Operand}(hp:Pl n o t)(ho:o.op=.binOp .eql ty x (.const (.slice none 0 0)) ty')(hT:gB P ty (.slice e))(hx:GB (ej S x) S x k es) :
 aB n P ops o (ej S x) (.per (Xg es)) [] S:=
 aZ hp λC T g a w hA hR=>by
  obtain⟨ad,c,b,of,hv,_,_,_,h5,_⟩:=hx n C T g a w hA hR
  refine⟨.bool ad.isNone,fL ho hv rfl (Jx hT.h w),_,rfl,λhn=>?_⟩
  grind
theorem Xh {ty' e:TypeId}{x:Operand}(hp:Pl n o t)(ho:o.op=.binOp .eql ty x (.const (.slice none 0 0)) ty')(hT:gB P ty (.slice e))(hx:GB (ej S x) S x k es)(h0:0<es.length) :
 aB n P ops o (ej S x) (bC false) [] S:=
 aZ hp λC T g a w hA hR=>by
  obtain⟨ad,c,b,of,hv,_,_,_,h5,_⟩:=hx n C T g a w hA hR
  exact⟨.bool false,fL ho hv rfl ((Jx hT.h w).trans (by rw[(h5 h0).1];rfl)),rfl⟩
theorem aQ {Q:Exit->St->Prop}{c:Operand}{x y:Code}(hc:c=.tmp t)(hb:S.get t=.per (Xg es))
 (h1:es=[]->AW P n x Q S) (h2:AW P n y Q S):AW P n (.cond c x y) Q S:=⟨λC a w hr=>by
 obtain⟨g,hg⟩:=hr
 have:=hg.slots t
 rw[hb]at this
 obtain⟨b,hv,hn⟩:=this
 subst hc
 exact wp_cond_split (t:=b) hv (λh=>(h1 (hn h)).run C a w ⟨g,hg⟩) (λ_=>h2.run C a w ⟨g,hg⟩)⟩
theorem BG {w:World}{e:TypeId}{len:Nat}{kk:IntKind}{b of:Nat}(hT:P.underlying ty=some (.array len e))(hk:P.cellsOf e=k)(h0:0<k)(hi:i<len) :
 (Instr.indexAt ty (.pointer (some ⟨b,of,none⟩)) (.int kk (i:Int))).run P w=.ok (.pointer (some ⟨b,of+i*k,none⟩)) w:=by simp_all[Program.elem,Program.arrayLen,run_indexAt_array,gS,Addr.add_lit]
theorem Og {e:TypeId}{x ix:Operand}{id vr off len:Nat}{kk:IntKind}(hp:Pl n o t)(ho:o.op=.indexAddr ty x ix)(hT:gB P ty (.array len e))(hk:gC P e k)(h0:Nat.blt 0 k=true)
 (hx:S.opd x=.ptr id vr off) (hv:S.ver id=vr) (hi:S.opd ix=iC kk z) (hz:z=(i:Int)) (hlt:i<len):aB n P ops o ((2*id+1)::(aG x++aG ix)) (.ptr id vr (off+i*k)) [] S:=
 aZ hp λC T g a w hA hR=>by
  have h:=aM (x:=x) hA (λk h=>by simp[h]) hR
  rw[hx]at h
  have h3:=bf (x:=ix) hA (λk h=>by simp[h]) hR hi
  have hv':=(hA.2 id aA).2
  have hev:=h.2 ae
  refine⟨.pointer (some ⟨g.ph id,off+i*k,none⟩),?_,⟨ae,λ_=>rfl⟩⟩
  subst hz
  simp only[execOp,ho,hev,h3,Sem.run_bind,BG hT.h hk.h (aaq h0) hlt];rfl
theorem DV {e:TypeId}{x ix:Operand}{len:Nat}{kk:IntKind}{As:List PV}{A:PV}(hp:Pl n o t)(ho:o.op=.index ty x ix)(hT:gB P ty (.array len e))(hk:gC P e 1)(hE:dH P e false)
 (hx:S.opd x=.per (cu As)) (hi:S.opd ix=iC kk z) (hz:z=(i:Int)) (hlt:i<len) (hA0:As[i]?=some A):aB n P ops o (aG x++aG ix) (.per A) [] S:=
 aZ hp λC T g a w hA hR=>by
  have h:=aM (x:=x) hA (λk h=>by simp[h]) hR
  rw[hx]at h
  obtain⟨vs,hev,_,q⟩:=h
  obtain⟨y,q1,_,q3⟩:=q i A hA0
  have h3:=bf (x:=ix) hA (λk h=>by simp[h]) hR hi
  obtain⟨d,hd,hd'⟩:=hE.h
  refine⟨y,?_,q3⟩
  subst hz
  simp only[execOp,ho,hev,h3,Instr.index,asIntOf,Sem.run_bind,Sem.run_pure,Result.andThen_ok,run_underlying hT.h]
  rw[aae ⟨ae,ae⟩]
  simp only[Sem.run_bind,gS hk.h bP,Result.andThen_ok,part,pG hd,hd']
  simp[q1]
end
theorem Oh (l:List Cnt)(j:Nat)(c:Cnt)(h:j<l.length):lH l j [c]=l.set j c:=by grind[lH,List.set_eq_take_append_cons_drop]
def TP (c c':Cnt):Prop:=∀(C:Ctx)(vr:Nat->Nat)(g:Gh)(w:World)(v:Value),crep C vr g w v c->crep C vr g w v c'
theorem Jy:TP (.per (ai (.slice none 0 0))) (.per (cn k [])):=λC vr g w v h=>by
 have h:v=.slice none 0 0:=h
 rw[h]
 exact⟨none,0,0,0,rfl,aA,bP,λ_=>rfl,aA,λi cs hi=>by simp at hi⟩
theorem DW {n:Nat}{S:St}(id e:Nat){cells cells':List Cnt}(hb:S.blk id=.box e cells)(hl:cells'.length=cells.length)(h:∀(j:Nat)(c c':Cnt),cells[j]?=some c->cells'[j]?=some c'->TP c c') :
 Le n S (S.app none .any [(id,S.ver id,.box e cells')]):=by
 rintro C a w ⟨g,hR⟩
 have hvr:∀i,(S.app none .any [(id,S.ver id,.box e cells')]).ver i=S.ver i:=λi=>by rw[St.app_some_ver];grind
 refine⟨g,hR.defers,hR.tsz,hR.nle,hR.keep,hR.os,hR.tape,hR.output,hR.size,hR.old,hR.n0,hR.n0l,hR.dom,λt=>?_,λi=>?_⟩
 ·rw[show(S.app none .any [(id,S.ver id,.box e cells')]).ver=S.ver from funext hvr,St.app_get]
  exact hR.slots t
 ·rw[show(S.app none .any [(id,S.ver id,.box e cells')]).ver=S.ver from funext hvr,St.app_some_blk]
  split
  ·rename_i hi
   subst hi
   have h0:=hR.blks i
   rw[hb]at h0
   obtain⟨cs,q1,q2,q3,q4⟩:=h0
   refine⟨cs,q1,q2,by rw[q3,hl],λj c' hj=>?_⟩
   have hjl:j<cells.length:=by have:=(aaM.1 hj).1;omega
   obtain⟨y,r1,r2,r3⟩:=q4 j _ (aaa hjl)
   exact⟨y,r1,r2,h j _ c' (aaa hjl) hj C _ g w y r3⟩
  ·exact hR.blks i
section
variable {P:Program} {n:Nat} {ops:Array Oper} {o:Oper} {F:List Nat} {S:St} {c:Cnt} {b:Upd}
def YV:Op->Bool
 | .binOp p _ _ _ _=>match p with
  | .lss|.leq|.gtr|.geq|.eql|.neq=>true
  | _=>false
 | _=>false
def YW:Op->Bool
 | .binOp .sub _ _ _ _=>true
 | _=>false
theorem u_c (_:YV o.op=true)(h:aB n P ops o F c b S):aB n P ops o F c b S:=h
theorem u_m (_:YW o.op=true)(h:aB n P ops o F c b S):aB n P ops o F c b S:=h
theorem TQ (h:aB n P ops o F c b S:=by
 first
  | exact cZ (c:=.per _) ⟨rfl,rfl,rfl⟩ rfl rfl
  | exact cZ (c:=.row _ _) ⟨rfl,rfl,rfl⟩ rfl rfl
  | exact cZ (c:=.bor _ _) ⟨rfl,rfl,rfl⟩ rfl rfl
  | exact cZ (c:=.ptr _ _ _) ⟨rfl,rfl,rfl⟩ rfl rfl
  | exact cZ (c:=.tup2 _ _) ⟨rfl,rfl,rfl⟩ rfl rfl
  | exact cZ (c:=.tup3 _ _ _) ⟨rfl,rfl,rfl⟩ rfl rfl
  | exact cZ (c:=.ept _ _ _ _ _) ⟨rfl,rfl,rfl⟩ rfl rfl
  | exact cZ (c:=.vw _ _ _ _ _) ⟨rfl,rfl,rfl⟩ rfl rfl
  | exact cZ (c:=.bpt _) ⟨rfl,rfl,rfl⟩ rfl rfl
  | exact cZ (c:=.clo1 _ _) ⟨rfl,rfl,rfl⟩ rfl rfl
  | exact cZ (c:=.clo2 _ _ _) ⟨rfl,rfl,rfl⟩ rfl rfl
  | exact cZ (c:=.clo3 _ _ _ _) ⟨rfl,rfl,rfl⟩ rfl rfl
  | exact cZ (c:=.aggK _ _) ⟨rfl,rfl,rfl⟩ rfl rfl
  | exact cZ (c:=.any) ⟨rfl,rfl,rfl⟩ rfl rfl
  | fail):aB n P ops o F c b S:=h
theorem TS (h:aB n P ops o F c b S:=by
 first
  | exact dn (c:=.per _) ⟨rfl,rfl,rfl⟩ rfl rfl
  | exact dn (c:=.row _ _) ⟨rfl,rfl,rfl⟩ rfl rfl
  | exact dn (c:=.bor _ _) ⟨rfl,rfl,rfl⟩ rfl rfl
  | exact dn (c:=.ptr _ _ _) ⟨rfl,rfl,rfl⟩ rfl rfl
  | exact dn (c:=.tup3 _ _ _) ⟨rfl,rfl,rfl⟩ rfl rfl
  | exact dn (c:=.ept _ _ _ _ _) ⟨rfl,rfl,rfl⟩ rfl rfl
  | exact dn (c:=.vw _ _ _ _ _) ⟨rfl,rfl,rfl⟩ rfl rfl
  | exact dn (c:=.bpt _) ⟨rfl,rfl,rfl⟩ rfl rfl
  | exact dn (c:=.tup2 _ _) ⟨rfl,rfl,rfl⟩ rfl rfl
  | exact dn (c:=.clo1 _ _) ⟨rfl,rfl,rfl⟩ rfl rfl
  | exact dn (c:=.clo2 _ _ _) ⟨rfl,rfl,rfl⟩ rfl rfl
  | exact dn (c:=.clo3 _ _ _ _) ⟨rfl,rfl,rfl⟩ rfl rfl
  | exact dn (c:=.aggK _ _) ⟨rfl,rfl,rfl⟩ rfl rfl
  | exact dn (c:=.any) ⟨rfl,rfl,rfl⟩ rfl rfl
  | fail):aB n P ops o F c b S:=h
theorem TT (h:aB n P ops o F c b S:=by
 first
  | (apply pF<;>first|exact⟨rfl,rfl,rfl⟩|rfl|(intro hb0;first|rfl|exact av rfl (by rw[hb0];rfl)|exact av rfl (by simp_all)))
  | fail):aB n P ops o F c b S:=h
theorem TU (h:aB n P ops o F c b S:=by
 first
  | exact wt ⟨rfl,rfl,rfl⟩ rfl rfl
  | exact wu ⟨rfl,rfl,rfl⟩ rfl rfl (by first|exact dC rfl rfl|exact dU|exact fv)
  | exact DQ ⟨rfl,rfl,rfl⟩ rfl rfl
  | exact u_box_c (c:=.ptr _ _ _) ⟨rfl,rfl,rfl⟩ rfl rfl (by first|exact fM (by first|exact dC rfl rfl|exact dU|exact fv)|exact fN rfl|exact fw rfl rfl|exact fO rfl rfl|exact eN|exact eO|exact eR)
  | exact u_box_c (c:=.row _ _) ⟨rfl,rfl,rfl⟩ rfl rfl (by first|exact fM (by first|exact dC rfl rfl|exact dU|exact fv)|exact fN rfl|exact fw rfl rfl|exact fO rfl rfl|exact eN|exact eO|exact eR)
  | exact u_box_c (c:=.clo1 _ _) ⟨rfl,rfl,rfl⟩ rfl rfl (by first|exact fM (by first|exact dC rfl rfl|exact dU|exact fv)|exact fN rfl|exact fw rfl rfl|exact fO rfl rfl|exact eN|exact eO|exact eR)
  | fail):aB n P ops o F c b S:=h
theorem TV (h:aB n P ops o F c b S:=by
 first
  | exact Jr ⟨rfl,rfl,rfl⟩ rfl aS rfl
  | fail):aB n P ops o F c b S:=h
theorem TW (h:aB n P ops o F c b S:=by
 first
  | exact rR ⟨rfl,rfl,rfl⟩ rfl aS rfl rfl rfl rfl
  | exact pO ⟨rfl,rfl,rfl⟩ rfl aS aS rfl rfl rfl rfl rfl rfl
  | exact nj ⟨rfl,rfl,rfl⟩ rfl aS rfl rfl
  | exact nk ⟨rfl,rfl,rfl⟩ rfl aS aS rfl rfl rfl
  | exact nl ⟨rfl,rfl,rfl⟩ rfl aS rfl rfl
  | exact nm ⟨rfl,rfl,rfl⟩ rfl aS aS rfl rfl rfl
  | exact TG ⟨rfl,rfl,rfl⟩ rfl aS aS rfl rfl rfl rfl rfl rfl
  | fail):aB n P ops o F c b S:=h
theorem TX (h:aB n P ops o F c b S:=by
 first
  | exact DB ⟨rfl,rfl⟩ rfl aS rfl rfl rfl rfl rfl (by first|exact dC rfl rfl|exact dU|exact fv)
  | exact wz ⟨rfl,rfl⟩ rfl aS rfl rfl rfl rfl rfl rfl rfl
  | exact pV (c:=.ptr _ _ _) ⟨rfl,rfl⟩ rfl aS rfl rfl rfl rfl rfl (by first|exact fM (by first|exact dC rfl rfl|exact dU|exact fv)|exact fN rfl|exact fw rfl rfl|exact fO rfl rfl|exact eN|exact eO|exact eR)
  | exact pV (c:=.row _ _) ⟨rfl,rfl⟩ rfl aS rfl rfl rfl rfl rfl (by first|exact fM (by first|exact dC rfl rfl|exact dU|exact fv)|exact fN rfl|exact fw rfl rfl|exact fO rfl rfl|exact eN|exact eO|exact eR)
  | exact pV (c:=.clo1 _ _) ⟨rfl,rfl⟩ rfl aS rfl rfl rfl rfl rfl (by first|exact fM (by first|exact dC rfl rfl|exact dU|exact fv)|exact fN rfl|exact fw rfl rfl|exact fO rfl rfl|exact eN|exact eO|exact eR)
  | exact BD ⟨rfl,rfl⟩ rfl aS rfl rfl rfl rfl rfl rfl rfl
  | fail):aB n P ops o F c b S:=h
theorem TY (h:aB n P ops o F c b S:=by
 first
  | exact vJ ⟨rfl,rfl,rfl⟩ rfl aS rfl rfl
  | exact nn ⟨rfl,rfl,rfl⟩ rfl aS rfl
  | exact np ⟨rfl,rfl,rfl⟩ rfl aS rfl
  | exact zN ⟨rfl,rfl,rfl⟩ rfl aS rfl rfl
  | fail):aB n P ops o F c b S:=h
theorem TZ (h:aB n P ops o F c b S:=by
 first
  | (apply u_c;(focus rfl);exact tN ⟨rfl,rfl,rfl⟩ rfl rfl rfl rfl)
  | (apply u_m;(focus rfl);first|exact iI ⟨rfl,rfl,rfl⟩ rfl rfl rfl rfl (by with_reducible exact TF ae)|exact iI ⟨rfl,rfl,rfl⟩ rfl rfl rfl rfl (by with_reducible exact sub_one' ae))
  | exact iI ⟨rfl,rfl,rfl⟩ rfl rfl rfl rfl (dB (by first|omega|(simp;omega)|(simp[aX];omega)) (by first|omega|(simp;omega)|(simp[aX];omega)))
  | exact tN ⟨rfl,rfl,rfl⟩ rfl rfl rfl rfl
  | exact TJ ⟨rfl,rfl,rfl⟩ rfl rfl rfl (by first|omega|(simp;omega)|(simp[aX];omega))
  | exact TK ⟨rfl,rfl,rfl⟩ rfl aS (by first|exact N5 rfl rfl|exact Wh rfl)
  | exact TL ⟨rfl,rfl,rfl⟩ rfl aS (by first|exact N5 rfl rfl|exact Wh rfl)
  | exact Ob ⟨rfl,rfl,rfl⟩ rfl aS rfl
  | exact Oc ⟨rfl,rfl,rfl⟩ rfl aS rfl
  | exact kv ⟨rfl,rfl,rfl⟩ rfl rfl rfl (by first|decide|omega|(simp;omega)) (TE (by first|omega|(simp;omega)|(simp[aX];omega)) (by first|omega|(simp;omega)|(simp[aX];omega)) (by first|omega|(simp;omega)|(simp[aX];omega)))
  | exact tP ⟨rfl,rfl,rfl⟩ rfl rfl rfl (by first|decide|omega|(simp;omega)) (TD (by first|omega|(simp;omega)|(simp[aX];omega)))
  | exact kv ⟨rfl,rfl,rfl⟩ rfl rfl rfl (by first|decide|omega|(simp;omega)) (dB (by first|omega|(simp;omega)|(simp[aX];omega)) (by first|omega|(simp;omega)|(simp[aX];omega)))
  | exact tP ⟨rfl,rfl,rfl⟩ rfl rfl rfl (by first|decide|omega|(simp;omega)) rfl
  | exact Xh ⟨rfl,rfl,rfl⟩ rfl aS (by first|exact tS rfl|exact tU rfl rfl rfl|exact tT rfl|exact sr_nil rfl) (by first|assumption|omega|(simp;done)|(simp;omega))
  | exact YU ⟨rfl,rfl,rfl⟩ rfl aS (by first|exact tS rfl|exact tU rfl rfl rfl|exact tT rfl|exact sr_nil rfl)
  | fail):aB n P ops o F c b S:=h
theorem T4 (h:aB n P ops o F c b S:=by
 first
  | exact Bu ⟨rfl,rfl,rfl⟩ rfl rfl
  | fail):aB n P ops o F c b S:=h
theorem Oi (h:aB n P ops o F c b S:=by
 first
  | exact dR ⟨rfl,rfl,rfl⟩ rfl aS aS rfl (by with_reducible exact K8 _)
  | exact dR ⟨rfl,rfl,rfl⟩ rfl aS aS rfl (dB ae ae)
  | exact dR ⟨rfl,rfl,rfl⟩ rfl aS aS rfl rfl
  | exact YQ ⟨rfl,rfl,rfl⟩ rfl aS aS aS (by first|exact tS rfl|exact tU rfl rfl rfl|exact tT rfl|exact sr_nil rfl)
  | fail):aB n P ops o F c b S:=h
theorem Oj (h:aB n P ops o F c b S:=by
 first
  | exact DG ⟨rfl,rfl,rfl⟩ rfl aS aS rfl rfl (by refine⟨?_,?_,?_,?_⟩<;>first|rfl|exact⟨_,_,rfl,rfl⟩|omega|(simp;done)|(simp;omega)) rfl
  | exact u_sliceD_b ⟨rfl,rfl,rfl⟩ rfl aS aS rfl rfl (by refine⟨?_,?_,?_,?_⟩<;>first|rfl|exact⟨_,_,rfl,rfl⟩|omega|(simp;done)|(simp;omega)) rfl
  | exact DH ⟨rfl,rfl,rfl⟩ rfl aS aS rfl rfl (by refine⟨?_,?_,?_,?_⟩<;>first|rfl|exact⟨_,_,rfl,rfl⟩|omega|(simp;done)|(simp;omega))
  | exact wC ⟨rfl,rfl,rfl⟩ rfl aS aS rfl rfl (by refine⟨?_,?_,?_,?_⟩<;>first|rfl|exact⟨_,_,rfl,rfl⟩|omega|(simp;done)|(simp;omega))
  | exact kc ⟨rfl,rfl,rfl⟩ rfl aS aS rfl rfl (by refine⟨?_,?_,?_,?_⟩<;>first|rfl|exact⟨_,_,rfl,rfl⟩|omega|(simp;done)|(simp;omega))
  | exact qR ⟨rfl,rfl,rfl⟩ rfl aS aS rfl rfl (by refine⟨?_,?_,?_,?_⟩<;>first|rfl|exact⟨_,_,rfl,rfl⟩|omega|(simp;done)|(simp;omega))
  | exact u_slice ⟨rfl,rfl,rfl⟩ rfl aS aS rfl rfl (by refine⟨?_,?_,?_,?_⟩<;>first|rfl|exact⟨_,_,rfl,rfl⟩|omega|(simp;done)|(simp;omega)) rfl
  | exact u_slice_b ⟨rfl,rfl,rfl⟩ rfl aS aS rfl rfl (by refine⟨?_,?_,?_,?_⟩<;>first|rfl|exact⟨_,_,rfl,rfl⟩|omega|(simp;done)|(simp;omega)) rfl
  | exact DI ⟨rfl,rfl,rfl⟩ rfl aS rfl (by refine⟨?_,?_,?_,?_⟩<;>first|rfl|exact⟨_,_,rfl,rfl⟩|omega|(simp;done)|(simp;omega)) rfl
  | fail):aB n P ops o F c b S:=h
theorem Ol (h:aB n P ops o F c b S:=by
 first
  | exact jh ⟨rfl,rfl,rfl⟩ rfl aS aS rfl rfl rfl rfl (kG (by first|assumption|omega|(simp;done)|(simp;omega)))
  | exact pQ ⟨rfl,rfl,rfl⟩ rfl aS aS rfl rfl rfl rfl (kG (by first|assumption|omega|(simp;done)|(simp;omega)))
  | exact tR ⟨rfl,rfl,rfl⟩ rfl aS aS rfl rfl rfl rfl rfl rfl (by first|assumption|omega|(simp;done)|(simp;omega))
  | exact jh ⟨rfl,rfl,rfl⟩ rfl aS aS rfl rfl rfl rfl rfl
  | exact Oa ⟨rfl,rfl,rfl⟩ rfl aS aS rfl rfl rfl (by first|omega|(simp;omega)|(simp[aX];omega)) (by first|assumption|omega|(simp;done)|(simp;omega))
  | exact u_indexZ_b ⟨rfl,rfl,rfl⟩ rfl aS aS rfl rfl rfl (by first|omega|(simp;omega)|(simp[aX];omega)) (by first|assumption|omega|(simp;done)|(simp;omega))
  | exact GQ ⟨rfl,rfl,rfl⟩ rfl aS aS rfl rfl rfl rfl rfl (by first|omega|(simp;omega)|(simp[aX];omega)) (by first|assumption|omega|(simp;done)|(simp;omega))
  | exact Og ⟨rfl,rfl,rfl⟩ rfl aS aS rfl rfl rfl rfl rfl (by first|assumption|omega|(simp;done)|(simp;omega))
  | fail):aB n P ops o F c b S:=h
theorem Om (h:aB n P ops o F c b S:=by
 first
  | exact ji ⟨rfl,rfl,rfl⟩ rfl aS rfl rfl rfl (aaa (by first|assumption|omega|(simp;done)|(simp;omega)))
  | exact mK ⟨rfl,rfl,rfl⟩ rfl aS rfl rfl (by first|omega|(simp;omega)|(simp[aX];omega)) (by first|assumption|omega|(simp;done)|(simp;omega))
  | fail):aB n P ops o F c b S:=h
theorem Oo (h:aB n P ops o F c b S:=by
 first
  | (solve|(apply Js<;>first|exact⟨rfl,rfl,rfl⟩|rfl|infer_instance|(repeat (first|exact bH.nil|(apply bH.cons;(focus (first|exact bd rfl rfl rfl|exact dc rfl|exact dd rfl)))))))
  | (solve|(apply N9<;>first|exact⟨rfl,rfl,rfl⟩|rfl|infer_instance|(repeat (first|exact oS.nil|(apply oS.cons;(focus (first|exact partQ_agg rfl|exact kR (c:=.per _) rfl (by first|exact fM (by first|exact dC rfl rfl|exact dU|exact fv)|exact fN rfl|exact fw rfl rfl|exact fO rfl rfl|exact eN|exact eO|exact eR)|exact kR (c:=.ptr _ _ _) rfl (by first|exact fM (by first|exact dC rfl rfl|exact dU|exact fv)|exact fN rfl|exact fw rfl rfl|exact fO rfl rfl|exact eN|exact eO|exact eR)|exact kR (c:=.row _ _) rfl (by first|exact fM (by first|exact dC rfl rfl|exact dU|exact fv)|exact fN rfl|exact fw rfl rfl|exact fO rfl rfl|exact eN|exact eO|exact eR)|exact kR (c:=.clo1 _ _) rfl (by first|exact fM (by first|exact dC rfl rfl|exact dU|exact fv)|exact fN rfl|exact fw rfl rfl|exact fO rfl rfl|exact eN|exact eO|exact eR)|exact kR (c:=.clo2 _ _ _) rfl (by first|exact fM (by first|exact dC rfl rfl|exact dU|exact fv)|exact fN rfl|exact fw rfl rfl|exact fO rfl rfl|exact eN|exact eO|exact eR)|exact kR (c:=.clo3 _ _ _ _) rfl (by first|exact fM (by first|exact dC rfl rfl|exact dU|exact fv)|exact fN rfl|exact fw rfl rfl|exact fO rfl rfl|exact eN|exact eO|exact eR)|exact TH rfl)))))))
  | fail):aB n P ops o F c b S:=h
theorem Oq (h:aB n P ops o F c b S:=by
 first
  | exact zO ⟨rfl,rfl,rfl⟩ rfl aS
  | (solve|(apply DF<;>first|exact⟨rfl,rfl,rfl⟩|rfl|infer_instance|(repeat (first|exact bH.nil|(apply bH.cons;(focus (first|exact bd rfl rfl rfl|exact dc rfl|exact dd rfl)))))))
  | fail):aB n P ops o F c b S:=h
theorem Ot (h:aB n P ops o F c b S:=by
 first
  | exact Dk ⟨rfl,rfl,rfl⟩ rfl rfl
  | exact Dl ⟨rfl,rfl,rfl⟩ rfl rfl
  | exact Dm ⟨rfl,rfl,rfl⟩ rfl rfl
  | exact Dn ⟨rfl,rfl,rfl⟩ rfl rfl
  | exact Dp ⟨rfl,rfl,rfl⟩ rfl rfl
  | fail):aB n P ops o F c b S:=h
theorem Ou (h:aB n P ops o F c b S:=by
 first
  | exact vK ⟨rfl,rfl,rfl⟩ rfl aS rfl
  | exact NQ ⟨rfl,rfl,rfl⟩ rfl aS rfl
  | exact DD ⟨rfl,rfl,rfl⟩ rfl aS rfl
  | exact DE ⟨rfl,rfl,rfl⟩ rfl aS rfl rfl rfl
  | exact DC ⟨rfl,rfl,rfl⟩ rfl aS rfl
  | exact rT ⟨rfl,rfl,rfl⟩ rfl aS rfl rfl rfl
  | exact rS ⟨rfl,rfl,rfl⟩ rfl aS rfl
  | fail):aB n P ops o F c b S:=h
theorem Ov (h:aB n P ops o F c b S:=by
 first
  | exact Wg ⟨rfl,rfl,rfl⟩ rfl aS rfl rfl rfl rfl (by first|exact tS rfl|exact tU rfl rfl rfl|exact tT rfl|exact sr_nil rfl) (by first|omega|(simp;done)|(simp;omega)|(simp[aX];done)|(simp[aX];omega)|(simp at *;omega)) rfl
  | exact u_appS ⟨rfl,rfl,rfl⟩ rfl aS aS aS rfl rfl rfl rfl (by first|omega|(simp;done)|(simp;omega)|(simp[aX];done)|(simp[aX];omega)|(simp at *;omega))
  | fail):aB n P ops o F c b S:=h
theorem Ow (h:aB n P ops o F c b S:=by
 first
  | exact NS ⟨rfl,rfl,rfl⟩ rfl rfl rfl
  | exact W7 ⟨rfl,rfl,rfl⟩ rfl rfl rfl
  | fail):aB n P ops o F c b S:=h
theorem Ox (h:aB n P ops o F c b S:=by
 first
  | exact TA ⟨rfl,rfl,rfl⟩ rfl rfl rfl
  | exact GM ⟨rfl,rfl,rfl⟩ rfl rfl
  | fail):aB n P ops o F c b S:=h
theorem Oy (h:aB n P ops o F c b S:=by
 first
  | exact op_mkf0 ⟨rfl,rfl,rfl⟩ rfl
  | exact op_mkf1 ⟨rfl,rfl,rfl⟩ rfl
  | exact op_mkf2 ⟨rfl,rfl,rfl⟩ rfl
  | exact op_mkf3 ⟨rfl,rfl,rfl⟩ rfl
  | fail):aB n P ops o F c b S:=h
theorem Oz (h:aB n P ops o F c b S:=by
 first
  | (apply bn 8;(focus rfl);exact TZ)
  | (apply bn 5;(focus rfl);exact TW)
  | (apply bn 0;(focus rfl);exact TQ)
  | (apply bn 1;(focus rfl);exact TS)
  | (apply bn 7;(focus rfl);exact TY)
  | (apply bn 12;(focus rfl);exact Ol)
  | (apply bn 2;(focus rfl);exact TT)
  | (apply bn 6;(focus rfl);exact TX)
  | (apply bn 10;(focus rfl);exact Oi)
  | (apply bn 14;(focus rfl);exact Oo)
  | (apply bn 3;(focus rfl);exact TU)
  | (apply bn 4;(focus rfl);exact TV)
  | (apply bn 9;(focus rfl);exact T4)
  | (apply bn 11;(focus rfl);exact Oj)
  | (apply bn 13;(focus rfl);exact Om)
  | (apply bn 15;(focus rfl);exact Oq)
  | (apply bn 16;(focus rfl);exact Ot)
  | (apply bn 17;(focus rfl);exact Ou)
  | (apply bn 18;(focus rfl);exact Ov)
  | (apply bn 19;(focus rfl);exact Ow)
  | (apply bn 21;(focus rfl);exact Ox)
  | (apply bn 22;(focus rfl);exact Oy)
  | fail):aB n P ops o F c b S:=h
theorem ua (h:aB n P ops o F c b S:=by
 first
  | (apply gR;(focus rfl);first|(apply ag rfl rfl rfl rfl rfl;first|(apply bn 2;(focus rfl);first|exact zP ⟨rfl,rfl,rfl⟩ rfl rfl rfl rfl|exact zQ ⟨rfl,rfl,rfl⟩ rfl rfl rfl rfl)|exact Oz)|exact W6 rfl rfl rfl rfl rfl rfl rfl|exact NR rfl rfl rfl rfl rfl rfl)
  | (apply bn 2;(focus rfl);first|exact zP ⟨rfl,rfl,rfl⟩ rfl rfl rfl rfl|exact zQ ⟨rfl,rfl,rfl⟩ rfl rfl rfl rfl)
  | exact Oz):aB n P ops o F c b S:=h
end
def Ret.frz:Ret->Ret
 | .per A=>.per A
 | .own _ k es=>.per (cn k es)
 | .tup2 c d=>.tup2 c.frz d.frz
 | .tup3 c d e=>.tup3 c.frz d.frz e.frz
theorem Ret.frz_rep {N0:BP}{w w':World}(hN:∀b,N0 b->b<w.heap.size):∀{r:Ret} {v:Value},r.rep N0 w w' v->r.frz.rep N0 w w' v:=by
 intro r
 induction r with
 | per A=>intro v h;exact h
 | own e k es=>
  intro v h
  show eW N0 N0 k es w' v
  rcases h with⟨rfl,rfl⟩|⟨q,cap,cs,rfl,hq,hh,h1,h2,h3,h4⟩
  ·exact⟨none,0,0,0,rfl,aA,bP,λ_=>rfl,aA,λi cs hi=>by simp at hi⟩
  ·have hlt:q<w'.heap.size:=by grind
   refine⟨_,cap,q,0,rfl,h1,h2,aA,λ_=>⟨rfl,hlt,λhn=>by have:=hN q hn;omega⟩,λi ps hi=>?_⟩
   obtain⟨r1,r2⟩:=h4 i ps hi
   refine⟨r1,λj A hj=>?_⟩
   obtain⟨y,s1,s2,s3⟩:=r2 j A hj
   exact⟨y,by rw[aaJ,ei hh];exact s1,s2,A.mono (aaf _) (λ_ _ _=>rfl) (λb _ hb=>.inl hb) s3⟩
 | tup2 c d ih1 ih2=>rintro v ⟨x,y,rfl,h1,h2⟩;exact⟨x,y,rfl,ih1 h1,ih2 h2⟩
 | tup3 c d e ih1 ih2 ih3=>rintro v ⟨x,y,z,rfl,h1,h2,h3⟩;exact⟨x,y,z,rfl,ih1 h1,ih2 h2,ih3 h3⟩
theorem Fn.frz {P:Program}{f:FuncId}{As:List Cnt}{r:Ret}(h:Fn P f As r):Fn P f As r.frz:=
 ⟨h.ent,λN0 w vs hN ha=>Calls.mono (h.run N0 w vs hN ha) λ_ _ ⟨v,h1,h2,h3⟩=>⟨v,h1,h2,Ret.frz_rep hN h3⟩⟩
section
variable {P:Program} {n:Nat} {ops:Array Oper} {o:Oper} {S:St}
theorem OA {f:FuncId}{x0:Operand}{xs:List Operand}{As:List Cnt}{pre post:List (Nat×Blk)}{r:Cnt}(sg:List (Nat×Nat))(hf:bZ P f As pre r post)(hp:KZ n o:=by exact⟨rfl,rfl⟩)(ho:kI o x0 xs:=by exact⟨_,rfl⟩)(hx:S.opd x0=.per (ai (.func (.func f) #[] #[])):=by rfl)(hok:NX sg=true:=by rfl)
 (hg:uY S sg xs As:=by first|((repeat (first|exact uY.nil|(refine uY.cons ?_ ?_;focus (first|exact qS rfl|exact qT rfl|exact gq_row rfl rfl rfl rfl|exact qU rfl|exact gq_nil rfl|exact gq_nil' rfl|exact oT rfl rfl))));done)|fail) (hpre:oj S sg pre:=by first|((repeat (first|exact oj.nil|(refine oj.cons rfl rfl ?_)));done)|fail):aB n P ops o (aG x0++(fZ S xs++Gk sg)) (r.mp false (lI sg) z0 (za S.ver sg)) (oO S post sg sg) S:=
 mI (cs:=[]) sg hp ho (DP hx (λk h=>by simp[h])) (by simpa using hf) hok (λp h=>by simp[wK p h]) (hg.gives (λ_ h=>by grind) (λ_ h=>by simp[h])) hpre
end
class Cl (b:Bool)(p q:outParam Prop):Prop where
 t:b=true->p
 f:b=false->q
instance (priority:=low) {b:Bool}:Cl b (b=true) (b=false):=⟨λh=>h,λh=>h⟩
instance {p:Prop} [d:Decidable p]:Cl (decide p) p (¬p):=⟨of_decide_eq_true,of_decide_eq_false⟩
instance {α:Type} [BEq α] [LawfulBEq α] {a b:α}:Cl (a==b) (a=b) (a≠b):=⟨beq_iff_eq.1,beq_eq_false_iff_ne.1⟩
instance {α:Type} [BEq α] [LawfulBEq α] {a b:α}:Cl (a != b) (a≠b) (a=b):=⟨bne_iff_ne.1,bne_eq_false_iff_eq.1⟩
instance {b:Bool} {p q:Prop} [h:Cl b p q]:Cl (!b) q p:=⟨λe=>h.f (by simpa using e),λe=>h.t (by simpa using e)⟩
section
variable {P:Program} {n t:Nat} {ops:Array Oper} {o:Oper} {F:List Nat} {S:St} {c:Cnt} {b:Upd}
theorem dW {Q:Exit->St->Prop}{c:Operand}{x y:Code}{b:Bool}{p q:Prop}(hc:c=.tmp t)(hb:S.get t=bC b)[h:Cl b p q](k:(p->AW P n x Q S)/\(q->AW P n y Q S)):AW P n (.cond c x y) Q S:=
 j7 hc hb (λe=>k.1 (h.t e)) (λe=>k.2 (h.f e))
theorem dX {l:List Oper}{Q:St->Prop}{j tg:Nat}{want b:Bool}{p q:Prop}(h1:o.guard=some (j,want))(h2:(ops[j]?).bind (·.dst)=some tg)(hb:S.get tg=bC b)[h:Cl b p q]
 (k:(p->AL P n ops Q (o::l) (S.put (some tg) (bC true)))/\(q->AL P n ops Q (o::l) (S.put (some tg) (bC false)))):AL P n ops Q (o::l) S:=
 pT h1 h2 hb (λe=>k.1 (h.t e)) (λe=>k.2 (h.f e))
theorem dY {l:List Oper}{Q:St->Prop}{done:List (List Nat×List Nat)}{j tg:Nat}{want b:Bool}{p q:Prop}(h1:o.guard=some (j,want))(h2:(ops[j]?).bind (·.dst)=some tg)(hb:S.get tg=bC b)[h:Cl b p q]
 (k:(p->AD P n ops Q done (o::l) (S.put (some tg) (bC true)))/\(q->AD P n ops Q done (o::l) (S.put (some tg) (bC false)))):AD P n ops Q done (o::l) S:=
 pU h1 h2 hb (λe=>k.1 (h.t e)) (λe=>k.2 (h.f e))
theorem oq {K:Prop}(hK:K)(h:K->G:=by
 first
  | exact tL
  | exact mF
  | exact pD
  | exact pE
  | exact tM
  | exact kQ
  | exact tH
  | exact tK (by kernel_rfl)
  | exact aH rfl ua
  | exact cB rfl ua
  | exact aJ rfl ua
  | exact cC rfl ua
  | exact pK
  | exact pL
  | exact pM
  | exact zL
  | exact zM
  | exact pN
  | exact mH rfl
  | fail):G:=h hK
theorem cj {p:Prop}(hc:p)(h:p->False:=by
 intro hc
 first
  | contradiction
  | omega
  | (simp[*]at hc;done)
  | fail):G:=(h hc).elim
theorem nS {f:FuncId}{As:List Cnt}{r:Ret}(hf:Fn P f As r)(h:Fn P f As r->aB n P ops o F c b S:=by
 intro hf
 first
  | exact ZY hf
  | exact Ni hf
  | exact YT hf
  | (apply gR;(focus rfl);apply ag rfl rfl rfl rfl rfl;first|exact ZY hf|exact Ni hf|exact YT hf|fail)
  | fail):aB n P ops o F c b S:=h hf
theorem ot {f:FuncId}{As:List Cnt}{pre post:List (Nat×Blk)}{r:Cnt}(hf:bZ P f As pre r post)(h:bZ P f As pre r post->aB n P ops o F c b S:=by
 intro hf
 first
  | exact c_R hf
  | (apply gR;(focus rfl);apply ag rfl rfl rfl rfl rfl;exact c_R hf)
  | fail):aB n P ops o F c b S:=h hf
theorem OB {f:FuncId}{As:List Cnt}{pre post:List (Nat×Blk)}{r:Cnt}(hf:bZ P f As pre r post)(h:bZ P f As pre r post->aB n P ops o F c b S:=by
 intro hf
 first
  | exact c_N hf
  | (apply gR;(focus rfl);apply ag rfl rfl rfl rfl rfl;exact c_N hf)
  | fail):aB n P ops o F c b S:=h hf
def fK (_:List (Nat×Nat))(P:Program)(f:FuncId)(As:List Cnt)(pre:List (Nat×Blk))(r:Cnt)(post:List (Nat×Blk)):Prop:=bZ P f As pre r post
theorem T5 {sg:List (Nat×Nat)}{f:FuncId}{xs:List Operand}{As:List Cnt}{pre post:List (Nat×Blk)}{r:Cnt}(hf:fK sg P f As pre r post)(hp:KZ n o:=by exact⟨rfl,rfl⟩)(ho:kI o (.func f) xs:=by exact⟨_,rfl⟩)(hok:NX sg=true:=by rfl)
 (hg:uY S sg xs As:=by first|((repeat (first|exact uY.nil|(refine uY.cons ?_ ?_;focus (first|exact qS rfl|exact qT rfl|exact gq_row rfl rfl rfl rfl|exact qU rfl|exact gq_nil rfl|exact gq_nil' rfl|exact oT rfl rfl))));done)|fail) (hpre:oj S sg pre:=by first|((repeat (first|exact oj.nil|(refine oj.cons rfl rfl ?_)));done)|fail):aB n P ops o (fZ S xs++Gk sg) (r.mp false (lI sg) z0 (za S.ver sg)) (oO S post sg sg) S:=c_M sg hf hp ho hok hg hpre
theorem Xi {f:FuncId}{As:List Cnt}{pre post:List (Nat×Blk)}{r:Cnt}(sg:List (Nat×Nat))(hf:bZ P f As pre r post)(h:fK sg P f As pre r post->aB n P ops o F c b S:=by
 intro hf
 first
  | exact T5 hf
  | (apply gR;(focus rfl);apply ag rfl rfl rfl rfl rfl;exact T5 hf)
  | fail):aB n P ops o F c b S:=h hf
end
structure W2 (A B:Prop):Prop where
 l:A
 r:B
structure W1 (p:Prop)(A:p->Prop):Prop where
 h:∀h:p,A h
structure Kq (A:Prop):Prop where
 h:A
theorem Kq.l {p:Prop}{A:p->Prop}(k:Kq (W1 p A))(h:p):Kq (A h):=⟨k.h.h h⟩
theorem Kq.a {p B:Prop}{A:p->Prop}(k:Kq (W2 (W1 p A) B))(h:p):Kq (A h):=⟨k.h.l.h h⟩
theorem Kq.b {p B:Prop}{A:p->Prop}(k:Kq (W2 B (W1 p A)))(h:p):Kq (A h):=⟨k.h.r.h h⟩
section
variable {P:Program} {n t:Nat} {ops:Array Oper} {o:Oper} {F:List Nat} {S:St} {c:Cnt} {b:Upd} {l:List Oper} {done:List (List Nat×List Nat)} {j tg:Nat} {want v:Bool} {p q:Prop} {Qa:p->Prop} {Qb:q->Prop}
section
variable {Q:Exit->St->Prop} {c:Operand} {x y:Code}
theorem BH (k:Kq (W2 (W1 p Qa) (W1 q Qb)))(hc:c=.tmp t)(hb:S.get t=bC v)[h:Cl v p q](ka:(h:p)->Kq (Qa h)->AW P n x Q S)(kb:(h:q)->Kq (Qb h)->AW P n y Q S):AW P n (.cond c x y) Q S:=
 j7 hc hb (λe=>ka (h.t e) (k.a (h.t e))) (λe=>kb (h.f e) (k.b (h.f e)))
theorem BI (k:Kq (W1 p Qa))(hc:c=.tmp t)(hb:S.get t=bC v)[h:Cl v p q](hq:q->False)(ka:(h:p)->Kq (Qa h)->AW P n x Q S):AW P n (.cond c x y) Q S:=
 j7 hc hb (λe=>ka (h.t e) (k.l (h.t e))) (λe=>(hq (h.f e)).elim)
theorem BJ (k:Kq (W1 q Qb))(hc:c=.tmp t)(hb:S.get t=bC v)[h:Cl v p q](hp:p->False)(kb:(h:q)->Kq (Qb h)->AW P n y Q S):AW P n (.cond c x y) Q S:=
 j7 hc hb (λe=>(hp (h.t e)).elim) (λe=>kb (h.f e) (k.l (h.f e)))
theorem BK {Qa:es=[]->Prop}{Qb:Prop}(k:Kq (W2 (W1 (es=[]) Qa) Qb))(hc:c=.tmp t)(hb:S.get t=.per (Xg es))(ka:(h:es=[])->Kq (Qa h)->AW P n x Q S)(kb:Kq Qb->AW P n y Q S):AW P n (.cond c x y) Q S:=
 aQ hc hb (λe=>ka e (k.a e)) (kb ⟨k.h.r⟩)
end
variable {Q:St->Prop}
theorem OC (k:Kq (W2 (W1 p Qa) (W1 q Qb)))(h1:o.guard=some (j,want))(h2:(ops[j]?).bind (·.dst)=some tg)(hb:S.get tg=bC v)[h:Cl v p q]
 (ka:(h:p)->Kq (Qa h)->AL P n ops Q (o::l) (S.put (some tg) (bC true))) (kb:(h:q)->Kq (Qb h)->AL P n ops Q (o::l) (S.put (some tg) (bC false))):AL P n ops Q (o::l) S:=
 pT h1 h2 hb (λe=>ka (h.t e) (k.a (h.t e))) (λe=>kb (h.f e) (k.b (h.f e)))
theorem OD (k:Kq (W1 p Qa))(h1:o.guard=some (j,want))(h2:(ops[j]?).bind (·.dst)=some tg)(hb:S.get tg=bC v)[h:Cl v p q]
 (hq:q->False) (ka:(h:p)->Kq (Qa h)->AL P n ops Q (o::l) (S.put (some tg) (bC true))):AL P n ops Q (o::l) S:=
 pT h1 h2 hb (λe=>ka (h.t e) (k.l (h.t e))) (λe=>(hq (h.f e)).elim)
theorem OE (k:Kq (W1 q Qb))(h1:o.guard=some (j,want))(h2:(ops[j]?).bind (·.dst)=some tg)(hb:S.get tg=bC v)[h:Cl v p q]
 (hp:p->False) (kb:(h:q)->Kq (Qb h)->AL P n ops Q (o::l) (S.put (some tg) (bC false))):AL P n ops Q (o::l) S:=
 pT h1 h2 hb (λe=>(hp (h.t e)).elim) (λe=>kb (h.f e) (k.l (h.f e)))
theorem OG (k:Kq (W2 (W1 p Qa) (W1 q Qb)))(h1:o.guard=some (j,want))(h2:(ops[j]?).bind (·.dst)=some tg)(hb:S.get tg=bC v)[h:Cl v p q]
 (ka:(h:p)->Kq (Qa h)->AD P n ops Q done (o::l) (S.put (some tg) (bC true))) (kb:(h:q)->Kq (Qb h)->AD P n ops Q done (o::l) (S.put (some tg) (bC false))):AD P n ops Q done (o::l) S:=
 pU h1 h2 hb (λe=>ka (h.t e) (k.a (h.t e))) (λe=>kb (h.f e) (k.b (h.f e)))
theorem OH (k:Kq (W1 p Qa))(h1:o.guard=some (j,want))(h2:(ops[j]?).bind (·.dst)=some tg)(hb:S.get tg=bC v)[h:Cl v p q]
 (hq:q->False) (ka:(h:p)->Kq (Qa h)->AD P n ops Q done (o::l) (S.put (some tg) (bC true))):AD P n ops Q done (o::l) S:=
 pU h1 h2 hb (λe=>ka (h.t e) (k.l (h.t e))) (λe=>(hq (h.f e)).elim)
theorem OI (k:Kq (W1 q Qb))(h1:o.guard=some (j,want))(h2:(ops[j]?).bind (·.dst)=some tg)(hb:S.get tg=bC v)[h:Cl v p q]
 (hp:p->False) (kb:(h:q)->Kq (Qb h)->AD P n ops Q done (o::l) (S.put (some tg) (bC false))):AD P n ops Q done (o::l) S:=
 pU h1 h2 hb (λe=>(hp (h.t e)).elim) (λe=>kb (h.f e) (k.l (h.f e)))
end
section
variable {P:Program} {n t:Nat} {ops:Array Oper} {o:Oper} {S:St}
theorem OJ {ty':TypeId}{x y:Operand}{k k':IntKind}{p q:Int}(hp:Pl n o t)(ho:o.op=.binOp .shr ty x y ty')(hx:S.opd x=iC k p)(hy:S.opd y=iC k' q)(hq:0<=q)(hz:p / 2 ^ min q.toNat k.bits=z):aB n P ops o (aG x++aG y) (iC k z) [] S:=
 aZ hp λC T g a w hA hR=>by
  have h1:=bf (x:=x) hA (λk h=>by simp[h]) hR hx
  have h2:=bf (x:=y) hA (λk h=>by simp[h]) hR hy
  subst hz
  refine⟨.int k (p / 2 ^ min q.toNat k.bits),fL ho h1 h2 ?_,rfl⟩
  rw[show eqGuard .shr ty x y (.int k p) (.int k' q)=pure ()from rfl]
  simp_all[binOp_shr,shift_shr_any]
end
theorem wrap_u64 (h1:0<=z)(h2:z<=18446744073709551615):IntKind.u64.wrap z=z:=by grind[IntKind.wrap,IntKind.bits,IntKind.signed]
theorem OL {h:Int}(e:z / 2=h):z / 2 ^ min (1:Int).toNat IntKind.u64.bits=h:=by rw[show min (1:Int).toNat IntKind.u64.bits=1 from rfl,Int.pow_one];exact e
section
variable {P:Program} {n t:Nat} {ops:Array Oper} {o:Oper} {F:List Nat} {S:St} {c:Cnt} {b:Upd}
theorem Lb {sg:List (Nat×Nat)}{f:FuncId}{As:List Cnt}{pre post:List (Nat×Blk)}{r:Cnt}(hf:fK sg P f As pre r post)(h:fK sg P f As pre r post->aB n P ops o F c b S:=by
 intro hf
 first
  | exact T5 hf
  | (apply gR;(focus rfl);apply ag rfl rfl rfl rfl rfl;exact T5 hf)
  | fail):aB n P ops o F c b S:=h hf
theorem Lc {f:FuncId}{As:List Cnt}{r:Ret}(hf:Fn P f As r)(h:Fn P f As r->aB n P ops o F c b S:=by
 intro hf
 first
  | (refine Ni (hf) (hg:=?_);((repeat (first|exact GL.nil|(refine GL.cons ?_ ?_;focus (first|exact eF rfl|exact ff rfl|exact gF rfl rfl rfl|exact fg rfl|exact gG rfl|exact fa rfl))));done))
  | (apply gR;(focus rfl);apply ag rfl rfl rfl rfl rfl;(refine Ni (hf) (hg:=?_);((repeat (first|exact GL.nil|(refine GL.cons ?_ ?_;focus (first|exact eF rfl|exact ff rfl|exact gF rfl rfl rfl|exact fg rfl|exact gG rfl|exact fa rfl))));done)))
  | fail):aB n P ops o F c b S:=h hf
theorem BL {f:FuncId}{As:List Cnt}{r:Ret}(hf:Fn P f As r)(h:Fn P f As r->aB n P ops o F c b S:=by
 intro hf
 first
  | (refine ZY (hf) (hg:=?_);((repeat (first|exact GL.nil|(refine GL.cons ?_ ?_;focus (first|exact eF rfl|exact ff rfl|exact gF rfl rfl rfl|exact fg rfl|exact gG rfl|exact fa rfl))));done))
  | (apply gR;(focus rfl);apply ag rfl rfl rfl rfl rfl;(refine ZY (hf) (hg:=?_);((repeat (first|exact GL.nil|(refine GL.cons ?_ ?_;focus (first|exact eF rfl|exact ff rfl|exact gF rfl rfl rfl|exact fg rfl|exact gG rfl|exact fa rfl))));done)))
  | fail):aB n P ops o F c b S:=h hf
theorem BM (h:aB n P ops o F c b S:=by
 first
  | (apply bn 20;(focus rfl);first|exact nS kc1|exact nS kc2|exact nS kc3|exact nS kc4|exact nS kc5|exact nS kc6|exact nS kc7|exact nS kc8|exact nS kc9|exact nS kc10|exact nS kc11|exact nS kc12|exact nS kc13|exact nS kc14|exact nS kc15|exact nS kc16|exact BL kf1|exact BL kf2|exact BL kf3|exact BL kf4|exact BL kf5|exact BL kf6|exact BL kf7|exact BL kf8|exact BL kf9|exact Lc ko1|exact Lc ko2|exact Lc ko3|exact Lc ko4|exact Lc ko5|exact Lc ko6|exact ot kr1|exact ot kr2|exact ot kr3|exact ot kr4|exact ot kr5|exact ot kr6|exact ot kr7|exact ot kr8|exact ot kr9|exact OB kn1|exact OB kn2|exact OB kn3|exact Lb km1|exact Lb km2|exact Lb km3|exact Lb km4|exact Lb km5|exact Lb km6|fail)
  | fail):aB n P ops o F c b S:=h
theorem T6 (h:aB n P ops o F c b S:=by first|exact iI ⟨rfl,rfl,rfl⟩ rfl rfl rfl rfl ((dB ae ae).trans ke1.out)|exact iI ⟨rfl,rfl,rfl⟩ rfl rfl rfl rfl ((dB ae ae).trans ke2.out)|exact iI ⟨rfl,rfl,rfl⟩ rfl rfl rfl rfl ((dB ae ae).trans ke3.out)|fail):aB n P ops o F c b S:=h
theorem T7 (h:aB n P ops o F c b S:=by first|exact bV ⟨rfl,rfl,rfl⟩ rfl aS rfl rfl rfl kL1.out rfl|exact aD ⟨rfl,rfl,rfl⟩ rfl aS aS rfl rfl rfl kL1.out rfl rfl rfl|exact bV ⟨rfl,rfl,rfl⟩ rfl aS rfl rfl rfl kL2.out rfl|exact aD ⟨rfl,rfl,rfl⟩ rfl aS aS rfl rfl rfl kL2.out rfl rfl rfl|exact bV ⟨rfl,rfl,rfl⟩ rfl aS rfl rfl rfl kL3.out rfl|exact aD ⟨rfl,rfl,rfl⟩ rfl aS aS rfl rfl rfl kL3.out rfl rfl rfl|fail):aB n P ops o F c b S:=h
theorem T8 (h:aB n P ops o F c b S:=by first|exact aW ⟨rfl,rfl⟩ rfl aS rfl rfl rfl rfl kL1.out rfl (by first|exact bd rfl rfl rfl|exact .inl rfl) rfl kS1.out|exact aW ⟨rfl,rfl⟩ rfl aS rfl rfl rfl rfl kL1.out rfl (by first|exact bd rfl rfl rfl|exact .inl rfl) rfl kS2.out|exact aW ⟨rfl,rfl⟩ rfl aS rfl rfl rfl rfl kL2.out rfl (by first|exact bd rfl rfl rfl|exact .inl rfl) rfl kS1.out|exact aW ⟨rfl,rfl⟩ rfl aS rfl rfl rfl rfl kL2.out rfl (by first|exact bd rfl rfl rfl|exact .inl rfl) rfl kS2.out|fail):aB n P ops o F c b S:=h
theorem T9 (h:aB n P ops o F c b S:=by first|exact OJ ⟨rfl,rfl,rfl⟩ rfl rfl rfl bP (OL kh1.out)|exact OJ ⟨rfl,rfl,rfl⟩ rfl rfl rfl bP (OL kh2.out)|fail):aB n P ops o F c b S:=h
theorem Xj (h:aB n P ops o F c b S:=by
 first
  | (apply bn 8;(focus rfl);have e:=kh1;exact T9)
  | (apply bn 10;(focus rfl);have e:=kh1;exact dR ⟨rfl,rfl,rfl⟩ rfl aS aS rfl (by with_reducible exact wrap_u64 ae ae))
  | (apply bn 8;(focus rfl);have e:=ke1;exact T6)
  | (apply bn 5;(focus rfl);have e:=kL1;exact T7)
  | (apply bn 6;(focus rfl);have e:=kS1;exact T8)
  | fail):aB n P ops o F c b S:=h
end
theorem nu (h:G:=by
 repeat' (first
  | refine tL ?_
  | refine mF ?_
  | refine pD ?_
  | refine pE ?_
  | refine tM ?_
  | refine kQ ?_
  | refine bW cI ?_
  | refine tH ?_
  | refine tK (by kernel_rfl) ?_
  | ((first|apply aH rfl|apply cB rfl|apply aJ rfl|apply cC rfl);focus (first|exact ua|exact BM|fail))
  | (apply BI k rfl rfl;(focus (clear k;intro hc;(repeat rw[aad]at hc);exact cj hc));intro hc k;(repeat rw[aad]at hc))
  | (apply BJ k rfl rfl;(focus (clear k;intro hc;(repeat rw[aad]at hc);exact cj hc));intro hc k;(repeat rw[aad]at hc))
  | (apply BH k rfl rfl;(case' ka=>intro hc k;(repeat rw[aad]at hc));(case' kb=>intro hc k;(repeat rw[aad]at hc)))
  | with_reducible refine pK ?_
  | with_reducible refine pL ?_
  | with_reducible refine pM ?_
  | with_reducible refine zL ?_
  | with_reducible refine zM ?_
  | with_reducible refine pN ?_
  | refine mH rfl ?_
  | ((first|apply OD k rfl rfl rfl|apply OH k rfl rfl rfl);(focus (clear k;intro hc;(repeat rw[aad]at hc);exact cj hc));intro hc k;(fail_if_success (have q:(true=true):=hc));(fail_if_success (have q:(false=false):=hc)))
  | ((first|apply OE k rfl rfl rfl|apply OI k rfl rfl rfl);(focus (clear k;intro hc;(repeat rw[aad]at hc);exact cj hc));intro hc k;(fail_if_success (have q:(true=true):=hc));(fail_if_success (have q:(false=false):=hc)))
  | ((first|apply OC k rfl rfl rfl|apply OG k rfl rfl rfl);(case' ka=>intro hc k;(fail_if_success (have q:(true=true):=hc));(fail_if_success (have q:(false=false):=hc)));(case' kb=>intro hc k;(fail_if_success (have q:(true=true):=hc));(fail_if_success (have q:(false=false):=hc))))
  | (apply BK k rfl rfl;(case' ka=>intro hc k);(case' kb=>intro k))
  | exact k.h)):G:=h
theorem mL (h:G:=by
 repeat' (first
  | refine tL ?_
  | refine mF ?_
  | refine pD ?_
  | refine pE ?_
  | refine tM ?_
  | refine kQ ?_
  | refine bW cI ?_
  | refine tH ?_
  | refine tK (by kernel_rfl) ?_
  | ((first|apply aH rfl|apply cB rfl|apply aJ rfl|apply cC rfl);focus (first|exact Xj|exact ua|exact BM|fail))
  | (apply BI k rfl rfl;(focus (clear k;intro hc;(repeat rw[aad]at hc);exact cj hc));intro hc k;(repeat rw[aad]at hc))
  | (apply BJ k rfl rfl;(focus (clear k;intro hc;(repeat rw[aad]at hc);exact cj hc));intro hc k;(repeat rw[aad]at hc))
  | (apply BH k rfl rfl;(case' ka=>intro hc k;(repeat rw[aad]at hc));(case' kb=>intro hc k;(repeat rw[aad]at hc)))
  | with_reducible refine pK ?_
  | with_reducible refine pL ?_
  | with_reducible refine pM ?_
  | with_reducible refine zL ?_
  | with_reducible refine zM ?_
  | with_reducible refine pN ?_
  | refine mH rfl ?_
  | ((first|apply OD k rfl rfl rfl|apply OH k rfl rfl rfl);(focus (clear k;intro hc;(repeat rw[aad]at hc);exact cj hc));intro hc k;(fail_if_success (have q:(true=true):=hc));(fail_if_success (have q:(false=false):=hc)))
  | ((first|apply OE k rfl rfl rfl|apply OI k rfl rfl rfl);(focus (clear k;intro hc;(repeat rw[aad]at hc);exact cj hc));intro hc k;(fail_if_success (have q:(true=true):=hc));(fail_if_success (have q:(false=false):=hc)))
  | ((first|apply OC k rfl rfl rfl|apply OG k rfl rfl rfl);(case' ka=>intro hc k;(fail_if_success (have q:(true=true):=hc));(fail_if_success (have q:(false=false):=hc)));(case' kb=>intro hc k;(fail_if_success (have q:(true=true):=hc));(fail_if_success (have q:(false=false):=hc))))
  | (apply BK k rfl rfl;(case' ka=>intro hc k);(case' kb=>intro k))
  | exact k.h)):G:=h
theorem Xk (h:G:=by
 repeat' (first
  | refine tL ?_
  | refine mF ?_
  | refine pD ?_
  | refine pE ?_
  | refine tM ?_
  | refine kQ ?_
  | refine bW cI ?_
  | refine tH ?_
  | refine tK (by kernel_rfl) ?_
  | ((first|apply aH rfl|apply cB rfl|apply aJ rfl|apply cC rfl);focus (first|exact GG|exact BM|fail))
  | (apply BI k rfl rfl;(focus (clear k;intro hc;(repeat rw[aad]at hc);exact cj hc));intro hc k;(repeat rw[aad]at hc))
  | (apply BJ k rfl rfl;(focus (clear k;intro hc;(repeat rw[aad]at hc);exact cj hc));intro hc k;(repeat rw[aad]at hc))
  | (apply BH k rfl rfl;(case' ka=>intro hc k;(repeat rw[aad]at hc));(case' kb=>intro hc k;(repeat rw[aad]at hc)))
  | with_reducible refine pK ?_
  | with_reducible refine pL ?_
  | with_reducible refine pM ?_
  | with_reducible refine zL ?_
  | with_reducible refine zM ?_
  | with_reducible refine pN ?_
  | refine mH rfl ?_
  | (apply BK k rfl rfl;(case' ka=>intro hc k);(case' kb=>intro k))
  | exact k.h)):G:=h
theorem w0 {Q:Prop}(k:Q)(h:Kq Q->G:=by
 intro k
 exact nu):G:=h ⟨k⟩
theorem rF {Q:Prop}(k:Q)(h:Kq Q->G:=by
 intro k
 exact mL):G:=h ⟨k⟩
theorem aac (h:G:=by
 repeat' (first
  | refine tL ?_
  | refine mF ?_
  | refine pD ?_
  | refine pE ?_
  | refine tM ?_
  | refine kQ ?_
  | refine tH ?_
  | refine tK (by kernel_rfl) ?_
  | ((first|apply aH rfl|apply cB rfl|apply aJ rfl|apply cC rfl);focus (first|exact GG|exact BM|fail))
  | (apply BI k rfl rfl;(focus (clear k;intro hc;(repeat rw[aad]at hc);exact cj hc));intro hc k;(repeat rw[aad]at hc))
  | (apply BJ k rfl rfl;(focus (clear k;intro hc;(repeat rw[aad]at hc);exact cj hc));intro hc k;(repeat rw[aad]at hc))
  | (apply BH k rfl rfl;(case' ka=>intro hc k;(repeat rw[aad]at hc));(case' kb=>intro hc k;(repeat rw[aad]at hc)))
  | with_reducible refine pK ?_
  | with_reducible refine pL ?_
  | with_reducible refine pM ?_
  | with_reducible refine zL ?_
  | with_reducible refine zM ?_
  | with_reducible refine pN ?_
  | refine mH rfl ?_
  | (apply BK k rfl rfl;(case' ka=>intro hc k);(case' kb=>intro k))
  | exact k.h)):G:=h
theorem wH {Q:Prop}(k:Q)(h:Kq Q->G:=by
 intro k
 exact Xk):G:=h ⟨k⟩
theorem wS {Q:Prop}(k:Q)(h:Kq Q->G:=by
 intro k
 exact aac):G:=h ⟨k⟩
theorem aw {A B:Prop}(a:A)(b:B):W2 A B:=⟨a,b⟩
theorem ah {p:Prop}{A:p->Prop}(h:∀h:p,A h):W1 p A:=⟨h⟩
theorem im {P:Program}{f:FuncId}{As:List Cnt}{pre:List (Nat×Blk)}{r:Cnt}{post:List (Nat×Blk)}(h:bZ P f As pre r post):fK [(1000,1000)] P f As pre r post:=h
theorem gn (s:List (Nat×Nat)){P:Program}{f:FuncId}{As:List Cnt}{pre:List (Nat×Blk)}{r:Cnt}{post:List (Nat×Blk)}(h:bZ P f As pre r post):fK s P f As pre r post:=h
theorem au {Q:Prop}(x0:A0)(k:Q)(h:A0->Kq Q->G:=by
 intro kc1 k
 exact nu):G:=h x0 ⟨k⟩
theorem OM {Q:Prop}(x0:A0)(x1:A1)(k:Q)(h:A0->A1->Kq Q->G:=by
 intro kc1 kf1 k
 exact nu):G:=h x0 x1 ⟨k⟩
theorem lc {Q:Prop}(x0:A0)(x1:A1)(x2:A2)(k:Q)(h:A0->A1->A2->Kq Q->G:=by
 intro kc1 kf1 kf2 k
 exact nu):G:=h x0 x1 x2 ⟨k⟩
theorem ld {Q:Prop}(x0:A0)(x1:A1)(k:Q)(h:A0->A1->Kq Q->G:=by
 intro kc1 km1 k
 exact nu):G:=h x0 x1 ⟨k⟩
theorem r8 {Q:Prop}(x0:A0)(x1:A1)(x2:A2)(k:Q)(h:A0->A1->A2->Kq Q->G:=by
 intro kc1 km1 km2 k
 exact nu):G:=h x0 x1 x2 ⟨k⟩
theorem DX {Q:Prop}(x0:A0)(x1:A1)(k:Q)(h:A0->A1->Kq Q->G:=by
 intro kc1 ko1 k
 exact nu):G:=h x0 x1 ⟨k⟩
theorem kd {Q:Prop}(x0:A0)(x1:A1)(x2:A2)(k:Q)(h:A0->A1->A2->Kq Q->G:=by
 intro kc1 ko1 ko2 k
 exact nu):G:=h x0 x1 x2 ⟨k⟩
theorem de {Q:Prop}(x0:A0)(x1:A1)(k:Q)(h:A0->A1->Kq Q->G:=by
 intro kc1 kr1 k
 exact nu):G:=h x0 x1 ⟨k⟩
theorem wL {Q:Prop}(x0:A0)(x1:A1)(x2:A2)(x3:A3)(k:Q)(h:A0->A1->A2->A3->Kq Q->G:=by
 intro kc1 kr1 kn1 km1 k
 exact nu):G:=h x0 x1 x2 x3 ⟨k⟩
theorem oU {Q:Prop}(x0:A0)(x1:A1)(x2:A2)(x3:A3)(x4:A4)(k:Q)(h:A0->A1->A2->A3->A4->Kq Q->G:=by
 intro kc1 kr1 kn1 km1 km2 k
 exact nu):G:=h x0 x1 x2 x3 x4 ⟨k⟩
theorem DY {Q:Prop}(x0:A0)(x1:A1)(x2:A2)(k:Q)(h:A0->A1->A2->Kq Q->G:=by
 intro kc1 kr1 kr2 k
 exact nu):G:=h x0 x1 x2 ⟨k⟩
theorem bt {Q:Prop}(x0:A0)(x1:A1)(k:Q)(h:A0->A1->Kq Q->G:=by
 intro kc1 kc2 k
 exact nu):G:=h x0 x1 ⟨k⟩
theorem OO {Q:Prop}(x0:A0)(x1:A1)(x2:A2)(k:Q)(h:A0->A1->A2->Kq Q->G:=by
 intro kc1 kc2 km1 k
 exact nu):G:=h x0 x1 x2 ⟨k⟩
theorem r9 {Q:Prop}(x0:A0)(x1:A1)(x2:A2)(k:Q)(h:A0->A1->A2->Kq Q->G:=by
 intro kc1 kc2 kr1 k
 exact nu):G:=h x0 x1 x2 ⟨k⟩
theorem oV {Q:Prop}(x0:A0)(x1:A1)(x2:A2)(x3:A3)(x4:A4)(x5:A5)(k:Q)(h:A0->A1->A2->A3->A4->A5->Kq Q->G:=by
 intro kc1 kc2 kr1 kn1 km1 km2 k
 exact nu):G:=h x0 x1 x2 x3 x4 x5 ⟨k⟩
theorem OP {Q:Prop}(x0:A0)(x1:A1)(x2:A2)(x3:A3)(x4:A4)(k:Q)(h:A0->A1->A2->A3->A4->Kq Q->G:=by
 intro kc1 kc2 kr1 kr2 kr3 k
 exact nu):G:=h x0 x1 x2 x3 x4 ⟨k⟩
theorem fF {Q:Prop}(x0:A0)(x1:A1)(x2:A2)(k:Q)(h:A0->A1->A2->Kq Q->G:=by
 intro kc1 kc2 kc3 k
 exact nu):G:=h x0 x1 x2 ⟨k⟩
theorem ke {Q:Prop}(x0:A0)(x1:A1)(x2:A2)(x3:A3)(k:Q)(h:A0->A1->A2->A3->Kq Q->G:=by
 intro kc1 kc2 kc3 kr1 k
 exact nu):G:=h x0 x1 x2 x3 ⟨k⟩
theorem u0 {Q:Prop}(x0:A0)(x1:A1)(x2:A2)(x3:A3)(k:Q)(h:A0->A1->A2->A3->Kq Q->G:=by
 intro kc1 kc2 kc3 kc4 k
 exact nu):G:=h x0 x1 x2 x3 ⟨k⟩
theorem OQ {Q:Prop}(x0:A0)(x1:A1)(x2:A2)(x3:A3)(x4:A4)(x5:A5)(k:Q)(h:A0->A1->A2->A3->A4->A5->Kq Q->G:=by
 intro kc1 kc2 kc3 kc4 kf1 kf2 k
 exact nu):G:=h x0 x1 x2 x3 x4 x5 ⟨k⟩
theorem zT {Q:Prop}(x0:A0)(x1:A1)(x2:A2)(x3:A3)(x4:A4)(k:Q)(h:A0->A1->A2->A3->A4->Kq Q->G:=by
 intro kc1 kc2 kc3 kc4 kc5 k
 exact nu):G:=h x0 x1 x2 x3 x4 ⟨k⟩
theorem Wj {Q:Prop}(x0:A0)(x1:A1)(x2:A2)(x3:A3)(x4:A4)(x5:A5)(k:Q)(h:A0->A1->A2->A3->A4->A5->Kq Q->G:=by
 intro kc1 kc2 kc3 kc4 kc5 kc6 k
 exact nu):G:=h x0 x1 x2 x3 x4 x5 ⟨k⟩
theorem Jz {Q:Prop}{A6:Prop}(x0:A0)(x1:A1)(x2:A2)(x3:A3)(x4:A4)(x5:A5)(x6:A6)(k:Q)(h:A0->A1->A2->A3->A4->A5->A6->Kq Q->G:=by
 intro kc1 kc2 kc3 kc4 kc5 kc6 kc7 k
 exact nu):G:=h x0 x1 x2 x3 x4 x5 x6 ⟨k⟩
theorem YX {Q:Prop}(x0:A0)(x1:A1)(k:Q)(h:A0->A1->Kq Q->G:=by
 intro kf1 kf2 k
 exact nu):G:=h x0 x1 ⟨k⟩
theorem ee {Q:Prop}(x0:A0)(k:Q)(h:A0->Kq Q->G:=by
 intro km1 k
 exact nu):G:=h x0 ⟨k⟩
theorem nT {Q:Prop}(x0:A0)(x1:A1)(k:Q)(h:A0->A1->Kq Q->G:=by
 intro km1 km2 k
 exact nu):G:=h x0 x1 ⟨k⟩
theorem Wk {Q:Prop}(x0:A0)(k:Q)(h:A0->Kq Q->G:=by
 intro ko1 k
 exact nu):G:=h x0 ⟨k⟩
theorem dK {Q:Prop}(x0:A0)(k:Q)(h:A0->Kq Q->G:=by
 intro kr1 k
 exact nu):G:=h x0 ⟨k⟩
theorem wM {Q:Prop}(x0:A0)(x1:A1)(k:Q)(h:A0->A1->Kq Q->G:=by
 intro kr1 km1 k
 exact nu):G:=h x0 x1 ⟨k⟩
theorem DZ {Q:Prop}(x0:A0)(x1:A1)(k:Q)(h:A0->A1->Kq Q->G:=by
 intro kr1 kn1 k
 exact nu):G:=h x0 x1 ⟨k⟩
theorem fG {Q:Prop}(x0:A0)(x1:A1)(k:Q)(h:A0->A1->Kq Q->G:=by
 intro kr1 kr2 k
 exact nu):G:=h x0 x1 ⟨k⟩
theorem dQ {Q:Prop}(x0:A0)(x1:A1)(x2:A2)(k:Q)(h:A0->A1->A2->Kq Q->G:=by
 intro kr1 kr2 kr3 k
 exact nu):G:=h x0 x1 x2 ⟨k⟩
theorem D0 {Q:Prop}(x0:A0)(x1:A1)(x2:A2)(x3:A3)(k:Q)(h:A0->A1->A2->A3->Kq Q->G:=by
 intro kr1 kr2 kr3 km1 k
 exact nu):G:=h x0 x1 x2 x3 ⟨k⟩
theorem wN {Q:Prop}(x0:A0)(x1:A1)(x2:A2)(x3:A3)(k:Q)(h:A0->A1->A2->A3->Kq Q->G:=by
 intro kr1 kr2 kr3 kn1 k
 exact nu):G:=h x0 x1 x2 x3 ⟨k⟩
theorem nU {Q:Prop}(x0:A0)(x1:A1)(x2:A2)(x3:A3)(k:Q)(h:A0->A1->A2->A3->Kq Q->G:=by
 intro kr1 kr2 kr3 kr4 k
 exact nu):G:=h x0 x1 x2 x3 ⟨k⟩
theorem wO {Q:Prop}(x0:A0)(x1:A1)(x2:A2)(x3:A3)(x4:A4)(k:Q)(h:A0->A1->A2->A3->A4->Kq Q->G:=by
 intro kr1 kr2 kr3 kr4 kn1 k
 exact nu):G:=h x0 x1 x2 x3 x4 ⟨k⟩
theorem YY {Q:Prop}(x0:A0)(x1:A1)(x2:A2)(x3:A3)(x4:A4)(k:Q)(h:A0->A1->A2->A3->A4->Kq Q->G:=by
 intro kr1 kr2 kr3 kr4 kr5 k
 exact nu):G:=h x0 x1 x2 x3 x4 ⟨k⟩
theorem Wl {Q:Prop}(x0:A0)(x1:A1)(x2:A2)(x3:A3)(x4:A4)(x5:A5)(k:Q)(h:A0->A1->A2->A3->A4->A5->Kq Q->G:=by
 intro kr1 kr2 kr3 kr4 kr5 kr6 k
 exact nu):G:=h x0 x1 x2 x3 x4 x5 ⟨k⟩
theorem oW {Q:Prop}(x0:A0)(k:Q)(h:A0->Kq Q->G:=by
 intro kc1 k
 exact mL):G:=h x0 ⟨k⟩
theorem eG {Q:Prop}(x0:A0)(k:Q)(h:RowKit.Hid A0->Kq Q->G:=by
 intro ke1 k
 exact mL):G:=h x0 ⟨k⟩
theorem cE {Q:Prop}(x0:A0)(x1:A1)(k:Q)(h:RowKit.Hid A0->A1->Kq Q->G:=by
 intro ke1 kc1 k
 exact mL):G:=h x0 x1 ⟨k⟩
theorem bz {Q:Prop}(x0:A0)(x1:A1)(x2:A2)(k:Q)(h:RowKit.Hid A0->A1->A2->Kq Q->G:=by
 intro ke1 kc1 kc2 k
 exact mL):G:=h x0 x1 x2 ⟨k⟩
theorem mM {Q:Prop}(x0:A0)(x1:A1)(x2:A2)(x3:A3)(k:Q)(h:RowKit.Hid A0->A1->A2->A3->Kq Q->G:=by
 intro ke1 kc1 kc2 kc3 k
 exact mL):G:=h x0 x1 x2 x3 ⟨k⟩
theorem g9 {Q:Prop}(x0:A0)(x1:A1)(x2:A2)(x3:A3)(x4:A4)(k:Q)(h:RowKit.Hid A0->A1->A2->A3->A4->Kq Q->G:=by
 intro ke1 kc1 kc2 kc3 kc4 k
 exact mL):G:=h x0 x1 x2 x3 x4 ⟨k⟩
theorem pY {Q:Prop}(x0:A0)(x1:A1)(x2:A2)(x3:A3)(x4:A4)(x5:A5)(k:Q)(h:RowKit.Hid A0->A1->A2->A3->A4->A5->Kq Q->G:=by
 intro ke1 kc1 kc2 kc3 kc4 kc5 k
 exact mL):G:=h x0 x1 x2 x3 x4 x5 ⟨k⟩
theorem kS {Q:Prop}(x0:A0)(x1:A1)(x2:A2)(k:Q)(h:RowKit.Hid A0->A1->A2->Kq Q->G:=by
 intro ke1 kf1 kf2 k
 exact mL):G:=h x0 x1 x2 ⟨k⟩
theorem iY {Q:Prop}(x0:A0)(x1:A1)(k:Q)(h:RowKit.Hid A0->RowKit.Hid A1->Kq Q->G:=by
 intro ke1 kh1 k
 exact mL):G:=h x0 x1 ⟨k⟩
theorem eo {Q:Prop}(x0:A0)(x1:A1)(k:Q)(h:RowKit.Hid A0->A1->Kq Q->G:=by
 intro ke1 km1 k
 exact mL):G:=h x0 x1 ⟨k⟩
theorem fm {Q:Prop}(x0:A0)(x1:A1)(x2:A2)(k:Q)(h:RowKit.Hid A0->A1->A2->Kq Q->G:=by
 intro ke1 km1 km2 k
 exact mL):G:=h x0 x1 x2 ⟨k⟩
theorem pZ {Q:Prop}(x0:A0)(x1:A1)(x2:A2)(x3:A3)(k:Q)(h:RowKit.Hid A0->A1->A2->A3->Kq Q->G:=by
 intro ke1 km1 km2 km3 k
 exact mL):G:=h x0 x1 x2 x3 ⟨k⟩
theorem oX {Q:Prop}(x0:A0)(x1:A1)(k:Q)(h:RowKit.Hid A0->RowKit.Hid A1->Kq Q->G:=by
 intro ke1 ke2 k
 exact mL):G:=h x0 x1 ⟨k⟩
theorem nV {Q:Prop}{A6:Prop}(x0:A0)(x1:A1)(x2:A2)(x3:A3)(x4:A4)(x5:A5)(x6:A6)(k:Q)(h:RowKit.Hid A0->RowKit.Hid A1->A2->A3->A4->A5->A6->Kq Q->G:=by
 intro ke1 ke2 kc1 kr1 kr2 kr3 kn1 k
 exact mL):G:=h x0 x1 x2 x3 x4 x5 x6 ⟨k⟩
theorem zU {Q:Prop}(x0:A0)(x1:A1)(x2:A2)(x3:A3)(k:Q)(h:RowKit.Hid A0->RowKit.Hid A1->A2->A3->Kq Q->G:=by
 intro ke1 ke2 kc1 kc2 k
 exact mL):G:=h x0 x1 x2 x3 ⟨k⟩
theorem zV {Q:Prop}(x0:A0)(x1:A1)(x2:A2)(k:Q)(h:RowKit.Hid A0->RowKit.Hid A1->RowKit.Hid A2->Kq Q->G:=by
 intro ke1 ke2 kh1 k
 exact mL):G:=h x0 x1 x2 ⟨k⟩
theorem kT {Q:Prop}(x0:A0)(x1:A1)(x2:A2)(k:Q)(h:RowKit.Hid A0->RowKit.Hid A1->A2->Kq Q->G:=by
 intro ke1 ke2 km1 k
 exact mL):G:=h x0 x1 x2 ⟨k⟩
theorem zW {Q:Prop}(x0:A0)(x1:A1)(x2:A2)(x3:A3)(k:Q)(h:RowKit.Hid A0->RowKit.Hid A1->RowKit.Hid A2->RowKit.Hid A3->Kq Q->G:=by
 intro ke1 ke2 ke3 kh1 k
 exact mL):G:=h x0 x1 x2 x3 ⟨k⟩
theorem oY {Q:Prop}(x0:A0)(k:Q)(h:RowKit.Hid A0->Kq Q->G:=by
 intro kh1 k
 exact mL):G:=h x0 ⟨k⟩
theorem kD {Q:Prop}(x0:A0)(k:Q)(h:A0->Kq Q->G:=by
 intro kc1 k
 exact Xk):G:=h x0 ⟨k⟩
theorem u3 {Q:Prop}(x0:A0)(x1:A1)(k:Q)(h:A0->A1->Kq Q->G:=by
 intro kc1 kc2 k
 exact Xk):G:=h x0 x1 ⟨k⟩
