/- Texts joined: ArgsA Wk AbsMix WkB StR Rkp. -/
import Derived.Test.YtaclhhkblbacgaaGreatJ28
set_option maxRecDepth 10000
set_option maxHeartbeats 8000000
namespace Go.Proofs.YtaclhhkblbacgaaGreat
open Go.RowKit Go.Proofs.Tryz
variable {c:Cnt} {l l':List PV} {id vr:Nat} {D:List PV} {x:Operand} {e:Nat} {ty:TypeId} {i:Nat}
def cx (w:World):Ctx:=⟨w,fun _=>False,fun _=>False,g0⟩
abbrev In (w:World)(v:Value)(c:Cnt):Prop:=crep (cx w) (fun _=>0) g0 w v c
theorem Vo {P:Program}{f:FuncId}{d:Cnt}{w:World}{v v':Value}(h:Fn P f [c,d] (.per (ak (.bool true))))(h0:In w v c)(h1:In w v' d):Calls P f #[v,v'] w fun e w'=>e=.returned (.bool true)∧eX w w':=by
 refine(h.run (fun _=>False) w [v,v'] (fun _ hb=>hb.elim) ⟨rfl,fun i u d hi hj=>?_⟩).mono ?_
 ·match i,hi,hj with
  | 0,hi,hj=>cases hi;cases hj;exact h0
  | 1,hi,hj=>cases hi;cases hj;exact h1
  | _+2,hi,_=>simp at hi
 ·rintro e w' ⟨u,rfl,hx,hu⟩
  have hu:u=.bool true:=hu
  exact⟨by rw[hu],hx⟩
def zS (A B:PV):Prop:=∀(N:BP)(w:World)(v:Value),A.p N w v→B.p N w v
theorem zS.refl {A:PV}:zS A A:=fun _ _ _ h=>h
theorem ee {k:Nat}:zS (ak (.slice none 0 0)) (cA k []):=fun N w v h=>by
 have h:v=.slice none 0 0:=h
 subst h
 exact⟨none,0,0,0,rfl,au,bz,fun _=>rfl,au,fun i cs hi=>by simp at hi⟩
inductive PW:List PV→List PV→Prop
 | nil:PW [] []
 | cons {A B:PV} {l l':List PV} (h:zS A B) (k:PW l l'):PW (A::l) (B::l')
theorem PW.len (h:PW l l'):l.length=l'.length:=by
 induction h with
 | nil=>rfl
 | cons h k ih=>simp[ih]
theorem PW.get (h:PW l l'):∀(j:Nat)(B:PV),l'[j]?=some B→∃A,l[j]?=some A∧zS A B:=by
 induction h with
 | nil=>intro j B h;simp at h
 | @cons A B l l' h k ih=>
  intro j C hj
  cases j with
  | zero=>simp at hj;subst hj;exact⟨A,rfl,h⟩
  | succ j=>simpa using ih j C (by simpa using hj)
theorem QS (h:PW l l'):zS (cB l) (cB l'):=fun N w v ⟨vs,e,h1,h2⟩=>by
 refine⟨vs,e,by rw[h1,h.len],fun j B hj=>?_⟩
 obtain⟨A,q1,q2⟩:=h.get j B hj
 obtain⟨y,r1,r2,r3⟩:=h2 j A q1
 exact⟨y,r1,r2,q2 N w y r3⟩
theorem aI (h:PW l l':=by(repeat (first|exact PW.nil|(refine PW.cons (by first|exact zS.refl|exact ee) ?_)))):zS (cB l) (cB l'):=QS h
section
variable {P:Program} {n:Nat} {S:St} {A B:PV} {rv:ResultVar} {τ:List (Nat×Nat)}
theorem kc (h:Bn P n S τ rv (.per A))(k:zS A B):Bn P n S τ rv (.per B):=fun C g a w hR=>by
 obtain⟨v,h1,h2⟩:=h C g a w hR
 exact⟨v,h1,k _ _ _ h2⟩
theorem GW (h:cC P n S rv (.per A))(k:zS A B):cC P n S rv (.per B):=fun C g a w hL hR=>by
 obtain⟨v,h1,h2⟩:=h C g a w hL hR
 exact⟨v,h1,k _ _ _ h2⟩
theorem Fn.arg1 {f:FuncId}{r:Ret}(h:Fn P f [.per B] r)(k:zS A B):Fn P f [.per A] r:=⟨h.ent,fun N0 w vs hN ha=>by
 refine h.run N0 w vs hN ⟨ha.1,fun i u c hi hj=>?_⟩
 match i,hi,hj with
 | 0,hi,hj=>cases hj;exact k _ _ _ (ha.2 0 u (.per A) hi rfl)
 | _+1,_,hj=>simp at hj⟩
theorem lD {p:Prop}(h:p:=by exact GW (Rv inferInstance inferInstance rfl rfl rfl rfl rfl rfl) aI):p:=h
end
section
variable {P:Program} {n:Nat} {ops:Array Oper} {o:Oper} {F:List Nat} {S T:St} {C:Ctx} {g:Gh} {a:Act} {w w':World} {t:Nat}
theorem GX {B:Blk}(hR:RG C n S g a w)(hv:S.ver id=vr)(hb:brep C S.ver g w id B):RG C n (S.putB [(id,vr,B)]) g a w:=by
 have hver:(S.putB [(id,vr,B)]).ver=S.ver:=by
  funext i
  rw[St.putB_ver]
  split
  ·rename_i h;subst h;exact hv.symm
  ·rfl
 refine⟨hR.defers,hR.tsz,hR.nle,hR.keep,hR.os,hR.tape,hR.output,hR.size,hR.old,hR.n0,hR.n0l,hR.dom,fun t=>?_,fun i=>?_⟩
 ·rw[hver];exact hR.slots t
 ·rw[hver,St.putB_blk]
  split
  ·rename_i h;subst h;exact hb
  ·exact hR.blks i
theorem Fe (id vr id2 e e2 k2:Nat)(hv:S.ver id=vr)(hb:S.blk id=.row e 1 (D.map (fun A=>[A])++[[ak (.slice none 0 0)]]))(hne:Nat.beq id id2=false)(hfx:fq id2=false:=by rfl) :
 Le n S ((S.putB [(id2,S.ver id2+1,.row e2 k2 [])]).putB [(id,vr,.mix e D (.row id2 (S.ver id2+1)))]):=by
 rintro C a w ⟨g,hR⟩
 have hne':id≠id2:=fun h=>by rw[bq.2 h]at hne;cases hne
 have hvr:∀i,(S.app none .any [(id2,S.ver id2+1,.row e2 k2 [])]).ver i=if i=id2 then S.ver id2+1 else S.ver i:=fun i=>St.app_some_ver _ _ _ _ _ _ _
 have hst:=od (v:=.slice none 0 0) (t:=id2) hR (eX.refl w) hvr hfx
 have h1:=hR.app1 (d:=none) (c:=.any) (v:=undef) (fun _ h=>by cases h) hst trivial (.inl ⟨V6 rfl,rfl⟩)
 have hvr2:=fun i=>St.putB_ver S id2 (S.ver id2+1) (.row e2 k2 []) i
 refine⟨_,GX (id:=id) (vr:=vr) h1 ?_ ?_⟩
 ·rw[hvr2,V3 hne',hv]
 ·have h2:=h1.blks id
  rw[St.app_some_blk,V3 hne',hb]at h2
  rcases h2 with⟨_,q⟩|⟨cap,cs,q1,q2,q3,q4,q5,q6,q7⟩
  ·simp at q
  ·simp only[V5,V7,Wh,List.length_nil]at q1 q4
   refine⟨cap,cs,q1,q2,q3,q4,q5,by rw[q6,Xr],fun i A hi=>?_,?_⟩
   ·obtain⟨_,r⟩:=q7 i [A] (by rw[Wl (by
     have:=(Ws.1 hi).1;simpa using this),List.getElem?_map,hi];rfl)
    obtain⟨y,s1,s2,s3⟩:=r 0 A rfl
    exact⟨y,by simpa using s1,s2,s3⟩
   ·obtain⟨_,r⟩:=q7 D.length [ak (.slice none 0 0)] (by rw[List.getElem?_append_right au];simp)
    obtain⟨y,s1,s2,s3⟩:=r 0 _ rfl
    have s3:y=.slice none 0 0:=s3
    exact⟨y,by simpa using s1,s2,by rw[hvr2,V6 rfl];exact V8 _,fun _=>by rw[s3];exact(V6 rfl).symm⟩
theorem vJ (id vr id2 e:Nat){v2 e2 k2:Nat}{es2:List (List PV)}(hv:S.ver id=vr)(hb:S.blk id=.mix e D (.row id2 v2))(hv2:S.ver id2=v2)(hb2:S.blk id2=.row e2 k2 es2) :
 Le n S ((S.putB [(id2,v2+1,.none)]).putB [(id,vr,.row e 1 (D.map (fun A=>[A])++[[cA k2 es2]]))]):=by
 rintro C a w ⟨g,hR⟩
 have hne':id≠id2:=fun h=>by rw[h,hb2]at hb;cases hb
 let g':Gh:=⟨fun b=>if g.ow b=some id2 then none else g.ow b,g.ph,g.rh⟩
 have hg':∀b,g'.ow b=if g.ow b=some id2 then none else g.ow b:=fun _=>rfl
 have hvr:∀i,(S.app none .any [(id2,v2+1,.none)]).ver i=if i=id2 then v2+1 else S.ver i:=fun i=>St.app_some_ver _ _ _ _ _ _ _
 have hst:pa C (fun i=>i=id2) S.ver (S.app none .any [(id2,v2+1,.none)]).ver g g' w w:=by
  refine⟨V8 _,fun _ _ _=>rfl,fun b _ hn=>?_,fun b _ hn=>?_,fun b i e=>?_,fun i=>?_,fun _ _=>⟨rfl,rfl⟩,fun _ _=>⟨rfl,rfl⟩,rfl,rfl,rfl⟩
  ·rw[hg',V3 (hn id2 rfl)]
  ·rw[hg']at hn
   by_cases h:g.ow b=some id2
   ·rw[h];simp
   ·rwa [V3 h]at hn
  ·rw[hg']at e
   by_cases h:g.ow b=some id2
   ·rw[V6 h]at e;cases e
   ·rw[V3 h]at e;exact hR.dom b i e
  ·rw[hvr]
   by_cases h:i=id2
   ·subst h;exact .inr ⟨rfl,by rw[V6 rfl];omega⟩
   ·rw[V3 h];exact .inl rfl
 have hB:=hR.blks id
 rw[hb]at hB
 have hB2:=hR.blks id2
 rw[hb2]at hB2
 have h1:=hR.app1 (d:=none) (c:=.any) (v:=undef) (fun _ h=>by cases h) hst trivial trivial
 have hvr2:=fun i=>St.putB_ver S id2 (v2+1) .none i
 refine⟨_,GX (id:=id) (vr:=vr) h1 ?_ ?_⟩
 ·rw[hvr2,V3 hne',hv]
 ·obtain⟨cap,cs,q1,q2,q3,q4,q5,q6,q7,y,r1,r2,r3⟩:=hB
  have hlst:eH (g'.N C) (g'.N C) k2 es2 w y:=by
   rw[show y=g.rh id2 from r3.2 hv2.symm]
   rcases hB2 with⟨t1,rfl⟩|⟨cap2,cs2,t1,t2,t3,t4,t5,t6,t7⟩
   ·exact⟨none,0,0,0,by rw[t1];rfl,au,bz,fun _=>rfl,au,fun i cs hi=>by simp at hi⟩
   ·have hd:=hR.dom _ _ t3
    refine⟨_,cap2,g.ph id2,0,t1,t4,t5,au,fun _=>⟨rfl,hd.1,fun hn=>?_⟩,fun i ps hi=>?_⟩
    ·rcases hn with hn|hn
     ·have:=hR.n0 _ hn
      rcases hd.2 with q|q
      ·omega
      ·exact hR.n0l _ hn q
     ·rw[hg',V6 t3]at hn;exact hn rfl
    ·obtain⟨u1,u2⟩:=t7 i ps hi
     refine⟨u1,fun j A hj=>?_⟩
     obtain⟨y,s1,s2,s3⟩:=u2 j A hj
     exact⟨y,by rw[WF,eo t2];exact s1,s2,A.mono (V8 _) (fun _ _ _=>rfl) hst.n s3⟩
  refine .inr ⟨cap,cs,by simpa using q1,q2,by rw[hg',V3 (by rw[q3];simpa using hne')];exact q3,by simpa using q4,q5,by rw[q6,Xr],fun i ps hi=>?_⟩
  rcases Wm i D.length with hlt|hge
  ·rw[Wl (by simpa using hlt),List.getElem?_map]at hi
   cases hA:D[i]? with
   | none=>rw[hA]at hi;cases hi
   | some A=>
    rw[hA]at hi;cases hi
    refine⟨rfl,fun j A' hj=>?_⟩
    cases j with
    | zero=>
     simp at hj;subst hj
     obtain⟨y',s1,s2,s3⟩:=q7 i A hA
     exact⟨y',by simpa using s1,s2,A.mono (V8 _) (fun _ _ _=>rfl) hst.n s3⟩
    | succ j=>simp at hj
  ·rw[List.getElem?_append_right (by simpa using hge)]at hi
   have h0:i-(D.map (fun A=>[A])).length=0:=by
    cases hq:i-(D.map (fun A=>[A])).length with
    | zero=>rfl
    | succ q=>rw[hq]at hi;simp at hi
   rw[h0]at hi
   simp at hi;subst hi
   have hiD:i=D.length:=by simp at h0;omega
   subst hiD
   refine⟨rfl,fun j A' hj=>?_⟩
   cases j with
   | zero=>simp at hj;subst hj;exact⟨y,by simpa using r1,r2,hlst⟩
   | succ j=>simp at hj
theorem NA (hA:dV F T S)(hF:∀k∈az x,k∈F)(hF':2*id+1∈F)(hR:RG C n T g a w)(hx:S.opd x=.row id vr)(hv:S.ver id=vr)(hb:S.blk id=.mix e D c) :
 a.eval x=g.rh id∧brep C T.ver g w id (.mix e D c):=by
 have h:=aG hA hF hR
 rw[hx]at h
 have h2:=hA.2 id hF'
 have h3:=hR.blks id
 rw[h2.1,hb]at h3
 exact⟨h.2 (by rw[h2.2,hv]),h3⟩
theorem zT {e':TypeId}(hp:Pl n o t)(ho:kE o ty x)(hT:gx P ty (.slice e'))(hx:S.opd x=.row id vr)(hv:S.ver id=vr)(hb:S.blk id=.mix e D c) :
 aw n P ops o ((2*id+1)::az x) (iC .i64 ((D.length+1:Nat):Int)) [] S:=
 aV hp fun C T g a w hA hR=>by
  obtain⟨h1,cap,cs,q1,_⟩:=NA (x:=x) hA (fun k h=>by simp[h]) au hR hx hv hb
  exact⟨_,oc ho (h1.trans q1) (uc hT.h w),rfl⟩
theorem r9 {e':TypeId}{ix:Operand}{kk:IntKind}{z:Int}(hp:Pl n o t)(ho:o.op=.indexAddr ty x ix)(hT:gx P ty (.slice e'))(hk:gN P e' 1)
 (hx:S.opd x=.row id vr) (hv:S.ver id=vr) (hb:S.blk id=.mix e D c) (hi:S.opd ix=iC kk z) (hz:z=(i:Int)) (hlt:i<D.length+1):aw n P ops o ((2*id+1)::(az x++az ix)) (.ept id vr 1 i 0) [] S:=
 aV hp fun C T g a w hA hR=>by
  obtain⟨h1,cap,cs,q1,_⟩:=NA (x:=x) hA (fun k h=>by simp[h]) au hR hx hv hb
  have h3:=aP (x:=ix) hA (fun k h=>by simp[h]) hR hi
  have hvt:=(hA.2 id au).2
  refine⟨.pointer (some ⟨g.ph id,0+i*1,none⟩),?_,⟨ab,fun _=>au⟩⟩
  subst hz
  simp only[execOp,ho,h1,q1,h3,Sem.run_bind,jM hT.h hk.h bz hlt];rfl
theorem NB (hA:dV F T S)(hF:∀k∈az x,k∈F)(hF':2*id+1∈F)(hR:RG C n T g a w)(hx:S.opd x=.ept id vr 1 i 0)(hv:S.ver id=vr)(hb:S.blk id=.mix e D c) :
 a.eval x=.pointer (some ⟨g.ph id,i,none⟩)∧brep C T.ver g w id (.mix e D c):=by
 have h:=aG hA hF hR
 rw[hx]at h
 have h2:=hA.2 id hF'
 have h3:=hR.blks id
 rw[h2.1,hb]at h3
 have:=h.2 (by rw[h2.2,hv])
 exact⟨by simpa using this,h3⟩
theorem vK (hp:Pl n o t)(ho:o.op=.load ty x)(hT:dZ P ty false)(hx:S.opd x=.ept id vr 1 i 0)(hv:S.ver id=vr)(hb:S.blk id=.mix e D c)(hi:i=D.length) :
 aw n P ops o ((2*id+1)::az x) c [] S:=
 aV hp fun C T g a w hA hR=>by
  obtain⟨h1,cap,cs,q1,q2,q3,q4,q5,q6,q7,y,r1,r2,r3⟩:=NB (x:=x) hA (fun k h=>by simp[h]) au hR hx hv hb
  obtain⟨d,d1,d2⟩:=hT.h
  subst hi
  refine⟨y,?_,r3⟩
  simp only[execOp,ho,h1,Sem.run_bind,kD (b:=g.ph id) (o:=D.length) d1 d2 (by rw[eo q2];exact r1)];rfl
theorem sa {y:Operand}{id2 v2 e2 k2:Nat}{es2:List (List PV)}(hp:Dw o)(ho:o.op=.store ty x y)(hk:gN P ty 1)(hx:S.opd x=.ept id vr 1 i 0)(hv:S.ver id=vr)(hb:S.blk id=.mix e D c)(hi:i=D.length)
 (hy:S.opd y=.row id2 v2) (hv2:S.ver id2=v2) (hb2:S.blk id2=.row e2 k2 es2) :
 aw n P ops o ((2*id+1)::(2*id2+1)::(az x++az y)) .any [(id,vr,.mix e D (.row id2 v2))] S:=by
 refine⟨?_⟩
 intro C T hA a w ⟨g,hR⟩
 obtain⟨h1,cap,cs,q1,q2,q3,q4,q5,q6,q7,yy,r1,r2,r3⟩:=NB (x:=x) hA (fun k h=>by simp[h]) au hR hx hv hb
 obtain⟨hy1,hy2⟩:=nn (x:=y) hA (fun k h=>by simp[h]) au hR hy hv2 hb2
 have hvt:=(hA.2 id au).2
 have hvt2:=(hA.2 id2 au).2
 subst hi
 have hone:(g.rh id2).oneCell'=true∧(g.rh id2).cells=#[g.rh id2]:=by
  rcases hy2 with⟨t1,_⟩|⟨cap2,cs2,t1,_⟩<;>rw[t1]<;>exact⟨rfl,rfl⟩
 have hlt:D.length<cs.size:=ab
 unfold iM
 rw[V6 (by simp[Region.wanted,hp.1])]
 unfold Oper.wp
 have hrun:=k7 (P:=P) (ty:=ty) (off:=D.length) (v:=g.rh id2) q2 (by rw[hk.h,hone.2];rfl) (by rw[hone.2];exact Nat.zero_lt_one) (by rw[hone.2];exact hlt) (by rw[hone.2];simpa using hone.1)
 have hex:(execOp a.eval o).run P w=.ok .skip (w.setRow (g.ph id) (cs.toList.take D.length++(g.rh id2).cells.toList++cs.toList.drop (D.length+(g.rh id2).cells.size)).toArray):=by
  simp only[execOp,ho,h1,hy1,Sem.run_bind,hrun];rfl
 rw[hex,Oper.upon_skip]
 have hst:=n9 (cs':=(cs.toList.take D.length++(g.rh id2).cells.toList++cs.toList.drop (D.length+(g.rh id2).cells.size)).toArray) hR rfl q2 q3
 have hver:(T.app o.dst .any [(id,vr,.mix e D (.row id2 v2))]).ver=T.ver:=by
  funext i
  rw[St.app_some_ver]
  split
  ·rename_i h;subst h;rw[hvt,hv]
  ·rfl
 refine⟨g,hR.app1 (c:=.any) (fun t h=>by rw[hp.2]at h;cases h) (by rw[hver];exact hst) trivial ?_⟩
 rw[hver]
 have hlen:(cs.toList.take D.length).length=D.length:=bn
 refine⟨cap,_,q1,setRow_heap _ _ _ _ _ _ q2,q3,q4,q5,by rw[hone.2];simp;omega,fun i A hA'=>?_,g.rh id2,?_,hone.1,⟨by rw[hvt2,hv2];exact V8 _,fun _=>rfl⟩⟩
 ·have hil:i<D.length:=(Ws.1 hA').1
  obtain⟨y',s1,s2,s3⟩:=q7 i A hA'
  refine⟨y',?_,s2,A.mono hst.sz hst.keepN hst.n s3⟩
  rw[W3,V9,Wl ab,WI,V6 hil]
  simpa using s1
 ·rw[hone.2,W3,V9,List.getElem?_append_right ab,hlen]
  simp
end
theorem cE {n:Nat}{S:St}(id vr e:Nat)(As Bs:List PV)(hv:S.ver id=vr)(hb:S.blk id=.box e (As.map Cnt.per))(k:PW As Bs):Le n S (S.putB [(id,vr,.box e (Bs.map Cnt.per))]):=by
 rintro C a w ⟨g,hR⟩
 have h:=hR.blks id
 rw[hb]at h
 obtain⟨cs,h1,h2,h3,h4⟩:=h
 refine⟨g,GX hR hv ⟨cs,h1,h2,by rw[h3,V7,V7,k.len],fun j c hj=>?_⟩⟩
 rw[List.getElem?_map]at hj
 cases hB:Bs[j]? with
 | none=>rw[hB]at hj;cases hj
 | some B=>
  rw[hB]at hj;cases hj
  obtain⟨A,q1,q2⟩:=k.get j B hB
  obtain⟨y,r1,r2,r3⟩:=h4 j (.per A) (by rw[List.getElem?_map,q1];rfl)
  exact⟨y,r1,r2,q2 _ _ _ r3⟩
theorem QT {n:Nat}{S:St}(id vr e k:Nat)(es es':List (List PV))(hv:S.ver id=vr)(hb:S.blk id=.row e k es)(hl:es.length=es'.length)(h:∀(i:Nat)(ps':List PV),es'[i]?=some ps'→∃ps,es[i]?=some ps∧PW ps ps'):Le n S (S.putB [(id,vr,.row e k es')]):=by
 rintro C a w ⟨g,hR⟩
 have hB:=hR.blks id
 rw[hb]at hB
 refine⟨g,GX hR hv ?_⟩
 rcases hB with⟨q1,q2⟩|⟨cap,cs,q1,q2,q3,q4,q5,q6,q7⟩
 ·refine .inl ⟨q1,?_⟩
  rw[q2]at hl
  exact Wf hl.symm
 ·refine .inr ⟨cap,cs,by rw[←hl];exact q1,q2,q3,ab,q5,q6,fun i ps' hi=>?_⟩
  obtain⟨ps,r1,r2⟩:=h i ps' hi
  obtain⟨t1,t2⟩:=q7 i ps r1
  refine⟨by rw[←t1,r2.len],fun j B hj=>?_⟩
  obtain⟨A,u1,u2⟩:=r2.get j B hj
  obtain⟨y,z1,z2,z3⟩:=t2 j A u1
  exact⟨y,z1,z2,u2 _ _ _ z3⟩
def qU (f:List Rg):List Pc:=f.map fun r=>⟨r,[]⟩
theorem NC (k:List Pc)(f:List Rg):mb (k++qU f)=mT k f:=by
 have e:qU f=f.map fun r=>(⟨r,[]⟩:Pc):=rfl
 unfold mb mT cK
 rw[List.map_append,e,List.map_map]
 congr 2
 have:(Pc.rg∘fun r=>(⟨r,[]⟩:Pc))=id:=rfl
 rw[this,List.map_id]
theorem ND (k:List Pc)(f:List Rg):(mT k f).length≤1+2*(k.length+f.length):=by
 have:=lY (cK k++f) [emB]
 unfold mT
 unfold cK at *
 simp only[Wh,List.length_nil,V5,V7,WF]at this
 exact this
theorem QU {k:List Pc}{f:List Rg}{m:ByteArray}(h:m∈mT k f):m.size≤1000000000:=by
 have:=zM k f m h;omega
theorem vL {k:List Pc}(hk:ew k)(f:List Rg)(s:ByteArray):dx (md k f s):=by
 unfold md
 split
 ·have:=M9 hk s
  exact⟨ab,ab⟩
 ·exact⟨au,au⟩
abbrev Un (r:Rg):List PV:=[ak (.string r.lo),ak (.string r.hi),ak (.bool r.op),ak (.slice none 0 0)]
theorem QV (k:List Pc)(f:List Rg)(s:ByteArray)(hk:ew k)(hf:cb f)(hfl:f.length≤1000000)(hs:s.size≤1000000000) :
 Fn prog 156 [sC s,.per (fM [fW f]),.per (fM [gG k])] (qG (md k f s)):=by
 have h1:=CO f s hf ab hs
 have h2:=RL k s hk hs
 unfold md
 cases hh:cQ f s with
 | false=>
  rw[hh]at h1
  simp only[WH,XC]
  refine fi func156 ntmps156 ?_
  (refine aq h1 ?_;repeat' first|apply ah|refine ai fun hc=>?_)
  exact dw (dv rfl)
 | true=>
  rw[hh]at h1
  simp only[Xq]
  generalize lC k s=A at *
  refine fi func156 ntmps156 ?_
  (refine bg h1 h2 ?_;repeat' first|apply ah|refine ai fun hc=>?_)
  exact nx
theorem nS (k:List Pc)(f:List Rg)(hk:ew k)(hf:cb f)(hfl:f.length≤100000)(hkl:k.length≤500000)(hof:Fn prog 153 [ec f] (CJ f)) :
 Fn prog 84 [nc k,.per (fW f)] (qO (cX k f)):=by
 have h0:=hof.frz
 have h1:=CD [k,qU f] au (by simp[qU];omega)
 have e1:[k,qU f].flatten=k++qU f:=au
 rw[e1,NC]at h1
 have hlE:=ND k f
 have h2:=CF 156 [fM [fW f],fM [gG k]] (md k f) (mT k f) ab (fun s hs=>(QV k f s hk hf ab (QU hs)).frz.toM) (fun s _=>GP k f s) (fun s _=>vL hk f s)
 rw[show pR (md k f) (mT k f)=cX k f from rfl]at h2
 generalize cX k f=R at *
 generalize mT k f=E at *
 clear hlE e1 hk
 refine fi func84 ntmps84 ?_
 (refine aq h0 ?_)
 refine bQ (bU 6 700 132 4 rfl rfl) ?_
 refine aj (X:=Nat) (fun i=>i≤f.length) (fun i=>ay [(2,.ptr 2 0 0),(5,.ptr 5 0 0),(6,.row 700 0),(11,.per (fW f)),(12,iC .i64 (f.length:Nat)),(13,iC .i64 (i:Nat))] [(2,.box 24 [nc k]),(5,.box 22 [.per (fW f)]),(700,.row 132 4 ((f.take i).map Un))]) (fun i=>f.length-i) 0 (Wa _) ?_
 intro i hi
 by_cases hlt:i<f.length
 ·have hsn:f.take (i+1)=f.take i++[f[i]]:=by rw[List.take_succ_eq_append_getElem hlt]
  have hlk:(f.take i).length≤i:=by rw[WA];omega
  generalize f.take i=A at *
  clear h0 h1 h2
  (refine w0 ?_;repeat' first|apply ah|refine ai fun hc=>?_)
  refine⟨i+1,hlt,ab,av (aN 700 701) (av (aN 701 700) ?_)⟩
  rw[hsn]
  exact ae
 ·rw[Wd (show f.length≤i by omega)]
  clear h0
  refine bQ (QT 700 _ 132 4 _ ((qU f).map pcP) rfl rfl (by simp[qU]) (fun j ps' hj=>?_)) ?_
  ·unfold qU at hj
   rw[List.map_map,List.getElem?_map]at hj
   cases hq:f[j]? with
   | none=>rw[hq]at hj;cases hj
   | some r=>
    rw[hq]at hj;cases hj
    refine⟨Un r,by rw[List.getElem?_map,hq];rfl,?_⟩
    (repeat (first|exact PW.nil|(refine PW.cons (by first|exact zS.refl|exact ee) ?_)))
  refine bQ (jj 700 _ 132 4 rfl rfl) (bQ (rD 2 _ 24 rfl rfl rfl) (bQ (rD 5 _ 22 rfl rfl rfl) ?_))
  (repeat' (first|refine ck ?_|refine bi ?_|refine bA ?_|refine bB ?_|refine cn ?_|refine aU ?_|refine bV cI ?_|refine ci ?_|refine cj (by kernel_rfl) ?_|(refine dL rfl rfl ⟨fun hc=>?_,fun hc=>?_⟩<;>(repeat rw[V7]at hc)<;>(try exact ce hc))|((first|apply aB rfl|apply aC rfl|apply aD rfl|apply aF rfl);focus (first|((apply aZ 22;(focus rfl);exact GJ ⟨rfl,rfl,rfl⟩ rfl rfl rfl))|(apply bI;(focus rfl);apply ag rfl rfl rfl rfl rfl;((apply aZ 22;(focus rfl);exact GJ ⟨rfl,rfl,rfl⟩ rfl rfl rfl)))|exact cz|((refine Ka (h1) (hg:=?_);((repeat (first|exact GL.nil|(refine GL.cons ?_ ?_;focus (first|exact ep rfl|exact eR rfl|exact gk rfl rfl rfl|exact eS rfl|exact gl rfl|exact eM rfl))));done)))|(apply bI;(focus rfl);apply ag rfl rfl rfl rfl rfl;((refine Ka (h1) (hg:=?_);((repeat (first|exact GL.nil|(refine GL.cons ?_ ?_;focus (first|exact ep rfl|exact eR rfl|exact gk rfl rfl rfl|exact eS rfl|exact gl rfl|exact eM rfl))));done))))|((refine Ka (h2) (hg:=?_);((repeat (first|exact GL.nil|(refine GL.cons ?_ ?_;focus (first|exact ep rfl|exact eR rfl|exact gk rfl rfl rfl|exact eS rfl|exact gl rfl|exact eM rfl))));done)))|(apply bI;(focus rfl);apply ag rfl rfl rfl rfl rfl;((refine Ka (h2) (hg:=?_);((repeat (first|exact GL.nil|(refine GL.cons ?_ ?_;focus (first|exact ep rfl|exact eR rfl|exact gk rfl rfl rfl|exact eS rfl|exact gl rfl|exact eM rfl))));done))))|fail))|refine bD ?_|refine bF ?_|refine bG ?_|refine de ?_|refine dg ?_|refine bH ?_|refine bj rfl ?_|((first|refine dM rfl rfl rfl ⟨fun hc=>?_,fun hc=>?_⟩|refine dN rfl rfl rfl ⟨fun hc=>?_,fun hc=>?_⟩)<;>(fail_if_success (have q:(true=true):=hc))<;>(fail_if_success (have q:(false=false):=hc))<;>(repeat rw[V7]at hc)<;>(try exact ce hc))|refine aH rfl rfl (fun hc=>?_) ?_))
  exact nx
theorem NF (p q:Pc)(hp:cu p.set)(hq:cu q.set)(tp:dx p.set)(tq:dx q.set):dh prog 152 [Vh p,Vh q] [] (bC (decide (p=q))) []:=by
 have h1:=Gg p.set q.set p.set q.set (nI p.set tp hp) (nI q.set tq hq) tp.sz
 have hEo:=LD p.rg q.rg
 have hE:p=q↔p.rg=q.rg∧p.set=q.set:=by cases p;cases q;simp
 clear hp hq tp tq
 by_cases e1:p.rg=q.rg
 ·rw[(qq _ _).2 e1]at hEo
  by_cases e2:p.set=q.set
  ·rw[Wb (hE.2 ⟨e1,e2⟩)]
   rw[Wb e2]at h1
   clear hE e2 e1
   refine dH func152 ntmps152 ?_
   (refine aq h1 ?_;repeat' ((first|apply aB rfl|apply aC rfl|apply aD rfl|apply aF rfl);(focus ((try (apply bI;(focus rfl);apply ag rfl rfl rfl rfl rfl));first|(exact gX (us:=encRg p.rg) (vs:=encRg q.rg) ⟨rfl,rfl,rfl⟩ rfl rfl rfl (by first|exact .inl ⟨rfl,rfl⟩|exact .inr ⟨rfl,rfl⟩) Sv rfl hEo)|((apply aZ 5;(focus rfl);first|exact bO ⟨rfl,rfl,rfl⟩ rfl inferInstance inferInstance rfl rfl rfl rfl|exact bP ⟨rfl,rfl,rfl⟩ rfl inferInstance inferInstance rfl rfl rfl rfl))));refine aq h1 ?_))
   (refine⟨(by first|exact .inl rfl|exact .inr rfl),gq [] rfl rfl .nil ?_⟩)
   exact iP rfl (by first|rfl|(simp;done))
  ·rw[Wj (fun h=>e2 (hE.1 h).2)]
   rw[Wj e2]at h1
   clear hE e2 e1
   refine dH func152 ntmps152 ?_
   (refine aq h1 ?_;repeat' ((first|apply aB rfl|apply aC rfl|apply aD rfl|apply aF rfl);(focus ((try (apply bI;(focus rfl);apply ag rfl rfl rfl rfl rfl));first|(exact gX (us:=encRg p.rg) (vs:=encRg q.rg) ⟨rfl,rfl,rfl⟩ rfl rfl rfl (by first|exact .inl ⟨rfl,rfl⟩|exact .inr ⟨rfl,rfl⟩) Sv rfl hEo)|((apply aZ 5;(focus rfl);first|exact bO ⟨rfl,rfl,rfl⟩ rfl inferInstance inferInstance rfl rfl rfl rfl|exact bP ⟨rfl,rfl,rfl⟩ rfl inferInstance inferInstance rfl rfl rfl rfl))));refine aq h1 ?_))
   (refine⟨(by first|exact .inl rfl|exact .inr rfl),gq [] rfl rfl .nil ?_⟩)
   exact iP rfl (by first|rfl|(simp;done))
 ·rw[Wj (fun h=>e1 (hE.1 h).1)]
  have he:TA p.rg q.rg=false:=by rw[←Wy,qq];exact e1
  rw[he]at hEo
  clear hE e1 he
  refine dH func152 ntmps152 ?_
  (refine aq h1 ?_;repeat' ((first|apply aB rfl|apply aC rfl|apply aD rfl|apply aF rfl);(focus ((try (apply bI;(focus rfl);apply ag rfl rfl rfl rfl rfl));first|(exact gX (us:=encRg p.rg) (vs:=encRg q.rg) ⟨rfl,rfl,rfl⟩ rfl rfl rfl (by first|exact .inl ⟨rfl,rfl⟩|exact .inr ⟨rfl,rfl⟩) Sv rfl hEo)|((apply aZ 5;(focus rfl);first|exact bO ⟨rfl,rfl,rfl⟩ rfl inferInstance inferInstance rfl rfl rfl rfl|exact bP ⟨rfl,rfl,rfl⟩ rfl inferInstance inferInstance rfl rfl rfl rfl))));refine aq h1 ?_))
  (refine⟨(by first|exact .inl rfl|exact .inr rfl),gq [] rfl rfl .nil ?_⟩)
  exact iP rfl (by first|rfl|(simp;done))
abbrev Uo:Cnt:=.per (ak (.func (.func 152) #[] #[]))
theorem Ff (l m:List Pc)(hl:fe l)(hm:fe m)(ol:∀p∈l,cu p.set)(om:∀p∈m,cu p.set):Fn prog 150 [dC l,dC m,Uo] (dq (decide (l=m))):=by
 have hl0:=hl.1
 refine fi func150 ntmps150 ?_
 (refine w0 ?_;repeat' first|apply ah|refine ai fun hc=>?_)
 ·refine dw ?_
  exact aL rfl (by symm;rw[Wt];intro h;subst h;omega)
 have hlm:l.length=m.length:=ab
 refine aj (fun k=>k≤l.length∧l.take k=m.take k) (fun k=>ay [(1,dC m),(2,Uo),(15,dC l),(16,iC .i64 (l.length:Nat)),(17,iC .i64 (k:Nat))] []) (fun k=>l.length-k) 0 ⟨Wa _,rfl⟩ ?_
 rintro k ⟨hk,hpre⟩
 by_cases hlt:k<l.length
 ·have hltm:k<m.length:=ab
  have c1:=NF l[k] m[k] (ol _ (Wk hlt)) (om _ (Wk hltm)) (hl.at hlt) (hm.at hltm)
  clear ol om hl hm
  by_cases he:l[k]=m[k]
  ·rw[Wb he]at c1
   (refine w0 ?_;repeat' first|apply ah|refine ai fun hc=>?_|((first|apply aB rfl|apply aC rfl|apply aD rfl|apply aF rfl);(focus ((try (apply bI;(focus rfl);apply ag rfl rfl rfl rfl rfl));first|(exact Lj [] c1)));refine w0 ?_))
   refine⟨k+1,⟨ab,?_⟩,ab,?_⟩
   ·rw[bc l k hlt,bc m k hltm,hpre,he]
   ·exact ae
  ·rw[Wj he]at c1
   have hd:¬l=m:=fun h=>he (by subst h;rfl)
   rw[Wj hd]
   clear hd he
   (refine w0 ?_;repeat' first|apply ah|refine ai fun hc=>?_|((first|apply aB rfl|apply aC rfl|apply aD rfl|apply aF rfl);(focus ((try (apply bI;(focus rfl);apply ag rfl rfl rfl rfl rfl));first|(exact Lj [] c1)));refine w0 ?_))
   exact dp
 ·rw[Wd ab,Wd ab]at hpre
  rw[Wb hpre]
  clear hpre ol om hl hm
  (refine w0 ?_;repeat' first|apply ah|refine ai fun hc=>?_)
  exact dp
theorem vM {k:List Pc}(h:aX k):∀p∈k,cu p.set:=fun p hp=>by
 obtain⟨i,hi,rfl⟩:=List.getElem_of_mem hp
 exact(h i hi hi).2.2.1
theorem NG (a b:List Pc)(ha:fe a)(hb:fe b)(oa:aX a)(ob:aX b):Fn prog 83 [nc a,nc b] (dq (decide (a=b))):=by
 have h1:=vz a oa ha
 have h2:=vz b ob hb
 have h3:=Ff a b ha hb (vM oa) (vM ob)
 clear ha hb oa ob
 refine fi func83 ntmps83 ?_
 (refine jP h3 h1 h2 ?_)
 exact dp
theorem GY:∀(l:List ByteArray)(n:ByteArray)(k:Nat),k≤l.length→(∀j (h:j<l.length),j<k→l[j]<n)→(∀h:k<l.length,¬l[k]<n) →
 ((∃h:k<l.length,l[k]=n)→ib l n=l)∧((¬∃h:k<l.length,l[k]=n)→ib l n=l.take k++n::l.drop k):=by
 intro l
 induction l with
 | nil=>
  intro n k hk _ _
  obtain rfl:k=0:=by simpa using hk
  exact⟨fun⟨h,_⟩=>by simp at h,fun _=>rfl⟩
 | cons x l ih=>
  intro n k hk h1 h2
  cases k with
  | zero=>
   have:=h2 au
   simp only[Xf]at this
   rw[ib,V3 this]
   refine⟨fun⟨_,e⟩=>?_,fun e=>?_⟩
   ·simp only[Xf]at e
    rw[V6 e]
   ·rw[V3 (fun q=>e ⟨au,by simpa using q⟩)]
    rfl
  | succ k=>
   have h3:=h1 0 au ab
   simp only[Xf]at h3
   have:=ih n k (by simpa using hk) (fun j hj hjk=>by have:=h1 (j+1) (by simpa using hj) ab;simpa using this) (fun h=>by have:=h2 (by simpa using h);simpa using this)
   rw[ib,V6 h3]
   refine⟨fun⟨h,e⟩=>?_,fun e=>?_⟩
   ·rw[this.1 ⟨by simpa using h,by simpa using e⟩]
   ·rw[this.2 (fun⟨h,q⟩=>e ⟨by simpa using h,by simpa using q⟩)]
    rfl
abbrev U7 (l:List ByteArray):PV:=cA 1 (l.map strP)
abbrev U8 (l:List ByteArray):Cnt:=.per (U7 l)
theorem I9 (e:List ByteArray)(l:List Rg)(k:Nat)(h:k<l.length):j9 e (l.take (k+1))=kO (j9 e (l.take k)) l[k]:=by
 unfold j9
 rw[List.take_succ_eq_append_getElem h,List.foldl_append]
 rfl
theorem NH:∀(l:List ByteArray)(n:ByteArray),(ib l n).length≤l.length+1:=by
 intro l
 induction l with
 | nil=>intro n;simp[ib]
 | cons x l ih=>
  intro n
  rw[ib]
  split
  ·have:=ih n;simp;omega
  ·split<;>simp
theorem Ja (X Y:List Kn):sH Ug X Y=gH ofR (X++Y):=by
 unfold sH gH
 rw[xW,←li,List.map_zipWith]
 congr 1
 exact xX _ _ (fun t u _ _=>M4 t u)
theorem zU (l:List ByteArray)(n:ByteArray)(hl:l.length≤1000000000)(hs:∀t∈l,t.size≤1000000000):Fn prog 212 [U8 l,sC n] (.per (U7 (ib l n))):=by
 generalize hR:ib l n=R
 refine fi func212 ntmps212 ?_
 (refine w0 ?_)
 refine aj (X:=Nat) (fun k=>k≤l.length∧∀j (h:j<l.length),j<k→l[j]<n)
  (fun k=>ay [(0,U8 l),(1,sC n),(5,iC .i64 ((k:Nat):Int))] []) (fun k=>l.length-k) 0 ⟨Wa _,fun j _ h=>ab⟩ ?_
 rintro k ⟨h1,h2⟩
 by_cases hk:k<l.length
 ·have c0:=jR l[k] n (by have:=hs _ (Wk hk);omega)
  by_cases hlt:l[k]<n
  ·rw[Wb (show cP l[k] n<0 from hlt)]at c0
   have h2':∀j (h:j<l.length),j<k+1→l[j]<n:=fun j h hj=>by
    rcases Wm j k with q|q
    ·exact h2 j h q
    ·obtain rfl:j=k:=ab
     exact hlt
   clear hR h2 hs hlt
   (refine aq c0 ?_;repeat' first|apply ah|refine ai fun hc=>?_)
   refine⟨k+1,⟨hk,h2'⟩,ab,?_⟩
   exact ae
  ·rw[Wj (show ¬cP l[k] n<0 from hlt)]at c0
   have hP:=GY l n k h1 h2 (fun _=>hlt)
   by_cases he:l[k]=n
   ·have hR':l=R:=by rw[←hR,hP.1 ⟨hk,he⟩]
    clear hR hP h2 hs hlt
    (refine aq c0 ?_;repeat' first|apply ah|refine ai fun hc=>?_)
    all_goals first
     | (exfalso;simp[he]at hc;done)
     | (refine dw ?_
        exact k9 rfl hR')
   ·have hR':l.take k++n::l.drop k=R:=by rw[←hR,hP.2 (fun⟨_,q⟩=>he q)]
    clear hR hP h2 hs hlt
    (refine aq c0 ?_;repeat' first|apply ah|refine ai fun hc=>?_)
    all_goals first
     | (exfalso;rw[g9]at hc;exact he hc)
     | (refine aR (bU 34 700 9 1 rfl rfl) ?_
        (refine w0 ?_)
        refine⟨.inl rfl,mH (jj 700 _ 9 1 rfl rfl) (KC rfl (tM rfl (by rw[←hR'];simp;rfl)))⟩)
 ·have hP:=GY l n k h1 h2 (fun h=>absurd h hk)
  have hR':l.take k++n::l.drop k=R:=by rw[←hR,hP.2 (fun⟨q,_⟩=>hk q)]
  clear hR hP h2 hs
  (refine w0 ?_;repeat' first|apply ah|refine ai fun hc=>?_)
  refine aR (bU 34 700 9 1 rfl rfl) ?_
  (refine w0 ?_)
  refine⟨.inl rfl,mH (jj 700 _ 9 1 rfl rfl) (KC rfl (tM rfl (by rw[←hR'];simp;rfl)))⟩
theorem Jb (A B:List Rg)(hA:A.length≤1000000)(hB:B.length≤1000000):Fn prog 140 [ec A,ec B] (.per (U7 (j9 [emB] (A++B)))):=by
 have hmem:∀k,∀t∈j9 [emB] ((A++B).take k),t.size≤1000000000:=fun k t ht=>by
  rcases(j0 _ _ _).1 ht with h|⟨r,_,h1,h2⟩
  ·have h:t=emB:=by simpa using h
   rw[h];decide
  ·have:=(b0 r).1 h1
   rcases h2 with h2|⟨_,h2⟩<;>rw[h2]<;>omega
 have hlen:∀k,(j9 [emB] ((A++B).take k)).length≤10000000:=fun k=>by
  have h1:=lY ((A++B).take k) [emB]
  have h2:((A++B).take k).length≤A.length+B.length:=by rw[WA,V5];omega
  simp only[Wh,List.length_nil]at h1
  omega
 refine fi func140 ntmps140 ?_
 (repeat' (first|refine ck ?_|refine bi ?_|refine bA ?_|refine bB ?_|refine cn ?_|refine aU ?_|refine bV cI ?_|refine ci ?_|refine cj (by kernel_rfl) ?_|(refine dL rfl rfl ⟨fun hc=>?_,fun hc=>?_⟩<;>(repeat rw[V7]at hc)<;>(try exact ce hc))|((first|apply aB rfl|apply aC rfl|apply aD rfl|apply aF rfl);focus (first|((apply aZ 15;(focus rfl);solve|(apply cq<;>first|exact⟨rfl,rfl,rfl⟩|rfl|infer_instance|(repeat (first|exact bM.nil|(apply bM.cons;(focus (first|exact aY rfl rfl rfl|exact dm rfl|exact dn rfl))))))))|(apply bI;(focus rfl);apply ag rfl rfl rfl rfl rfl;((apply aZ 15;(focus rfl);solve|(apply cq<;>first|exact⟨rfl,rfl,rfl⟩|rfl|infer_instance|(repeat (first|exact bM.nil|(apply bM.cons;(focus (first|exact aY rfl rfl rfl|exact dm rfl|exact dn rfl)))))))))|exact cz|fail))|refine bD ?_|refine bF ?_|refine bG ?_|refine de ?_|refine dg ?_|refine bH ?_|refine bj rfl ?_|((first|refine dM rfl rfl rfl ⟨fun hc=>?_,fun hc=>?_⟩|refine dN rfl rfl rfl ⟨fun hc=>?_,fun hc=>?_⟩)<;>(fail_if_success (have q:(true=true):=hc))<;>(fail_if_success (have q:(false=false):=hc))<;>(repeat rw[V7]at hc)<;>(try exact ce hc))|refine aH rfl rfl (fun hc=>?_) ?_))
 refine bQ (jj 8 _ 9 1 rfl rfl) ?_
 refine aj (X:=Nat) (fun k=>k≤A.length+B.length)
  (fun k=>ay [(0,ec A),(1,ec B),(5,U8 (j9 [emB] ((A++B).take k))),(6,iC .i64 ((k:Nat):Int))] []) (fun k=>A.length+B.length-k) 0 (Wa _) ?_
 intro k hk
 by_cases hlt:k<A.length+B.length
 ·have hlt':k<(A++B).length:=by rw[V5];exact hlt
  have hs:=I9 [emB] (A++B) k hlt'
  have hm:=hmem k
  have hl:=hlen k
  have hm2:=hmem (k+1)
  generalize j9 [emB] ((A++B).take k)=E at *
  obtain⟨r,hr⟩:∃r,r=(A++B)[k]:=⟨_,rfl⟩
  rw[←hr]at hs
  have c0:=jS r
  have c1:=zU E r.lo ab hm
  have hp:=NH E r.lo
  have hpm:fX r=true→∀t∈ib E r.lo,t.size≤1000000000:=fun h t ht=>by
   rcases(nL _ _ _).1 ht with q|q
   ·rw[q];have:=(b0 r).1 h;omega
   ·exact hm t q
  clear hmem hlen hm2 hm
  by_cases hkA:k<A.length
  ·have hrA:A[k]=r:=by rw[hr,List.getElem_append_left hkA]
   rw[←hrA]at c0 c1 hs hp hpm
   clear hr hrA
   cases hR:fX A[k]with
   | false=>
    rw[hR]at c0
    rw[kO,V3 (by simp[hR])]at hs
    (refine aq c0 ?_;repeat' first|apply ah|refine ai fun hc=>?_)
    refine⟨k+1,hlt,ab,?_⟩
    rw[hs]
    exact ae
   | true=>
    rw[hR]at c0
    rw[kO,V6 hR]at hs
    have hpm:=hpm hR
    cases hO:A[k].op with
    | true=>
     rw[V6 hO]at hs
     generalize ib E A[k].lo=E1 at *
     (refine Lu c0 c1 ?_;repeat' first|apply ah|refine ai fun hc=>?_)
     all_goals first
      | (exfalso;simp[hO]at hc;done)
      | (refine⟨k+1,hlt,ab,?_⟩
         rw[hs]
         exact ae)
    | false=>
     rw[V3 (by simp[hO])]at hs
     have c2:=zU (ib E A[k].lo) A[k].hi ab hpm
     generalize ib E A[k].lo=E1 at *
     generalize ib E1 A[k].hi=E2 at *
     (refine kG c0 c1 c2 ?_;repeat' first|apply ah|refine ai fun hc=>?_)
     all_goals first
      | (exfalso;simp[hO]at hc;done)
      | (refine⟨k+1,hlt,ab,?_⟩
         rw[hs]
         exact ae)
  ·have hkB:k-A.length<B.length:=ab
   have hrB:B[k-A.length]=r:=by rw[hr,List.getElem_append_right ab]
   have eK:((k:Nat):Int)-((A.length:Nat):Int)=((k-A.length:Nat):Int):=ab
   rw[←hrB]at c0 c1 hs hp hpm
   clear hr hrB
   cases hR:fX B[k-A.length]with
   | false=>
    rw[hR]at c0
    rw[kO,V3 (by simp[hR])]at hs
    (refine cF eK c0 ?_;repeat' first|apply ah|refine ai fun hc=>?_)
    refine⟨k+1,hlt,ab,?_⟩
    rw[hs]
    exact ae
   | true=>
    rw[hR]at c0
    rw[kO,V6 hR]at hs
    have hpm:=hpm hR
    cases hO:B[k-A.length].op with
    | true=>
     rw[V6 hO]at hs
     generalize ib E B[k-A.length].lo=E1 at *
     (have ke1:=Lib.hid (eK);have kc1:=c0;have kf1:=c1;refine BA ?_;(repeat' first|apply ah|refine ai fun hc=>?_);all_goals clear kf1 kc1 ke1)
     all_goals first
      | (exfalso;simp[hO]at hc;done)
      | (refine⟨k+1,hlt,ab,?_⟩
         rw[hs]
         exact ae)
    | false=>
     rw[V3 (by simp[hO])]at hs
     have c2:=zU (ib E B[k-A.length].lo) B[k-A.length].hi ab hpm
     generalize ib E B[k-A.length].lo=E1 at *
     generalize ib E1 B[k-A.length].hi=E2 at *
     (have ke1:=Lib.hid (eK);have kc1:=c0;have kf1:=c1;have kf2:=c2;refine BA ?_;(repeat' first|apply ah|refine ai fun hc=>?_);all_goals clear kf2 kf1 kc1 ke1)
     all_goals first
      | (exfalso;simp[hO]at hc;done)
      | (refine⟨k+1,hlt,ab,?_⟩
         rw[hs]
         exact ae)
 ·rw[Wd (by rw[V5];omega)]
  generalize j9 [emB] (A++B)=E at *
  (refine w0 ?_;repeat' first|apply ah|refine ai fun hc=>?_)
  exact dw (k9 rfl rfl)
end Go.Proofs.YtaclhhkblbacgaaGreat
