/- Texts joined: KkR AbsO. -/
import Derived.Test.YtaclhhkblbacgaaGreatJ14
set_option maxRecDepth 10000
set_option maxHeartbeats 8000000
namespace Go.Proofs.YtaclhhkblbacgaaGreat
open Go.RowKit Go.Proofs.Tryz
variable {ids:List Nat}
theorem sF (b:List UInt8)(hb:b.length≤1000000000):Fn prog 133 [dS b] (.tup2 (.own 132 4 ((dc b).1.map pcP)) (el (dc b).2)):=by
 have hgood:=(uX b 0).1
 generalize hQ:dc b=Q at *
 dsimp only [dc,cN]at hQ hgood
 have h1:=db b 0 0 4096
 have hn:=cY (most:=4096) ab b 0
 generalize af 0 4096 b 0=s at *
 obtain⟨n,l0,e0'⟩:=s
 simp only at h1 hn hQ hgood
 obtain⟨hn0,hn1⟩:=hn
 obtain⟨n,rfl⟩:=Int.eq_ofNat_of_zero_le hn0
 rw[Int.toNat_natCast]at hQ hgood
 generalize hR:fx kX n [] l0 e0'=R at *
 refine fi func133 ntmps133 ?_
 (refine BF h1 (lO b hb) ?_)
 refine bQ (bU 6 600 132 4 rfl rfl) ?_
 refine aj (X:=Nat×List Pc×List UInt8×Int) (fun x=>x.1≤n∧x.2.1.length≤x.1∧fx kX (n-x.1) x.2.1 x.2.2.1 x.2.2.2=R)
  (fun x=>ay [(4,.ptr 4 0 0),(5,iC .i64 (n:Nat)),(6,.row 600 0),(7,iC .i64 (x.1:Nat))] [(4,.box 277 [.ptr 10 0 0]),(10,ct x.2.2.1 x.2.2.2),(600,.row 132 4 (x.2.1.map pcP))]) (fun x=>n-x.1) (0,[],l0,e0') ⟨Wa _,V8 _,hR⟩ ?_
 clear h1 hR
 rintro⟨i,acc,l,e⟩ ⟨hi,hacc,hR⟩
 simp only at hi hacc hR ⊢
 have hE:=m1 l e
 by_cases hst:i<n∧e=0
 ·obtain⟨hlt,he⟩:=hst
  subst he
  obtain⟨m,hm⟩:∃m,n-i=m+1:=⟨n-i-1,ab⟩
  rw[hm,fx,V3 au]at hR
  have h2:=L6 l 0
  generalize kX l 0=q at *
  clear hQ hgood
  (refine ut hE (xi [(1000,10)] h2) ?_;repeat' first|apply ah|refine ai fun hc=>?_)
  refine⟨(i+1,acc++[q.1],q.2.1,q.2.2),⟨aA,bn,by simp only;rw[show n-(i+1)=m by omega];exact hR⟩,aA,?_⟩
  exact ae
 ·have hR2:R=(acc,l,e):=by
   rw[←hR]
   by_cases he:e=0
   ·rw[show n-i=0 by omega];rfl
   ·cases n-i with
    | zero=>rfl
    | succ m=>rw[fx,V6 he]
  subst hR2
  simp only at hQ hgood
  have h2:=xB l e
  have h3:=iv acc hgood (decide (aX acc)) au
  clear hgood hR
  by_cases hlt:i<n
  ·have he:e≠0:=fun q=>hst ⟨hlt,q⟩
   have hen:di l e≠0:=by unfold di;rw[V3 (fun q=>he q.1)];exact he
   rw[jU,V6 hen]at hQ
   subst hQ
   clear hst
   (refine BC h3 hE h2 ?_;repeat' first|apply ah|refine ai fun hc=>?_)
   exact d9 (dv rfl) (al rfl rfl)
  ·clear hst
   (refine BC h3 hE h2 ?_;repeat' first|apply ah|refine ai fun hc=>?_)
   ·rw[jU,V6 (by assumption)]at hQ
    subst hQ
    exact d9 (dv rfl) (al rfl rfl)
   ·rw[jU,V3 (by simp[*]),V3 (by simp_all)]at hQ
    subst hQ
    exact d9 (dv rfl) (al rfl rfl)
   ·rw[jU,V3 (by simp[*]),V6 (by simp_all)]at hQ
    subst hQ
    exact d9 (fT rfl rfl rfl) (al rfl rfl)
theorem qv (b:List UInt8)(hb:b.length≤1000000000):Fn prog 57 [.per (aK b)] (.tup2 (.own 132 4 ((dc b).1.map pcP)) (el (dc b).2)):=by
 have hgood:=(uX b 0).1
 have hs:b <:+ b:=WM b
 have hb':b.length≤1000000000000:=ab
 generalize hQ:dc b=Q at *
 dsimp only [dc,cN]at hQ hgood
 have h1:=bd b b 0 hs hb' 0 4096
 have hn:=cY (most:=4096) ab b 0
 replace hs:=(ao 0 4096 b 0).trans hs
 generalize af 0 4096 b 0=s at *
 obtain⟨n,l0,e0'⟩:=s
 simp only at h1 hn hs hQ hgood
 obtain⟨hn0,hn1⟩:=hn
 obtain⟨n,rfl⟩:=Int.eq_ofNat_of_zero_le hn0
 rw[Int.toNat_natCast]at hQ hgood
 generalize hR:fx kX n [] l0 e0'=R at *
 have e0:((b.length-b.length:Nat):Int)=0:=ab
 unfold dQ at h1
 rw[e0]at h1
 refine fi func57 ntmps57 ?_
 (refine dy h1 ?_)
 refine bQ (bU 6 600 132 4 rfl rfl) ?_
 refine aj (X:=Nat×List Pc×List UInt8×Int) (fun x=>x.1≤n∧x.2.1.length≤x.1∧x.2.2.1 <:+ b∧fx kX (n-x.1) x.2.1 x.2.2.1 x.2.2.2=R)
  (fun x=>ay [(4,.ptr 11 0 0),(5,iC .i64 (n:Nat)),(6,.row 600 0),(7,iC .i64 (x.1:Nat))] [(11,dQ b x.2.2.1 x.2.2.2),(600,.row 132 4 (x.2.1.map pcP))]) (fun x=>n-x.1) (0,[],l0,e0') ⟨Wa _,V8 _,hs,hR⟩ ?_
 clear h1 hR hs
 rintro⟨i,acc,l,e⟩ ⟨hi,hacc,hs,hR⟩
 simp only at hi hacc hs hR ⊢
 by_cases hst:i<n∧e=0
 ·obtain⟨hlt,he⟩:=hst
  subst he
  obtain⟨m,hm⟩:∃m,n-i=m+1:=⟨n-i-1,ab⟩
  rw[hm,fx,V3 au]at hR
  clear hQ hgood
  dsimp only [kX,j5]at hR
  have h2:=gr b l 0 hs hb' 17
  replace hs:=(bN 17 l 0).trans hs
  generalize aW 17 l 0=t at *
  have h3:=bd b t.2.1 t.2.2 hs hb' 0 1
  replace hs:=(ao 0 1 t.2.1 t.2.2).trans hs
  generalize af 0 1 t.2.1 t.2.2=o at *
  by_cases ho:o.1=1
  ·rw[V6 (by simp[ho])]at hR
   rw[ho]at h3
   dsimp only at hR
   have h5:=(uO b o.2.1 o.2.2 hs hb').frz3
   replace hs:=(xF B2 16 o.2.1 o.2.2).trans hs
   generalize cN gA 16 o.2.1 o.2.2=s at *
   (refine dF h2 h3 h5 ?_;repeat' first|apply ah|refine ai fun hc=>?_)
   refine⟨(i+1,acc++[⟨⟨ba t.1,ByteArray.mk #[],true⟩,s.1⟩],s.2.1,s.2.2),⟨aA,bn,hs,by simp only;rw[show n-(i+1)=m by omega];exact hR⟩,aA,?_⟩
   exact ae
  ·rw[V3 (by simp[ho])]at hR
   dsimp only at hR
   have h4:=gr b o.2.1 o.2.2 hs hb' 17
   replace hs:=(bN 17 o.2.1 o.2.2).trans hs
   generalize aW 17 o.2.1 o.2.2=h at *
   have h5:=(uO b h.2.1 h.2.2 hs hb').frz3
   replace hs:=(xF B2 16 h.2.1 h.2.2).trans hs
   generalize cN gA 16 h.2.1 h.2.2=s at *
   (refine mZ h2 h3 h4 h5 ?_;repeat' first|apply ah|refine ai fun hc=>?_)
   refine⟨(i+1,acc++[⟨⟨ba t.1,ba h.1,false⟩,s.1⟩],s.2.1,s.2.2),⟨aA,bn,hs,by simp only;rw[show n-(i+1)=m by omega];exact hR⟩,aA,?_⟩
   (refine kd ?_ ?_;(focus ((repeat (first|exact f9.nil|(refine f9.cons ?_ ?_;rotate_left)));(all_goals try (first|rfl|(refine Dx ?_;first|omega|(simp;done)|(simp;omega))|(refine pb ?_;first|(simp;done)|(simp[*];done))))));(focus ((repeat (first|exact ga.nil|(refine ga.cons ?_ ?_;rotate_left)));(all_goals try (first|rfl|(refine mD ?_;(rw[List.map_append]<;>rfl);done)|(refine ke ?_;(rw[List.map_append]<;>rfl);done))))))
   show Blk.row _ _ (acc.map pcP++[[_,_,ak (.bool (o.1==1)),_]])=_
   rw[show(o.1==1)=false by simpa using ho,List.map_append]
   rfl
 ·have hR2:R=(acc,l,e):=by
   rw[←hR]
   by_cases he:e=0
   ·rw[show n-i=0 by omega];rfl
   ·cases n-i with
    | zero=>rfl
    | succ m=>rw[fx,V6 he]
  subst hR2
  simp only at hQ hgood
  have hD:=kK b l e hs
  have h3:=ld acc hgood (decide (aX acc)) au
  clear hgood hR
  by_cases hlt:i<n
  ·have he:e≠0:=fun q=>hst ⟨hlt,q⟩
   have hen:di l e≠0:=by unfold di;rw[V3 (fun q=>he q.1)];exact he
   rw[jU,V6 hen]at hQ
   subst hQ
   clear hst
   (refine cW h3 hD ?_;repeat' first|apply ah|refine ai fun hc=>?_)
   exact d9 (dv rfl) (al rfl rfl)
  ·clear hst
   (refine cW h3 hD ?_;repeat' first|apply ah|refine ai fun hc=>?_)
   ·rw[jU,V6 (by assumption)]at hQ
    subst hQ
    exact d9 (dv rfl) (al rfl rfl)
   ·rw[jU,V3 (by simp[*]),V3 (by simp_all)]at hQ
    subst hQ
    exact d9 (dv rfl) (al rfl rfl)
   ·rw[jU,V3 (by simp[*]),V6 (by simp_all)]at hQ
    subst hQ
    exact d9 (fT rfl rfl rfl) (al rfl rfl)
def L7 (O:OV)(A:PV):Prop:=∀{F N N':BP} {w:World} {v:Value},O.p F N w v→(∀b,F b→b<w.heap.size∧¬N' b)→(∀b,N' b→N b)→A.p N' w v
inductive uY:List OV→List PV→Prop
 | nil:uY [] []
 | cons {O:OV} {A:PV} {l:List OV} {l':List PV} (h:L7 O A) (k:uY l l'):uY (O::l) (A::l')
theorem uY.get {l:List OV}{l':List PV}(h:uY l l'):l'.length=l.length∧∀(j:Nat)(O:OV)(A:PV),l[j]?=some O→l'[j]?=some A→L7 O A:=by
 induction h with
 | nil=>exact⟨rfl,fun j O A h=>by simp at h⟩
 | cons h k ih=>
  refine⟨by simp[ih.1],fun j O' A' h1 h2=>?_⟩
  cases j with
  | zero=>simp at h1 h2;subst h1;subst h2;exact h
  | succ j=>exact ih.2 j O' A' (by simpa using h1) (by simpa using h2)
inductive UC where
 | p (A:PV) (h:rt A)
 | o (id:Nat) (O:OV)
def UC.cell (vr:Nat→Nat):UC→Cnt
 | .p A _=>.per A
 | .o id _=>.row id (vr id)
def IC (i:Nat):List Nat→Bool
 | []=>false
 | j::l=>bif Nat.beq i j then true else IC i l
theorem qw {i:Nat}{l:List Nat}:IC i l=true↔i∈l:=by
 induction l with
 | nil=>simp[IC]
 | cons j l ih=>
  unfold IC
  cases hb:Nat.beq i j with
  | true=>simp[bq.1 hb]
  | false=>
   have:i≠j:=fun e=>by rw[bq.2 e]at hb;cases hb
   simp[ih,this]
section
variable {P:Program} {n:Nat} {S:St} {C:Ctx} {g g':Gh} {w w':World} {I:Nat→Prop}
inductive pN (S:St):List UC→Prop
 | nil:pN S []
 | p {A:PV} {h:rt A} {l:List UC} (k:pN S l):pN S (.p A h::l)
 | o {i:Nat} {O:OV} {l:List UC} (h:S.blk i=.obj O) (k:pN S l):pN S (.o i O::l)
theorem pN.get {us:List UC}(h:pN S us){j i:Nat}{O:OV}(hj:us[j]?=some (.o i O)):S.blk i=.obj O:=by
 induction h generalizing j with
 | nil=>simp at hj
 | p k ih=>cases j with
  | zero=>simp at hj
  | succ j=>exact ih (by simpa using hj)
 | o h k ih=>cases j with
  | zero=>simp at hj;obtain⟨rfl,rfl⟩:=hj;exact h
  | succ j=>exact ih (by simpa using hj)
end
class L8 (A:PV):Prop where
 h:∀{N N':BP} {w:World} {v:Value},A.p N w v→A.p N' w v
instance {v:Value}:L8 (ak v):=⟨fun h=>h⟩
class Ey (l:List PV):Prop where
 h:∀A∈l,L8 A
instance:Ey []:=⟨fun _ h=>by simp at h⟩
instance {A:PV} {l:List PV} [h:L8 A] [k:Ey l]:Ey (A::l):=⟨fun B hB=>by
 rcases Wp.1 hB with e|e
 ·subst e;exact h
 ·exact k.h B e⟩
instance {l:List PV} [k:Ey l]:L8 (cB l):=⟨fun⟨vs,e,h1,h2⟩=>⟨vs,e,h1,fun j A hj=>let⟨y,q1,q2,q3⟩:=h2 j A hj;⟨y,q1,q2,(k.h A (WK hj)).h q3⟩⟩⟩
class Ez (r:Ret):Prop where
 h:∀{N N':BP} {w w':World} {v:Value},r.rep N w w' v→r.rep N' w w' v
instance {A:PV} [h:L8 A]:Ez (.per A):=⟨fun q=>h.h q⟩
instance {c d:Ret} [h:Ez c] [k:Ez d]:Ez (.tup2 c d):=⟨fun⟨x,y,e,h1,h2⟩=>⟨x,y,e,h.h h1,k.h h2⟩⟩
class T9 (es:List (List PV)):Prop where
 h:∀ps∈es,Ey ps
instance {α:Type} {f:α→List PV} {l:List α} [h:∀x,Ey (f x)]:T9 (l.map f):=⟨fun ps hp=>by
 obtain⟨x,_,rfl⟩:=List.mem_map.1 hp
 exact h x⟩
instance {e k:Nat} {es:List (List PV)} [h:T9 es]:Ez (.own e k es):=⟨fun q=>by
 rcases q with q|⟨q,cap,cs,h1,h2,h3,h4,h5,h6,h7⟩
 ·exact .inl q
 ·exact .inr ⟨q,cap,cs,h1,h2,h3,h4,h5,h6,fun i ps hi=>⟨(h7 i ps hi).1,fun j A hj=>let⟨y,q1,q2,q3⟩:=(h7 i ps hi).2 j A hj;⟨y,q1,q2,((h.h ps (WK hi)).h A (WK hj)).h q3⟩⟩⟩⟩
section
variable {P:Program} {n:Nat} {ops:Array Oper} {o:Oper} {F:List Nat} {S T:St} {C:Ctx} {g:Gh} {a:Act} {w w':World} {t:Nat}
def xM (C:Ctx)(g:Gh)(w:World)(ids:List Nat):BP:=fun b=>b<w.heap.size∧g.N C b∧∀i∈ids,g.ow b≠some i
def rN (F:List Nat)(S:St)(ids:List Nat)(x:Operand)(c:Cnt):Prop:=∀(n:Nat)(C:Ctx)(T:St)(g:Gh)(a:Act)(w:World),dV F T S→RG C n T g a w →
 crep ⟨w,xM C g w ids,fun _=>False,g0⟩ (fun _=>0) g0 w (a.eval x) c
theorem VO {b:Nat}(h:(g0.N ⟨w,xM C g w ids,fun _=>False,g0⟩) b):xM C g w ids b:=by
 rcases h with h|h
 ·exact h
 ·exact absurd rfl h
inductive zm (S:St)(ids:List Nat):Cnt→PV→Prop
 | per {A:PV}:zm S ids (.per A) A
 | obj {id vr:Nat} {O:OV} {A:PV} (hv:S.ver id=vr) (hb:S.blk id=.obj O) (hl:L7 O A) (hi:IC id ids=true):zm S ids (.row id vr) A
 | row {id vr e k:Nat} {es:List (List PV)} (hv:S.ver id=vr) (hb:S.blk id=.row e k es) (hi:IC id ids=true):zm S ids (.row id vr) (cA k es)
inductive Cb (S:St)(ids:List Nat):List Cnt→List PV→Prop
 | nil:Cb S ids [] []
 | cons {c:Cnt} {A:PV} {l:List Cnt} {l':List PV} (h:zm S ids c A) (k:Cb S ids l l'):Cb S ids (c::l) (A::l')
theorem Cb.get {l:List Cnt}{l':List PV}(h:Cb S ids l l'):l'.length=l.length∧∀(j:Nat)(c:Cnt)(A:PV),l[j]?=some c→l'[j]?=some A→zm S ids c A:=by
 induction h with
 | nil=>exact⟨rfl,fun j O A h=>by simp at h⟩
 | cons h k ih=>
  refine⟨by simp[ih.1],fun j O' A' h1 h2=>?_⟩
  cases j with
  | zero=>simp at h1 h2;subst h1;subst h2;exact h
  | succ j=>exact ih.2 j O' A' (by simpa using h1) (by simpa using h2)
theorem zm.rep {c:Cnt}{A:PV}(h:zm S ids c A)(hA:dV F T S)(hF:∀i∈ids,2*i+1∈F)(hR:RG C n T g a w){v:Value}(hc:crep C T.ver g w v c):A.p (xM C g w ids) w v:=by
 cases h with
 | per=>exact A.mono (V8 _) (fun _ _ _=>rfl) (fun b _ hb=>hb.2.1) hc
 | @obj id vr O A hv hb hl hi=>
  have hF':=hF id (qw.1 hi)
  have h1:=hR.blks id
  rw[(hA.2 id hF').1,hb]at h1
  rw[hc.2 (by rw[(hA.2 id hF').2,hv])]
  exact hl h1 (fun b hb=>⟨(hR.dom b id hb).1,fun q=>q.2.2 id (qw.1 hi) hb⟩) (fun b hb=>hb.2.1)
 | @row id vr e k es hv hb hi=>
  have hF':=hF id (qw.1 hi)
  have h1:=hR.blks id
  rw[(hA.2 id hF').1,hb]at h1
  rw[hc.2 (by rw[(hA.2 id hF').2,hv])]
  show eH _ _ k es w (g.rh id)
  rcases h1 with⟨q1,rfl⟩|⟨cap,cs,q1,q2,q3,q4,q5,q6,q7⟩
  ·exact⟨none,0,0,0,by rw[q1];rfl,au,bz,fun _=>rfl,au,fun i cs hi=>by simp at hi⟩
  ·refine⟨_,cap,g.ph id,0,q1,q4,q5,au,fun _=>⟨rfl,(hR.dom _ _ q3).1,fun hn=>hn.2.2 id (qw.1 hi) q3⟩,fun i ps hi=>?_⟩
   obtain⟨r1,r2⟩:=q7 i ps hi
   refine⟨r1,fun j A hj=>?_⟩
   obtain⟨y,s1,s2,s3⟩:=r2 j A hj
   exact⟨y,by rw[WF,eo q2];exact s1,s2,A.mono (V8 _) (fun _ _ _=>rfl) (fun b _ hb=>hb.2.1) s3⟩
inductive mQ (F:List Nat)(S:St)(ids:List Nat):List Operand→List Cnt→Prop
 | nil:mQ F S ids [] []
 | cons {x:Operand} {c:Cnt} {xs:List Operand} {cs:List Cnt} (h:rN F S ids x c) (t:mQ F S ids xs cs):mQ F S ids (x::xs) (c::cs)
theorem mQ.rep {xs:List Operand}{cs:List Cnt}(h:mQ F S ids xs cs)(hA:dV F T S)(hR:RG C n T g a w):qa (xM C g w ids) w (xs.map a.eval) cs:=by
 induction h with
 | nil=>exact⟨rfl,fun i v c hi=>by simp at hi⟩
 | cons h t ih=>
  refine⟨by simp[ih.1],fun i v c hi hc=>?_⟩
  cases i with
  | zero=>
   simp at hi hc;subst hi;subst hc
   exact h n C T g a w hA hR
  | succ i=>exact ih.2 i v c (by simpa using hi) (by simpa using hc)
theorem L9 {f:FuncId}{xs:List Operand}{As:List Cnt}{r:Ret}(hp:Pl n o t)(ho:j4 o f xs)(hf:Fn P f As r)(hpl:r.plain=true)(ha:Ez r)(hg:mQ F S ids xs As):aw n P ops o F (ud t 0 r) [] S:=by
 refine⟨?_⟩
 intro C T hA a w ⟨g,hR⟩
 unfold iM
 rw[V6 (hp.wanted a)]
 refine yR hf.ent ho (hf.run _ w (xs.map a.eval) (fun b h=>h.1) (hg.rep hA hR)) ?_
 rintro v w' ⟨hx,hr⟩
 exact⟨g,hR.app0 hx hp.dOk (wW hR hpl (ha.h hr))⟩
end
end Go.Proofs.YtaclhhkblbacgaaGreat
