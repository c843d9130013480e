/- Texts joined: IcR Law19P IcLR FcR Law10P. -/
import Derived.Test.YtaclhhkblbacgaaGreatJ10
set_option maxRecDepth 10000
set_option maxHeartbeats 8000000
namespace Go.Proofs.YtaclhhkblbacgaaGreat
open Go.RowKit Go.Proofs.Tryz
variable {most:Int} {α:Type} {st:List UInt8→Int→α×List UInt8×Int} {B:α→List UInt8}
def eU (k:ByteArray)(l:List UInt8)(e:Int):It×List UInt8×Int:=
 let a:=af 1 16 l e
 let b:=af 1 1099511627776 a.2.1 a.2.2
 let c:=af 1 1099511627776 b.2.1 b.2.2
 let d:=af 0 255 c.2.1 c.2.2
 let f:=af 0 1 d.2.1 d.2.2
 let g:=aW 64 f.2.1 f.2.2
 (⟨k,a.1,b.1,c.1,d.1,f.1==1,⟨g.1.toArray⟩⟩,g.2.1,g.2.2)
theorem PU (k:ByteArray)(l:List UInt8)(e:Int):dh prog 210 [.aggK lN .aggN,sC k] [(1000,ct l e)] (uz (eU k l e).1) [(1000,ct (eU k l e).2.1 (eU k l e).2.2)]:=by
 dsimp only [eU]
 have h1:=db l e 1 16
 generalize af 1 16 l e=a at *
 have h2:=db a.2.1 a.2.2 1 1099511627776
 generalize af 1 1099511627776 a.2.1 a.2.2=b at *
 have h3:=db b.2.1 b.2.2 1 1099511627776
 generalize af 1 1099511627776 b.2.1 b.2.2=c at *
 have h4:=db c.2.1 c.2.2 0 255
 generalize af 0 255 c.2.1 c.2.2=d at *
 have h5:=rI d.2.1 d.2.2
 generalize af 0 1 d.2.1 d.2.2=f at *
 have h6:=mM f.2.1 f.2.2 64
 generalize aW 64 f.2.1 f.2.2=g at *
 refine dH func210 ntmps210 ?_
 (refine Rz h1 h2 h3 h4 h5 h6 ?_)
 refine gM ?_
 exact D0
theorem uJ (k:ByteArray)(l:List UInt8)(e:Int):(eU k l e).2.1 <:+ l:=by
 dsimp only [eU]
 exact(bN _ _ _).trans ((ao _ _ _ _).trans ((ao _ _ _ _).trans ((ao _ _ _ _).trans ((ao _ _ _ _).trans (ao _ _ _ _)))))
theorem LM (k:ByteArray)(b l:List UInt8)(e:Int)(hs:l <:+ b)(hb:b.length≤1000000000000):dh prog 187 [lN,sC k] [(1000,dQ b l e)] (uz (eU k l e).1) [(1000,dQ b (eU k l e).2.1 (eU k l e).2.2)]:=by
 dsimp only [eU]
 have h1:=bd b l e hs hb 1 16
 replace hs:=(ao 1 16 l e).trans hs
 generalize af 1 16 l e=a at *
 have h2:=bd b a.2.1 a.2.2 hs hb 1 1099511627776
 replace hs:=(ao 1 1099511627776 a.2.1 a.2.2).trans hs
 generalize af 1 1099511627776 a.2.1 a.2.2=b2 at *
 have h3:=bd b b2.2.1 b2.2.2 hs hb 1 1099511627776
 replace hs:=(ao 1 1099511627776 b2.2.1 b2.2.2).trans hs
 generalize af 1 1099511627776 b2.2.1 b2.2.2=c at *
 have h4:=bd b c.2.1 c.2.2 hs hb 0 255
 replace hs:=(ao 0 255 c.2.1 c.2.2).trans hs
 generalize af 0 255 c.2.1 c.2.2=d at *
 have h5:=bd b d.2.1 d.2.2 hs hb 0 1
 replace hs:=(ao 0 1 d.2.1 d.2.2).trans hs
 generalize af 0 1 d.2.1 d.2.2=f at *
 have h6:=gr b f.2.1 f.2.2 hs hb 64
 generalize aW 64 f.2.1 f.2.2=g at *
 refine dH func187 ntmps187 ?_
 (refine Rz h1 h2 h3 h4 h5 h6 ?_)
 refine gM ?_
 exact D0
theorem LN {x:It}(h:eC x=true)(r:List UInt8):eU x.key (iU x++r) 0=(x,r,0):=by
 obtain⟨h1,h2,_,_⟩:=fF h
 simp only[eC,pd,gm,Wi,Wn]at h
 obtain⟨⟨_,h3⟩,h4⟩:=h
 simp only[fE,Wp,Xh,or_false,forall_eq_or_imp,forall_eq]at h1
 obtain⟨a1,a2,a3,a4,a5⟩:=h1
 have e:iU x++r=aJ x.rep++(aJ x.cnt++(aJ x.rank++(aJ x.prio++(aJ (if x.dead then 1 else 0)++(bu x.body++r))))):=by
  simp[iU,fE]
 rw[e]
 dsimp only [eU]
 rw[cc a1 ab ab]
 dsimp only
 rw[cc a2 ab ab]
 dsimp only
 rw[cc a3 ab ab]
 dsimp only
 rw[cc a4 ab ab]
 dsimp only
 rw[cc a5 (by split<;>omega) (by split<;>omega)]
 dsimp only
 rw[lM ab ab,Ek]
 obtain⟨k,a,b,c,d,f,g⟩:=x
 cases f<;>rfl
theorem Il {k:ByteArray}{l:List UInt8}{e:Int}(h:(eU k l e).2.2=0):e=0∧l=iU (eU k l e).1++(eU k l e).2.1∧(eU k l e).1.key=k:=by
 dsimp only [eU]at h ⊢
 obtain⟨g1,_,g2⟩:=ky h
 obtain⟨f1,f2,f3,f4,f5⟩:=bt g1
 obtain⟨d1,_,_,_,d5⟩:=bt f1
 obtain⟨c1,_,_,_,c5⟩:=bt d1
 obtain⟨b1,_,_,_,b5⟩:=bt c1
 obtain⟨a1,_,_,_,a5⟩:=bt b1
 refine⟨a1,?_,rfl⟩
 generalize aW 64 _ _=g at *
 generalize af 0 1 _ _=f at *
 generalize af 0 255 _ _=d at *
 generalize af 1 1099511627776 _ _=c at *
 generalize af 1 1099511627776 _ _=b at *
 generalize af 1 16 _ _=a at *
 have hf:(if(f.1==1)=true then(1:Int)else 0)=f.1:=by
  by_cases h:f.1=1
  ·simp[h]
  ·simp[h];omega
 simp only[iU,fE,List.flatMap_cons,WC,Wg,hf,V9]
 rw[←g2,←f5,←d5,←c5,←b5]
 exact a5
theorem cY (h:0≤most)(l:List UInt8)(e:Int):0≤(af 0 most l e).1∧(af 0 most l e).1≤most:=by
 by_cases he:e=0
 ·subst he
  rw[uI]
  split
  ·exact⟨au,h⟩
  ·split
   ·exact⟨au,h⟩
   ·simp only;omega
 ·rw[uH he];exact⟨au,h⟩
theorem pH (l:List UInt8)(e:Int):(aW 16 l e).1.length≤16:=by
 unfold aW
 have:=cY (most:=16) ab l e
 split
 ·simp
 ·split
  ·simp
  ·rw[WA];omega
def jT (was:ByteArray)(l:List UInt8)(e:Int):Int×ByteArray×List UInt8×Int:=
 let s:=af 0 was.size l e
 let t:=aW 16 s.2.1 s.2.2
 (s.1,was.extract 0 s.1.toNat++⟨t.1.toArray⟩,t.2.1,t.2.2)
def gU:Nat→ByteArray→Bool→List It→List UInt8→Int→List It×Bool×List UInt8×Int
 | 0,_,f,acc,l,e=>(acc,f,l,e)
 | n+1,was,f,acc,l,e=>
  if e≠0 then(acc,f,l,e)else
   let q:=jT was l e
   let x:=eU q.2.1 q.2.2.1 q.2.2.2
   gU n q.2.1 (f&&eC x.1&&((cR was q.2.1:Int)==q.1)) (acc++[x.1]) x.2.1 x.2.2
def sP (l:List UInt8)(e:Int):List It×Bool×List UInt8×Int:=
 let s:=af 0 4096 l e
 gU s.1.toNat s0 true [] s.2.1 s.2.2
def sQ (r:List It×Bool×List UInt8×Int):List It×Int:=
 if di r.2.2.1 r.2.2.2≠0 then([],di r.2.2.1 r.2.2.2)else if r.2.1=false then([],11)else(r.1,0)
def dd (b:List UInt8):List It×Int:=sQ (sP b 0)
theorem pI (was:ByteArray)(l:List UInt8)(e:Int):(jT was l e).2.1.size≤was.size+16∧0≤(jT was l e).1∧(jT was l e).1≤was.size:=by
 dsimp only [jT]
 have h1:=cY (most:=(was.size:Int)) ab l e
 have h2:=pH (af 0 was.size l e).2.1 (af 0 was.size l e).2.2
 refine⟨?_,h1⟩
 rw[ByteArray.size_append,ByteArray.size_extract]
 show _+(aW 16 _ _).1.toArray.size≤_
 rw[WR]
 omega
theorem sR (b:List UInt8)(hb:b.length≤1000000000):Fn prog 134 [dS b] (.tup2 (.own 82 7 ((dd b).1.map itP)) (el (dd b).2)):=by
 generalize hQ:dd b=Q at *
 dsimp only [dd,sP]at hQ
 have h1:=db b 0 0 4096
 have hn:=cY (most:=4096) ab b 0
 generalize af 0 4096 b 0=s at *
 obtain⟨n,l0,e0⟩:=s
 simp only at h1 hn hQ
 obtain⟨hn0,hn1⟩:=hn
 obtain⟨n,rfl⟩:=Int.eq_ofNat_of_zero_le hn0
 rw[Int.toNat_natCast]at hQ
 generalize hR:gU n s0 true [] l0 e0=R at *
 refine fi func134 ntmps134 ?_
 (refine BF h1 (lO b hb) ?_)
 refine bQ (bU 6 600 82 7 rfl rfl) ?_
 refine aj (X:=Nat×ByteArray×Bool×List It×List UInt8×Int) (fun x=>x.1≤n∧x.2.1.size≤16*x.1∧x.2.2.2.1.length≤x.1∧gU (n-x.1) x.2.1 x.2.2.1 x.2.2.2.1 x.2.2.2.2.1 x.2.2.2.2.2=R)
  (fun x=>ay [(4,.ptr 4 0 0),(5,iC .i64 (n:Nat)),(6,.row 600 0),(7,sC x.2.1),(8,bC x.2.2.1),(9,iC .i64 (x.1:Nat))] [(4,.box 279 [.ptr 15 0 0]),(15,ct x.2.2.2.2.1 x.2.2.2.2.2),(600,.row 82 7 (x.2.2.2.1.map itP))]) (fun x=>n-x.1) (0,s0,true,[],l0,e0) ⟨Wa _,(by decide:s0.size≤0),V8 _,hR⟩ ?_
 rintro⟨i,was,f,acc,l,e⟩ ⟨hi,hws,hacc,hR⟩
 simp only at hi hws hacc hR ⊢
 have hE:=m1 l e
 have hD:=xB l e
 by_cases hlt:i<n
 ·by_cases he:e=0
  ·subst he
   obtain⟨m,hm⟩:∃m,n-i=m+1:=⟨n-i-1,ab⟩
   rw[hm,gU,V3 au]at hR
   dsimp only at hR
   have hks:=pI was l 0
   have h2:=db l 0 0 (was.size:Int)
   have h3:=mM (af 0 was.size l 0).2.1 (af 0 was.size l 0).2.2 16
   have h23:jT was l 0=((af 0 was.size l 0).1,was.extract 0 (af 0 was.size l 0).1.toNat++⟨(aW 16 (af 0 was.size l 0).2.1 (af 0 was.size l 0).2.2).1.toArray⟩,(aW 16 (af 0 was.size l 0).2.1 (af 0 was.size l 0).2.2).2.1,(aW 16 (af 0 was.size l 0).2.1 (af 0 was.size l 0).2.2).2.2):=rfl
   have hx:=pH (af 0 was.size l 0).2.1 (af 0 was.size l 0).2.2
   rw[h23]at hR hks
   clear h23
   generalize af 0 was.size l 0=s at *
   generalize aW 16 s.2.1 s.2.2=t at *
   obtain⟨sm,l1,e1⟩:=s
   obtain⟨tx,l2,e2⟩:=t
   simp only at hR hks h2 h3 hx
   obtain⟨hk1,hk2,hk3⟩:=hks
   obtain⟨sm,rfl⟩:=Int.eq_ofNat_of_zero_le hk2
   rw[Int.toNat_natCast]at hR hk1
   have htx:(⟨tx.toArray⟩:ByteArray).size≤16:=by show tx.toArray.size≤16;rw[WR];exact hx
   have hes:(was.extract 0 sm).size≤was.size:=bn
   have h4:=PU (was.extract 0 sm++⟨tx.toArray⟩) l2 e2
   have h6:=uy was (was.extract 0 sm++⟨tx.toArray⟩) ab
   have hal:=g8 was (was.extract 0 sm++⟨tx.toArray⟩)
   have hcs:(was.extract 0 (cR was (was.extract 0 sm++⟨tx.toArray⟩))).size=cR was (was.extract 0 sm++⟨tx.toArray⟩):=bn
   generalize was.extract 0 (cR was (was.extract 0 sm++⟨tx.toArray⟩))=cm at *
   generalize eU (was.extract 0 sm++⟨tx.toArray⟩) l2 e2=x at *
   obtain⟨x,l3,e3⟩:=x
   simp only at hR h4
   have h5:=dU x
   (have kr1:=hE;have kr2:=h2;have kr3:=h3;have km1:=(show kW [(1000,15)] _ _ _ _ _ _ from h4);have kc1:=h5;have kc2:=h6;refine w0 ?_;(repeat' first|apply ah|refine ai fun hc=>?_);all_goals clear kc2 kc1 km1 kr3 kr2 kr1)
   all_goals
    refine⟨(i+1,was.extract 0 sm++⟨tx.toArray⟩,f&&eC x&&((cR was (was.extract 0 sm++⟨tx.toArray⟩):Int)==sm),acc++[x],l3,e3),⟨aA,aA,bn,?_⟩,aA,?_⟩
   all_goals first|(simp only;rw[show n-(i+1)=m by omega];exact hR)|skip
   all_goals exact ae
  ·have hR2:R=(acc,f,l,e):=by
    rw[←hR]
    cases n-i with
    | zero=>rfl
    | succ m=>rw[gU,V6 he]
   subst hR2
   (refine ft hE hD ?_;repeat' first|apply ah|refine ai fun hc=>?_)
   ·rw[sQ,V6 (by assumption)]at hQ
    subst hQ
    exact d9 (dv rfl) (al rfl rfl)
   ·rw[sQ,V3 (by simp[*]),V6 (by assumption)]at hQ
    subst hQ
    exact d9 (dv rfl) (al rfl rfl)
   ·rw[sQ,V3 (by simp[*]),V3 (by simp[*])]at hQ
    subst hQ
    exact d9 (fT rfl rfl rfl) (al rfl rfl)
 ·have hR2:R=(acc,f,l,e):=by
   rw[←hR,show n-i=0 by omega];rfl
  subst hR2
  (refine ft hE hD ?_;repeat' first|apply ah|refine ai fun hc=>?_)
  ·rw[sQ,V6 (by assumption)]at hQ
   subst hQ
   exact d9 (dv rfl) (al rfl rfl)
  ·rw[sQ,V3 (by simp[*]),V6 (by assumption)]at hQ
   subst hQ
   exact d9 (dv rfl) (al rfl rfl)
  ·rw[sQ,V3 (by simp[*]),V3 (by simp[*])]at hQ
   subst hQ
   exact d9 (fT rfl rfl rfl) (al rfl rfl)
theorem Im (n:Nat):∀(was:ByteArray)(f:Bool)(acc:List It)(l:List UInt8)(e:Int),(gU n was f acc l e).2.2.1 <:+ l:=by
 induction n with
 | zero=>intro was f acc l e;exact WM l
 | succ n ih=>
  intro was f acc l e
  unfold gU
  split
  ·exact WM l
  ·exact(ih _ _ _ _ _).trans ((uJ _ _ _).trans ((bN _ _ _).trans (ao _ _ _ _)))
theorem Em (b l:List UInt8)(e:Int)(hs:l <:+ b)(hb:b.length≤1000000000000):dh prog 111 [lN] [(1000,dQ b l e)] (.tup2 (.row 3000 0) (bC (sP l e).2.1)) [(1000,dQ b (sP l e).2.2.1 (sP l e).2.2.2),(3000,.row 82 7 ((sP l e).1.map itP))]:=by
 dsimp only [sP]
 have h1:=bd b l e hs hb 0 4096
 have hn:=cY (most:=4096) ab l e
 replace hs:=(ao 0 4096 l e).trans hs
 generalize af 0 4096 l e=s at *
 obtain⟨n,l0,e0⟩:=s
 simp only at h1 hn hs ⊢
 obtain⟨hn0,hn1⟩:=hn
 obtain⟨n,rfl⟩:=Int.eq_ofNat_of_zero_le hn0
 rw[Int.toNat_natCast]
 generalize hR:gU n s0 true [] l0 e0=R at *
 refine dH func111 ntmps111 ?_
 (refine dy h1 ?_)
 refine bQ (bU 5 600 82 7 rfl rfl) ?_
 refine aj (X:=Nat×ByteArray×Bool×List It×List UInt8×Int) (fun x=>x.1≤n∧x.2.1.size≤16*x.1∧x.2.2.2.1.length≤x.1∧x.2.2.2.2.1 <:+ b∧gU (n-x.1) x.2.1 x.2.2.1 x.2.2.2.1 x.2.2.2.2.1 x.2.2.2.2.2=R)
  (fun x=>ay [(0,lN),(4,iC .i64 (n:Nat)),(5,.row 600 0),(6,sC x.2.1),(7,bC x.2.2.1),(8,iC .i64 (x.1:Nat))] [(1000,dQ b x.2.2.2.2.1 x.2.2.2.2.2),(600,.row 82 7 (x.2.2.2.1.map itP))]) (fun x=>n-x.1) (0,s0,true,[],l0,e0) ⟨Wa _,(by decide:s0.size≤0),V8 _,hs,hR⟩ ?_
 rintro⟨i,was,f,acc,l,e⟩ ⟨hi,hws,hacc,hs,hR⟩
 simp only at hi hws hacc hR hs ⊢
 by_cases hlt:i<n
 ·by_cases he:e=0
  ·subst he
   obtain⟨m,hm⟩:∃m,n-i=m+1:=⟨n-i-1,ab⟩
   rw[hm,gU,V3 au]at hR
   dsimp only at hR
   have hks:=pI was l 0
   have h2:=bd b l 0 hs hb 0 (was.size:Int)
   replace hs:=(ao 0 was.size l 0).trans hs
   have h3:=gr b (af 0 was.size l 0).2.1 (af 0 was.size l 0).2.2 hs hb 16
   replace hs:=(bN 16 (af 0 was.size l 0).2.1 (af 0 was.size l 0).2.2).trans hs
   have h23:jT was l 0=((af 0 was.size l 0).1,was.extract 0 (af 0 was.size l 0).1.toNat++⟨(aW 16 (af 0 was.size l 0).2.1 (af 0 was.size l 0).2.2).1.toArray⟩,(aW 16 (af 0 was.size l 0).2.1 (af 0 was.size l 0).2.2).2.1,(aW 16 (af 0 was.size l 0).2.1 (af 0 was.size l 0).2.2).2.2):=rfl
   have hx:=pH (af 0 was.size l 0).2.1 (af 0 was.size l 0).2.2
   rw[h23]at hR hks
   clear h23
   generalize af 0 was.size l 0=s at *
   generalize aW 16 s.2.1 s.2.2=t at *
   obtain⟨sm,l1,e1⟩:=s
   obtain⟨tx,l2,e2⟩:=t
   simp only at hR hks h2 h3 hx hs
   obtain⟨hk1,hk2,hk3⟩:=hks
   obtain⟨sm,rfl⟩:=Int.eq_ofNat_of_zero_le hk2
   rw[Int.toNat_natCast]at hR hk1
   have htx:(⟨tx.toArray⟩:ByteArray).size≤16:=by show tx.toArray.size≤16;rw[WR];exact hx
   have hes:(was.extract 0 sm).size≤was.size:=bn
   have h4:=LM (was.extract 0 sm++⟨tx.toArray⟩) b l2 e2 hs hb
   replace hs:=(uJ (was.extract 0 sm++⟨tx.toArray⟩) l2 e2).trans hs
   have h6:=xw was (was.extract 0 sm++⟨tx.toArray⟩) ab
   have hal:=g8 was (was.extract 0 sm++⟨tx.toArray⟩)
   generalize eU (was.extract 0 sm++⟨tx.toArray⟩) l2 e2=x at *
   obtain⟨x,l3,e3⟩:=x
   simp only at hR h4 hs
   have h5:=fc x
   (refine Lv h5 h6 h2 h3 h4 ?_;repeat' first|apply ah|refine ai fun hc=>?_)
   all_goals
    refine⟨(i+1,was.extract 0 sm++⟨tx.toArray⟩,f&&eC x&&((cR was (was.extract 0 sm++⟨tx.toArray⟩):Int)==sm),acc++[x],l3,e3),⟨aA,aA,bn,hs,?_⟩,aA,?_⟩
   all_goals first|(simp only;rw[show n-(i+1)=m by omega];exact hR)|skip
   all_goals exact ae
  ·have hR2:R=(acc,f,l,e):=by
    rw[←hR]
    cases n-i with
    | zero=>rfl
    | succ m=>rw[gU,V6 he]
   subst hR2
   (refine w0 ?_;repeat' first|apply ah|refine ai fun hc=>?_)
   refine⟨.inl rfl,Bo [(1000,1000),(600,3000)] rfl rfl ?_ (um rfl rfl) (iP rfl rfl)⟩
   (repeat (first|exact eh.nil|(refine eh.cons rfl ?_ ?_;(focus first|rfl|skip))))
 ·have hR2:R=(acc,f,l,e):=by
   rw[←hR,show n-i=0 by omega];rfl
  subst hR2
  (refine w0 ?_;repeat' first|apply ah|refine ai fun hc=>?_)
  refine⟨.inl rfl,Bo [(1000,1000),(600,3000)] rfl rfl ?_ (um rfl rfl) (iP rfl rfl)⟩
  (repeat (first|exact eh.nil|(refine eh.cons rfl ?_ ?_;(focus first|rfl|skip))))
theorem wD (b:List UInt8)(hb:b.length≤1000000000):Fn prog 56 [.per (aK b)] (.tup2 (.own 82 7 ((dd b).1.map itP)) (el (dd b).2)):=by
 have hs:b <:+ b:=WM b
 have hb':b.length≤1000000000000:=ab
 have h1:=Em b b 0 hs hb'
 have hsuf:(sP b 0).2.2.1 <:+ b:=(Im _ _ _ _ _ _).trans (ao _ _ _ _)
 generalize hQ:dd b=Q at *
 unfold dd at hQ
 generalize sP b 0=R at *
 obtain⟨acc,f,l,e⟩:=R
 simp only at hQ h1 hsuf
 have h3:=kK b l e hsuf
 have e0:((b.length-b.length:Nat):Int)=0:=ab
 unfold dQ at h1
 rw[e0]at h1
 refine fi func56 ntmps56 ?_
 (refine ut h3 (xi [(1000,9),(3000,700)] h1) ?_;repeat' first|apply ah|refine ai fun hc=>?_)
 ·rw[sQ,V6 (by assumption)]at hQ
  subst hQ
  exact d9 (dv rfl) (al rfl rfl)
 ·rw[sQ,V3 (by simp[*]),V6 (by assumption)]at hQ
  subst hQ
  exact d9 (dv rfl) (al rfl rfl)
 ·rw[sQ,V3 (by simp[*]),V3 (by simp[*])]at hQ
  subst hQ
  exact d9 (fT rfl rfl rfl) (al rfl rfl)
def ba (l:List UInt8):ByteArray:=⟨l.toArray⟩
def j5 (l:List UInt8)(e:Int):Rg×List UInt8×Int:=
 let t:=aW 17 l e
 let o:=af 0 1 t.2.1 t.2.2
 if(o.1==1)=true then(⟨ba t.1,e0,true⟩,o.2.1,o.2.2)else
  let h:=aW 17 o.2.1 o.2.2
  (⟨ba t.1,ba h.1,false⟩,h.2.1,h.2.2)
def fx {α:Type}(st:List UInt8→Int→α×List UInt8×Int):Nat→List α→List UInt8→Int→List α×List UInt8×Int
 | 0,acc,l,e=>(acc,l,e)
 | n+1,acc,l,e=>if e≠0 then(acc,l,e)else fx st n (acc++[(st l e).1]) (st l e).2.1 (st l e).2.2
def cN {α:Type}(st:List UInt8→Int→α×List UInt8×Int)(most:Int)(l:List UInt8)(e:Int):List α×List UInt8×Int:=
 fx st (af 0 most l e).1.toNat [] (af 0 most l e).2.1 (af 0 most l e).2.2
theorem LO (h:∀l e,(st l e).2.1 <:+ l):∀(n:Nat)(acc:List α)(l:List UInt8)(e:Int),(fx st n acc l e).2.1 <:+ l:=by
 intro n
 induction n with
 | zero=>intro acc l e;exact WM l
 | succ n ih=>
  intro acc l e
  unfold fx
  split
  ·exact WM l
  ·exact(ih _ _ _).trans (h _ _)
theorem LP:∀(n:Nat)(acc:List α)(l:List UInt8)(e:Int),(fx st n acc l e).1.length≤acc.length+n:=by
 intro n
 induction n with
 | zero=>intro acc l e;simp[fx]
 | succ n ih=>
  intro acc l e
  unfold fx
  split
  ·simp
  ·have:=ih (acc++[(st l e).1]) (st l e).2.1 (st l e).2.2
   simp at this ⊢;omega
instance (l:List Rg):Decidable (cb l):=by unfold cb wC;infer_instance
def jU {α:Type}(ok:List α→Prop)[DecidablePred ok](r:List α×List UInt8×Int):List α×Int:=
 if di r.2.1 r.2.2≠0 then([],di r.2.1 r.2.2)else if ok r.1 then(r.1,0)else([],11)
def dG (b:List UInt8):List Rg×Int:=jU cb (cN j5 4096 b 0)
theorem PY (l:List UInt8)(e:Int):dh prog 208 [.aggK lN .aggN] [(1000,ct l e)] (LC (j5 l e).1) [(1000,ct (j5 l e).2.1 (j5 l e).2.2)]:=by
 dsimp only [j5]
 have h1:=mM l e 17
 generalize aW 17 l e=t at *
 have h2:=rI t.2.1 t.2.2
 generalize af 0 1 t.2.1 t.2.2=o at *
 have h3:=mM o.2.1 o.2.2 17
 generalize aW 17 o.2.1 o.2.2=h at *
 by_cases ho:(o.1==1)=true
 ·rw[V6 ho]
  rw[ho]at h2
  refine dH func208 ntmps208 ?_
  (refine dF h1 h2 h3 ?_;repeat' first|apply ah|refine ai fun hc=>?_)
  refine gM ?_
  exact D0
 ·rw[V3 ho]
  rw[show(o.1==1)=false by simpa using ho]at h2
  refine dH func208 ntmps208 ?_
  (refine dF h1 h2 h3 ?_;repeat' first|apply ah|refine ai fun hc=>?_)
  refine gM ?_
  exact D0
abbrev T7:Cnt:=.per (ak (.func (.func 208) #[] #[]))
theorem En (most:Int)(hm:0≤most)(hm2:most≤1000000)(l:List UInt8)(e:Int):dh prog 207 [.aggK lN .aggN,iC .i64 most,T7] [(1000,ct l e)] (.row 3000 0) [(1000,ct (cN j5 most l e).2.1 (cN j5 most l e).2.2),(3000,.row 29 3 ((cN j5 most l e).1.map rgP))]:=by
 dsimp only [cN]
 have h1:=db l e 0 most
 have hn:=cY (most:=most) hm l e
 generalize af 0 most l e=s at *
 obtain⟨n,l0,e0⟩:=s
 simp only at h1 hn ⊢
 obtain⟨hn0,hn1⟩:=hn
 obtain⟨n,rfl⟩:=Int.eq_ofNat_of_zero_le hn0
 rw[Int.toNat_natCast]
 generalize hR:fx j5 n [] l0 e0=R at *
 refine dH func207 ntmps207 ?_
 (refine dy h1 ?_)
 refine bQ (bU 8 600 29 3 rfl rfl) ?_
 refine aj (X:=Nat×List Rg×List UInt8×Int) (fun x=>x.1≤n∧x.2.1.length≤x.1∧fx j5 (n-x.1) x.2.1 x.2.2.1 x.2.2.2=R)
  (fun x=>ay [(2,T7),(3,.ptr 3 0 0),(7,iC .i64 (n:Nat)),(8,.row 600 0),(9,iC .i64 (x.1:Nat))] [(3,.box 274 [lN]),(1000,ct x.2.2.1 x.2.2.2),(600,.row 29 3 (x.2.1.map rgP))]) (fun x=>n-x.1) (0,[],l0,e0) ⟨Wa _,V8 _,hR⟩ ?_
 rintro⟨i,acc,l,e⟩ ⟨hi,hacc,hR⟩
 simp only at hi hacc hR ⊢
 have hE:=m1 l e
 by_cases hlt:i<n
 ·by_cases he:e=0
  ·subst he
   obtain⟨m,hm⟩:∃m,n-i=m+1:=⟨n-i-1,ab⟩
   rw[hm,fx,V3 au]at hR
   have h2:=PY l 0
   generalize j5 l 0=q at *
   (refine dy hE ?_;repeat' first|apply ah|refine ai fun hc=>?_|((first|apply aB rfl|apply aC rfl|apply aD rfl|apply aF rfl);(focus ((try (apply bI;(focus rfl);apply ag rfl rfl rfl rfl rfl));first|(exact Lj [(1000,1000)] h2)));refine dy hE ?_))
   refine⟨(i+1,acc++[q.1],q.2.1,q.2.2),⟨aA,bn,by simp only;rw[show n-(i+1)=m by omega];exact hR⟩,aA,?_⟩
   exact ae
  ·have hR2:R=(acc,l,e):=by
    rw[←hR]
    cases n-i with
    | zero=>rfl
    | succ m=>rw[fx,V6 he]
   subst hR2
   (refine dy hE ?_;repeat' first|apply ah|refine ai fun hc=>?_)
   refine⟨.inl rfl,gq [(1000,1000),(600,3000)] rfl rfl ?_ (um rfl rfl)⟩
   (repeat (first|exact eh.nil|(refine eh.cons rfl ?_ ?_;(focus first|rfl|skip))))
 ·have hR2:R=(acc,l,e):=by
   rw[←hR,show n-i=0 by omega];rfl
  subst hR2
  (refine dy hE ?_;repeat' first|apply ah|refine ai fun hc=>?_)
  refine⟨.inl rfl,gq [(1000,1000),(600,3000)] rfl rfl ?_ (um rfl rfl)⟩
  (repeat (first|exact eh.nil|(refine eh.cons rfl ?_ ?_;(focus first|rfl|skip))))
theorem oG (h:0≤most)(l:List UInt8)(e:Int):((cN st most l e).1.length:Int)≤most:=by
 have h1:=LP (st:=st) (af 0 most l e).1.toNat [] (af 0 most l e).2.1 (af 0 most l e).2.2
 have h2:=cY (most:=most) h l e
 unfold cN
 simp at h1
 omega
theorem lP (b:List UInt8)(hb:b.length≤1000000000):Fn prog 132 [dS b] (.tup2 (.own 29 3 ((dG b).1.map rgP)) (el (dG b).2)):=by
 have h1:=En 4096 ab ab b 0
 have hn:=oG (st:=j5) (most:=4096) ab b 0
 generalize hQ:dG b=Q at *
 unfold dG at hQ
 generalize cN j5 4096 b 0=R at *
 obtain⟨acc,l,e⟩:=R
 simp only at hQ h1 hn
 have h2:=xB l e
 have h3:=jv acc ab (decide (cb acc)) au
 refine fi func132 ntmps132 ?_
 (refine ur h3 h2 (lO b hb) (xi [(1000,8),(3000,700)] h1) ?_;repeat' first|apply ah|refine ai fun hc=>?_)
 ·rw[jU,V6 (by assumption)]at hQ
  subst hQ
  exact d9 (dv rfl) (al rfl rfl)
 ·rw[jU,V3 (by simp[*]),V3 (by simp_all)]at hQ
  subst hQ
  exact d9 (dv rfl) (al rfl rfl)
 ·rw[jU,V3 (by simp[*]),V6 (by simp_all)]at hQ
  subst hQ
  exact d9 (fT rfl rfl rfl) (al rfl rfl)
theorem nH (b:List UInt8)(hb:b.length≤1000000000):Fn prog 55 [.per (aK b)] (.tup2 (.own 29 3 ((dG b).1.map rgP)) (el (dG b).2)):=by
 have hs:b <:+ b:=WM b
 have hb':b.length≤1000000000000:=ab
 generalize hQ:dG b=Q at *
 dsimp only [dG,cN]at hQ
 have h1:=bd b b 0 hs hb' 0 4096
 have hn:=cY (most:=4096) ab b 0
 replace hs:=(ao 0 4096 b 0).trans hs
 generalize af 0 4096 b 0=s at *
 obtain⟨n,l0,e0'⟩:=s
 simp only at h1 hn hs hQ
 obtain⟨hn0,hn1⟩:=hn
 obtain⟨n,rfl⟩:=Int.eq_ofNat_of_zero_le hn0
 rw[Int.toNat_natCast]at hQ
 generalize hR:fx j5 n [] l0 e0'=R at *
 have e0:((b.length-b.length:Nat):Int)=0:=ab
 unfold dQ at h1
 rw[e0]at h1
 refine fi func55 ntmps55 ?_
 (refine dy h1 ?_)
 refine bQ (bU 6 600 29 3 rfl rfl) ?_
 refine aj (X:=Nat×List Rg×List UInt8×Int) (fun x=>x.1≤n∧x.2.1.length≤x.1∧x.2.2.1 <:+ b∧fx j5 (n-x.1) x.2.1 x.2.2.1 x.2.2.2=R)
  (fun x=>ay [(4,.ptr 11 0 0),(5,iC .i64 (n:Nat)),(6,.row 600 0),(7,iC .i64 (x.1:Nat))] [(11,dQ b x.2.2.1 x.2.2.2),(600,.row 29 3 (x.2.1.map rgP))]) (fun x=>n-x.1) (0,[],l0,e0') ⟨Wa _,V8 _,hs,hR⟩ ?_
 clear h1 hR hs
 rintro⟨i,acc,l,e⟩ ⟨hi,hacc,hs,hR⟩
 simp only at hi hacc hs hR ⊢
 have hD:=kK b l e hs
 by_cases hst:i<n∧e=0
 ·obtain⟨hlt,he⟩:=hst
  subst he
  obtain⟨m,hm⟩:∃m,n-i=m+1:=⟨n-i-1,ab⟩
  rw[hm,fx,V3 au]at hR
  clear hQ hD
  dsimp only [j5]at hR
  have h2:=gr b l 0 hs hb' 17
  replace hs:=(bN 17 l 0).trans hs
  generalize aW 17 l 0=t at *
  have h3:=bd b t.2.1 t.2.2 hs hb' 0 1
  replace hs:=(ao 0 1 t.2.1 t.2.2).trans hs
  generalize af 0 1 t.2.1 t.2.2=o at *
  by_cases ho:o.1=1
  ·rw[V6 (by simp[ho])]at hR
   rw[ho]at h3
   (refine ft h2 h3 ?_;repeat' first|apply ah|refine ai fun hc=>?_)
   refine⟨(i+1,acc++[⟨ba t.1,ByteArray.mk #[],true⟩],o.2.1,o.2.2),⟨aA,bn,hs,by simp only;rw[show n-(i+1)=m by omega];exact hR⟩,aA,?_⟩
   exact ae
  ·rw[V3 (by simp[ho])]at hR
   have h4:=gr b o.2.1 o.2.2 hs hb' 17
   replace hs:=(bN 17 o.2.1 o.2.2).trans hs
   generalize aW 17 o.2.1 o.2.2=h at *
   (refine dF h2 h3 h4 ?_;repeat' first|apply ah|refine ai fun hc=>?_)
   refine⟨(i+1,acc++[⟨ba t.1,ba h.1,false⟩],h.2.1,h.2.2),⟨aA,bn,hs,by simp only;rw[show n-(i+1)=m by omega];exact hR⟩,aA,?_⟩
   (refine kd ?_ ?_;(focus ((repeat (first|exact f9.nil|(refine f9.cons ?_ ?_;rotate_left)));(all_goals try (first|rfl|(refine Dx ?_;first|omega|(simp;done)|(simp;omega))|(refine pb ?_;first|(simp;done)|(simp[*];done))))));(focus ((repeat (first|exact ga.nil|(refine ga.cons ?_ ?_;rotate_left)));(all_goals try (first|rfl|(refine mD ?_;(rw[List.map_append]<;>rfl);done)|(refine ke ?_;(rw[List.map_append]<;>rfl);done))))))
   show Blk.row _ _ (acc.map rgP++[[_,_,ak (.bool (o.1==1))]])=_
   rw[show(o.1==1)=false by simpa using ho,List.map_append]
   rfl
 ·have hR2:R=(acc,l,e):=by
   rw[←hR]
   by_cases he:e=0
   ·rw[show n-i=0 by omega];rfl
   ·cases n-i with
    | zero=>rfl
    | succ m=>rw[fx,V6 he]
  subst hR2
  have h3:=mK acc ab (decide (cb acc)) au
  by_cases hlt:i<n
  ·have he:e≠0:=fun q=>hst ⟨hlt,q⟩
   have hen:di l e≠0:=by unfold di;rw[V3 (fun q=>he q.1)];exact he
   rw[jU,V6 hen]at hQ
   subst hQ
   (refine cW h3 hD ?_;repeat' first|apply ah|refine ai fun hc=>?_)
   exact d9 (dv rfl) (al rfl rfl)
  ·(refine cW h3 hD ?_;repeat' first|apply ah|refine ai fun hc=>?_)
   ·rw[jU,V6 (by assumption)]at hQ
    subst hQ
    exact d9 (dv rfl) (al rfl rfl)
   ·rw[jU,V3 (by simp[*]),V3 (by simp_all)]at hQ
    subst hQ
    exact d9 (dv rfl) (al rfl rfl)
   ·rw[jU,V3 (by simp[*]),V6 (by simp_all)]at hQ
    subst hQ
    exact d9 (fT rfl rfl rfl) (al rfl rfl)
theorem LQ:∀(l acc:List α)(r:List UInt8),(∀x∈l,∀r,st (B x++r) 0=(x,r,0))→fx st l.length acc (l.flatMap B++r) 0=(acc++l,r,0):=by
 intro l
 induction l with
 | nil=>intro acc r _;simp[fx]
 | cons x l ih=>
  intro acc r h
  rw[Wh,fx,V3 au,List.flatMap_cons,V9,h x WG]
  rw[ih _ _ (fun y hy=>h y (Ww _ hy))]
  simp
theorem Ga (h:∀l e,(st l e).2.2=0→e=0∧l=B (st l e).1++(st l e).2.1) :
 ∀(n:Nat)(acc:List α)(l:List UInt8)(e:Int),(fx st n acc l e).2.2=0→e=0∧∃m:List α,(fx st n acc l e).1=acc++m∧m.length=n∧l=m.flatMap B++(fx st n acc l e).2.1:=by
 intro n
 induction n with
 | zero=>intro acc l e h0;exact⟨h0,[],by simp[fx],rfl,by simp[fx]⟩
 | succ n ih=>
  intro acc l e h0
  unfold fx at h0 ⊢
  by_cases he:e=0
  ·subst he
   rw[V3 au]at h0 ⊢
   obtain⟨g1,m,g2,g3,g4⟩:=ih _ _ _ h0
   obtain⟨_,r2⟩:=h l 0 g1
   refine⟨rfl,(st l 0).1::m,by rw[g2];simp,by simp[g3],?_⟩
   rw[List.flatMap_cons,V9,←g4]
   exact r2
  ·rw[V6 he]at h0
   exact absurd h0 he
theorem BZ {ok:List α→Prop}[DecidablePred ok]{l:List α}(h:∀x∈l,∀r,st (B x++r) 0=(x,r,0))(hl:(l.length:Int)≤most)(hm:most≤1000000)(hok:ok l) :
 jU ok (cN st most (aJ (l.length:Nat)++l.flatMap B) 0)=(l,0):=by
 unfold cN
 rw[cc (by unfold bL;omega) ab hl]
 dsimp only
 rw[Int.toNat_natCast]
 have:=LQ (st:=st) (B:=B) l [] [] h
 rw[Wg]at this
 rw[this]
 simp[jU,di,hok]
theorem xC {ok:List α→Prop}[DecidablePred ok]{b:List UInt8}(h:∀l e,(st l e).2.2=0→e=0∧l=B (st l e).1++(st l e).2.1)
 (h0:(jU ok (cN st most b 0)).2=0):ok (jU ok (cN st most b 0)).1∧((jU ok (cN st most b 0)).1.length:Int)≤most∧aJ ((jU ok (cN st most b 0)).1.length:Nat)++(jU ok (cN st most b 0)).1.flatMap B=b:=by
 unfold jU at h0 ⊢
 split at h0
 ·rename_i hc;exact absurd h0 hc
 ·rename_i hc
  rw[V3 hc]
  split at h0
  ·rename_i hk
   rw[V6 hk]
   obtain⟨e1,e2⟩:=uE (by simpa using hc)
   unfold cN at e1 e2 hk ⊢
   obtain⟨g1,m,g3,g4,g6⟩:=Ga h _ _ _ _ e2
   obtain⟨_,w2,w3,w4,w5⟩:=bt g1
   refine⟨hk,?_,?_⟩
   ·rw[g3];simp;omega
   ·rw[e1,Wg]at g6
    simp only[g3,Wu]
    rw[g4,←g6,Xu w3,←w5]
  ·cases h0
theorem LR {s:ByteArray}:ba s.data.toList=s:=Ek s
theorem LS {r:Rg}(h:fX r=true)(x:List UInt8):j5 (tw r++x) 0=(r,x,0):=by
 obtain⟨h1,h2,h3⟩:=(b0 r).1 h
 obtain⟨lo,hi,op⟩:=r
 simp only at h1 h2 h3
 dsimp only [j5,tw]
 cases op with
 | true=>
  simp only[Xq]at h3 ⊢
  subst h3
  rw[V9,lM ab ab]
  dsimp only
  rw[cc (by unfold bL;omega) ab ab]
  dsimp only
  rw[V6 bz,LR]
 | false=>
  simp only[WH,XC]
  rw[V9,lM ab ab]
  dsimp only
  rw[V9,cc (by unfold bL;omega) ab ab]
  dsimp only
  rw[V3 bz,lM ab ab]
  dsimp only
  rw[LR,LR]
theorem Gb {l:List UInt8}{e:Int}(h:(j5 l e).2.2=0):e=0∧l=tw (j5 l e).1++(j5 l e).2.1:=by
 dsimp only [j5]at h ⊢
 split at h
 ·rename_i ho
  rw[V6 ho]
  obtain⟨o1,_,_,_,o5⟩:=bt h
  obtain⟨t1,_,t3⟩:=ky o1
  rw[beq_iff_eq]at ho
  rw[ho]at o5
  refine⟨t1,?_⟩
  simp only[tw,Xq]
  rw[V9,←o5]
  exact t3
 ·rename_i ho
  rw[V3 ho]
  obtain⟨h1,_,h3⟩:=ky h
  obtain⟨o1,_,o3,o4,o5⟩:=bt h1
  obtain⟨t1,_,t3⟩:=ky o1
  have ho':(af 0 1 (aW 17 l e).2.1 (aW 17 l e).2.2).1=0:=by
   have:(af 0 1 (aW 17 l e).2.1 (aW 17 l e).2.2).1≠1:=by simpa using ho
   omega
  rw[ho']at o5
  refine⟨t1,?_⟩
  simp only[tw,WH,XC]
  rw[V9,V9]
  unfold ba
  rw[←h3,←o5]
  exact t3
theorem xD {l:List Rg}(h:cb l)(hl:l.length≤4096):dG (fH l)=(l,0):=
 BZ (fun x hx r=>by
  obtain⟨i,hi,rfl⟩:=List.getElem_of_mem hx
  exact LS (tz h hi) r) ab ab h
theorem kL {b:List UInt8}(h:(dG b).2=0):cb (dG b).1∧((dG b).1.length:Int)≤4096∧fH (dG b).1=b:=xC (fun _ _=>Gb) h
theorem LU:∀l:List α,(∀x∈l,(B x).length≤40)→(l.flatMap B).length≤40*l.length:=by
 intro l
 induction l with
 | nil=>intro _;simp
 | cons x l ih=>
  intro h
  have h1:=h x WG
  have h2:=ih (fun y hy=>h y (Ww _ hy))
  rw[List.flatMap_cons,V5,Wh];omega
theorem xE {l:List Rg}(h:cb l)(hl:l.length≤4096):(fH l).length≤10+40*l.length:=by
 have h1:=LU (B:=tw) l (fun x hx=>by
  obtain⟨i,hi,rfl⟩:=List.getElem_of_mem hx
  exact oD (tz h hi))
 have h2:=bf (l.length:Int) ab
 unfold fH
 rw[V5];omega
end Go.Proofs.YtaclhhkblbacgaaGreat
