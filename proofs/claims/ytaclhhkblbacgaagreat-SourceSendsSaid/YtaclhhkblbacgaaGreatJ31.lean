/- Texts joined: StA. -/
import Derived.Test.YtaclhhkblbacgaaGreatJ30
set_option maxRecDepth 10000
set_option maxHeartbeats 8000000
namespace Go.Proofs.YtaclhhkblbacgaaGreat
open Go.RowKit Go.Proofs.Tryz
abbrev td (s:Sta):List PV:=[ak (.int .i64 s.id),fW s.flt,dP s.its,gG s.know,ak (.int .i64 s.cnt)]
abbrev S5 (s:Sta):PV:=cB (td s)
abbrev ji (s:Sta):Cnt:=.per (S5 s)
theorem oT {l:List It}:gV l=true↔vD l:=by
 unfold gV
 rw[Wi,Wn,WJ]
 constructor
 ·rintro⟨h1,h2⟩ i hi
  refine⟨h1 _ (Wk hi),fun h0=>?_⟩
  rw[List.pairwise_iff_getElem]at h2
  have:=h2 (i-1) i bn (by simpa using hi) ab
  simp only[List.getElem_map]at this
  exact(i7 _ _).2 this
 ·intro h
  refine⟨zL h,?_⟩
  have hu:=yf h
  unfold Up at hu
  rw[List.pairwise_map]
  refine hu.imp fun {x y} q=>?_
  rw[m3]at q
  exact(i7 _ _).1 q
structure RP (s:Sta):Prop where
 flt:s.flt.length≤100000
 kmid:ew s.know
 kl:s.know.length≤500000
 its:s.its.length≤1000000
 keys:ng s.its
theorem qW:∀{l:List Pc},aX l→∀p∈l,p.set≠[]∧∃s,eG l s=p.set:=by
 intro l
 induction l with
 | nil=>intro _ p hp;cases hp
 | cons q l ih=>
  intro h p hp
  rcases Wp.1 hp with rfl|hp
  ·obtain⟨h1,h2⟩:=jz h
   exact⟨h2,_,h1⟩
  ·obtain⟨h1,s,h2⟩:=ih ((dj q l).1 h).2.2 p hp
   refine⟨h1,s,?_⟩
   obtain⟨h3,h4⟩:=lZ h (s:=s) (by rw[h2];exact h1)
   rw[gg,h2]
   unfold cO
   rw[h3]
   simp only[Xo,Wi,Wn]
   grind
theorem CV {k:List Pc}{f:List Rg}(hk:ew k)(hf:f.length≤100000000):fe (cX k f):=by
 refine⟨?_,fun p hp=>?_⟩
 ·have h1:=qL (md k f) (mT k f)
  have h2:=lY (cK k++f) [emB]
  have h3:=hk.1
  have h4:(cK k).length=k.length:=by unfold cK;simp
  rw[V5,h4,List.length_singleton]at h2
  unfold cX
  have h5:(mT k f).length=(j9 [emB] (cK k++f)).length:=rfl
  omega
 ·obtain⟨h1,h2⟩:=nR k f
  obtain⟨_,s,h3⟩:=qW h1 p hp
  rw[←h3,h2]
  exact vL hk f s
theorem qX (s:Sta)(hB:RP s) :
 Fn prog 38 [ji s] (dq (oQ s)):=by
 obtain⟨b1,b2,b3,b4,b5⟩:=hB
 have a1:=jv s.flt ab (decide (cb s.flt)) au
 have a2:=yg s.its b5 ab (gV s.its) oT
 have a3:=iv s.know (dE b2) (decide (aX s.know)) au
 by_cases c1:(1≤s.id∧s.id≤16)∧(0≤s.cnt∧s.cnt≤1099511627776)
 ·by_cases c2:cb s.flt∧s.its.length≤4096∧gV s.its=true∧aX s.know
  ·obtain⟨d1,d2,d3,d4⟩:=c2
   have hall:s.its.all eC=true:=by unfold gV at d3;rw[Wi]at d3;exact d3.1
   have hT:oQ s=(decide (cX s.know s.flt=s.know)&&decide (lm s.know s.id≤s.cnt)&&ja s.its&&s.its.all (fun x=>cQ s.flt x.key&&cp s.know x.key x.rep x.cnt)):=by
    unfold oQ
    rw[Wb c1.1,Wb c1.2,Wb d1,Wb d2,d3,Wb d4]
    simp
   rw[hT]
   clear hT
   rw[Wb d1]at a1
   rw[d3]at a2
   rw[Wb d4]at a3
   have a4:=(nS s.know s.flt b2 d1 b1 b3 (zV s.flt d1 ab)).frz
   have hmid:fe (cX s.know s.flt):=CV b2 ab
   have a5:=NG (cX s.know s.flt) s.know hmid (dE b2) (nR _ _).1 d4
   have a6:=GZ s.know s.id (dE b2)
   have a7:=CU s.its hall b4
   have a8:∀x:ByteArray,x.size≤1000000000→Fn prog 87 [.per (fW s.flt),sC x] (dq (cQ s.flt x)):=fun x hx=>CO s.flt x d1 ab hx
   have a9:∀(x:ByteArray)(r c:Int),x.size≤1000000000→Fn prog 88 [dC s.know,sC x,sD r c] (dq (cp s.know x r c)):=fun x r c hx=>zR s.know x r c (dE b2) hx
   clear hall d1 d3 d4 hmid b2
   generalize cX s.know s.flt=RK at *
   generalize hq1:decide (RK=s.know)=q1 at *
   generalize hq2:lm s.know s.id=mk at *
   generalize ja s.its=q3 at *
   clear hq1 hq2
   by_cases e:q1=true∧mk≤s.cnt∧q3=true
   ·obtain⟨rfl,e2,rfl⟩:=e
    rw[Wb e2,WP,WP,WP]
    refine fi func38 ntmps38 ?_
    (refine F8 a1 a2 a3 a4 a5 a6 a7 ?_;repeat' first|apply ah|refine ai fun hc=>?_)
    clear a1 a2 a3 a4 a5 a6 a7
    refine aj (X:=Nat) (fun i=>i≤s.its.length∧(s.its.take i).all (fun x=>cQ s.flt x.key&&cp s.know x.key x.rep x.cnt)=true) (fun i=>ay [(1,.ptr 1 0 0),(72,.per (dP s.its)),(73,iC .i64 (s.its.length:Nat)),(74,iC .i64 (i:Nat))] [(1,.box 26 ((td s).map Cnt.per))]) (fun i=>s.its.length-i) 0 ⟨Wa _,rfl⟩ ?_
    rintro i ⟨h1,h2⟩
    by_cases hi:i<s.its.length
    ·have hk:=b5 _ (Wk hi)
     have c8:=a8 s.its[i].key hk
     have c9:=a9 s.its[i].key s.its[i].rep s.its[i].cnt hk
     have hsn:(s.its.take (i+1)).all (fun x=>cQ s.flt x.key&&cp s.know x.key x.rep x.cnt)=(cQ s.flt s.its[i].key&&cp s.know s.its[i].key s.its[i].rep s.its[i].cnt):=by
      rw[bc _ i hi,List.all_append,h2];simp
     have hno:(cQ s.flt s.its[i].key&&cp s.know s.its[i].key s.its[i].rep s.its[i].cnt)=false→s.its.all (fun x=>cQ s.flt x.key&&cp s.know x.key x.rep x.cnt)=false:=fun q=>by
      rw[←Wy,WJ]
      exact fun w=>by have:=w _ (Wk hi);rw[q]at this;cases this
     clear a8 a9 h2
     generalize cQ s.flt s.its[i].key=x1 at *
     generalize cp s.know s.its[i].key s.its[i].rep s.its[i].cnt=x2 at *
     cases x1 with
     | false=>
      rw[hno rfl]
      clear hno hsn
      (refine bg c8 c9 ?_;repeat' first|apply ah|refine ai fun hc=>?_)
      exact dp
     | true=>
      cases x2 with
      | false=>
       rw[hno rfl]
       clear hno hsn
       (refine bg c8 c9 ?_;repeat' first|apply ah|refine ai fun hc=>?_)
       exact dp
      | true=>
       clear hno
       (refine bg c8 c9 ?_;repeat' first|apply ah|refine ai fun hc=>?_)
       refine⟨i+1,⟨ab,hsn⟩,ab,?_⟩
       exact ae
    ·rw[Wd ab]at h2
     rw[h2]
     clear a8 a9 b5
     (refine w0 ?_;repeat' first|apply ah|refine ai fun hc=>?_)
     exact dp
   ·have hf:(q1&&decide (mk≤s.cnt)&&q3&&s.its.all (fun x=>cQ s.flt x.key&&cp s.know x.key x.rep x.cnt))=false:=by
     rw[←Wy]
     simp only[Wi,Wn]
     exact fun w=>e ⟨w.1.1.1,w.1.1.2,w.1.2⟩
    rw[hf]
    clear hf a8 a9 b5
    refine fi func38 ntmps38 ?_
    (refine F8 a1 a2 a3 a4 a5 a6 a7 ?_;repeat' first|apply ah|refine ai fun hc=>?_)
    all_goals first|(exfalso;exact e ⟨by assumption,ab,by assumption⟩)|skip
    all_goals refine dw ?_
    all_goals exact aL rfl rfl
  ·have hf:oQ s=false:=by
    rw[←Wy]
    unfold oQ
    simp only[Wi,Wn]
    exact fun w=>c2 ⟨w.1.1.1.1.1.1.2,w.1.1.1.1.1.1.1.2,w.1.1.1.1.1.2,w.1.1.1.1.2⟩
   rw[hf]
   have c2':¬(decide (cb s.flt)=true∧s.its.length≤4096∧gV s.its=true∧decide (aX s.know)=true):=by
    rw[Wn,Wn];exact c2
   clear hf c2 b2 b5
   generalize decide (cb s.flt)=d1 at *
   generalize gV s.its=d3 at *
   generalize decide (aX s.know)=d4 at *
   refine fi func38 ntmps38 ?_
   (refine fO a1 a2 a3 ?_;repeat' first|apply ah|refine ai fun hc=>?_)
   all_goals first|(exfalso;exact c2' ⟨by assumption,ab,by assumption,by assumption⟩)|skip
   all_goals refine dw ?_
   all_goals exact aL rfl rfl
 ·have hf:oQ s=false:=by
   rw[←Wy]
   unfold oQ
   simp only[Wi,Wn]
   exact fun w=>c1 ⟨w.1.1.1.1.1.1.1.1.1,w.1.1.1.1.1.1.1.1.2⟩
  rw[hf]
  clear hf a1 a2 a3 b2 b5
  refine fi func38 ntmps38 ?_
  (refine w0 ?_;repeat' first|apply ah|refine ai fun hc=>?_)
  all_goals first|(exfalso;exact c1 ⟨⟨ab,ab⟩,ab,ab⟩)|skip
  all_goals refine dw ?_
  all_goals exact aL rfl rfl
end Go.Proofs.YtaclhhkblbacgaaGreat
