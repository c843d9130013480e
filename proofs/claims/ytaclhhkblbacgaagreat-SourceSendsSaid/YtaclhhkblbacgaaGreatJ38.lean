/- Texts joined: StO. -/
import Derived.Test.YtaclhhkblbacgaaGreatJ36
import Derived.Test.YtaclhhkblbacgaaGreatJ37
set_option maxRecDepth 10000
set_option maxHeartbeats 8000000
namespace Go.Proofs.YtaclhhkblbacgaaGreat
open Go.RowKit Go.Proofs.Tryz
theorem Jt (a:List Pc)(f:List Rg)(s:ByteArray)(ha:ew a)(hf:f.length≤1000000)(hs:s.size≤1000000000):Fn prog 141 [iC .i64 3,dC a,dC [],ec f,sC s] (qG (md a f s)):=by
 have h1:=SW a s ha hs
 have h2:=qN f s ab hs
 unfold md
 clear ha
 cases hr:cQ f s with
 | true=>
  rw[hr]at h2
  rw[V6 rfl]
  generalize lC a s=A at *
  refine fi func141 ntmps141 ?_
  (refine BB h2 h1 ?_;repeat' first|apply ah|refine ai fun hc=>?_)
  exact nx
 | false=>
  rw[hr]at h2
  rw[V3 au]
  clear h1
  refine fi func141 ntmps141 ?_
  (refine aq h2 ?_;repeat' first|apply ah|refine ai fun hc=>?_)
  exact nx
theorem ra (k:List Pc)(f:List Rg)(hk:ew k)(hl:k.length≤500000)(hf:f.length≤400000):Fn prog 29 [dC k,ec f] (qO (cX k f)):=by
 have e:j9 [emB] (cK k++(cK []++f))=mT k f:=rfl
 have h1:=Js 3 k [] f (md k f) hl au hf (fun s hs=>Jt k f s hk ab (by
  rw[e]at hs
  have:=zM k f s hs;omega)) (fun s _=>(vL hk f s).sz)
 rw[e]at h1
 have h1:Fn prog 75 [iC .i64 3,dC k,dC [],ec f] (qO (cX k f)):=h1
 clear hk
 generalize cX k f=R at *
 refine fi func29 ntmps29 ?_
 (refine aq h1 ?_)
 exact nx
theorem sn (s:Sta)(hB:RP s) :
 Fn prog 7 [ji s] (dq (oQ s)):=by
 obtain⟨b1,b2,b3,b4,b5⟩:=hB
 have a1:=mK s.flt ab (decide (cb s.flt)) au
 have a2:=Nm s.its b5 ab (gV s.its) oT
 have a3:=ld s.know (dE b2) (decide (aX s.know)) au
 by_cases c1:(1≤s.id∧s.id≤16)∧(0≤s.cnt∧s.cnt≤1099511627776)
 ·by_cases c2:cb s.flt∧s.its.length≤4096∧gV s.its=true∧aX s.know
  ·obtain⟨d1,d2,d3,d4⟩:=c2
   have hall:s.its.all eC=true:=by unfold gV at d3;rw[Wi]at d3;exact d3.1
   have hT:oQ s=(decide (cX s.know s.flt=s.know)&&decide (lm s.know s.id≤s.cnt)&&ja s.its&&s.its.all (fun x=>cQ s.flt x.key&&cp s.know x.key x.rep x.cnt)):=by
    unfold oQ
    rw[Wb c1.1,Wb c1.2,Wb d1,Wb d2,d3,Wb d4]
    simp
   rw[hT]
   clear hT
   rw[Wb d1]at a1
   rw[d3]at a2
   rw[Wb d4]at a3
   have a4:=(ra s.know s.flt b2 b3 ab).frz
   have hmid:fe (cX s.know s.flt):=CV b2 ab
   have a5:=Ex (cX s.know s.flt) s.know hmid
   have a6:=Ob s.know s.id b2
   have a7:=Jr s.its b4
   have a8:∀x:ByteArray,x.size≤1000000000→Fn prog 32 [ec s.flt,sC x] (dq (cQ s.flt x)):=fun x hx=>qN s.flt x ab hx
   have a9:∀(x:ByteArray)(r c:Int),x.size≤1000000000→Fn prog 33 [dC s.know,sC x,sD r c] (dq (cp s.know x r c)):=fun x r c hx=>GV s.know x r c (dE b2) hx
   clear hall d1 d3 d4 hmid b2
   generalize cX s.know s.flt=RK at *
   generalize hq1:decide (RK=s.know)=q1 at *
   generalize hq2:lm s.know s.id=mk at *
   generalize ja s.its=q3 at *
   clear hq1 hq2
   by_cases e:q1=true∧mk≤s.cnt∧q3=true
   ·obtain⟨rfl,e2,rfl⟩:=e
    rw[Wb e2,WP,WP,WP]
    refine fi func7 ntmps7 ?_
    (refine F8 a1 a2 a3 a4 a5 a6 a7 ?_;repeat' first|apply ah|refine ai fun hc=>?_)
    clear a1 a2 a3 a4 a5 a6 a7
    refine aj (X:=Nat) (fun i=>i≤s.its.length∧(s.its.take i).all (fun x=>cQ s.flt x.key&&cp s.know x.key x.rep x.cnt)=true) (fun i=>ay [(1,.ptr 1 0 0),(3,iC .i64 (i:Nat))] [(1,.box 26 ((td s).map Cnt.per))]) (fun i=>s.its.length-i) 0 ⟨Wa _,rfl⟩ ?_
    rintro i ⟨h1,h2⟩
    by_cases hi:i<s.its.length
    ·have hk:=b5 _ (Wk hi)
     have c8:=a8 s.its[i].key hk
     have c9:=a9 s.its[i].key s.its[i].rep s.its[i].cnt hk
     have hsn:(s.its.take (i+1)).all (fun x=>cQ s.flt x.key&&cp s.know x.key x.rep x.cnt)=(cQ s.flt s.its[i].key&&cp s.know s.its[i].key s.its[i].rep s.its[i].cnt):=by
      rw[bc _ i hi,List.all_append,h2];simp
     have hno:(cQ s.flt s.its[i].key&&cp s.know s.its[i].key s.its[i].rep s.its[i].cnt)=false→s.its.all (fun x=>cQ s.flt x.key&&cp s.know x.key x.rep x.cnt)=false:=fun q=>by
      rw[←Wy,WJ]
      exact fun w=>by have:=w _ (Wk hi);rw[q]at this;cases this
     clear a8 a9 h2
     generalize cQ s.flt s.its[i].key=x1 at *
     generalize cp s.know s.its[i].key s.its[i].rep s.its[i].cnt=x2 at *
     cases x1 with
     | false=>
      rw[hno rfl]
      clear hno hsn
      (refine bg c8 c9 ?_;repeat' first|apply ah|refine ai fun hc=>?_)
      exact dp
     | true=>
      cases x2 with
      | false=>
       rw[hno rfl]
       clear hno hsn
       (refine bg c8 c9 ?_;repeat' first|apply ah|refine ai fun hc=>?_)
       exact dp
      | true=>
       clear hno
       (refine bg c8 c9 ?_;repeat' first|apply ah|refine ai fun hc=>?_)
       refine⟨i+1,⟨ab,hsn⟩,ab,?_⟩
       exact ae
    ·rw[Wd ab]at h2
     rw[h2]
     clear a8 a9 b5
     (refine w0 ?_;repeat' first|apply ah|refine ai fun hc=>?_)
     exact dp
   ·have hf:(q1&&decide (mk≤s.cnt)&&q3&&s.its.all (fun x=>cQ s.flt x.key&&cp s.know x.key x.rep x.cnt))=false:=by
     rw[←Wy]
     simp only[Wi,Wn]
     exact fun w=>e ⟨w.1.1.1,w.1.1.2,w.1.2⟩
    rw[hf]
    clear hf a8 a9 b5
    refine fi func7 ntmps7 ?_
    (refine F8 a1 a2 a3 a4 a5 a6 a7 ?_;repeat' first|apply ah|refine ai fun hc=>?_)
    all_goals first|(exfalso;exact e ⟨by assumption,ab,by assumption⟩)|skip
    all_goals refine dw ?_
    all_goals exact aL rfl rfl
  ·have hf:oQ s=false:=by
    rw[←Wy]
    unfold oQ
    simp only[Wi,Wn]
    exact fun w=>c2 ⟨w.1.1.1.1.1.1.2,w.1.1.1.1.1.1.1.2,w.1.1.1.1.1.2,w.1.1.1.1.2⟩
   rw[hf]
   have c2':¬(decide (cb s.flt)=true∧s.its.length≤4096∧gV s.its=true∧decide (aX s.know)=true):=by
    rw[Wn,Wn];exact c2
   clear hf c2 b2 b5
   generalize decide (cb s.flt)=d1 at *
   generalize gV s.its=d3 at *
   generalize decide (aX s.know)=d4 at *
   refine fi func7 ntmps7 ?_
   (refine fO a1 a2 a3 ?_;repeat' first|apply ah|refine ai fun hc=>?_)
   all_goals first|(exfalso;exact c2' ⟨by assumption,ab,by assumption,by assumption⟩)|skip
   all_goals refine dw ?_
   all_goals exact aL rfl rfl
 ·have hf:oQ s=false:=by
   rw[←Wy]
   unfold oQ
   simp only[Wi,Wn]
   exact fun w=>c1 ⟨w.1.1.1.1.1.1.1.1.1,w.1.1.1.1.1.1.1.1.2⟩
  rw[hf]
  clear hf a1 a2 a3 b2 b5
  refine fi func7 ntmps7 ?_
  (refine w0 ?_;repeat' first|apply ah|refine ai fun hc=>?_)
  all_goals first|(exfalso;exact c1 ⟨⟨ab,ab⟩,ab,ab⟩)|skip
  all_goals refine dw ?_
  all_goals exact aL rfl rfl
end Go.Proofs.YtaclhhkblbacgaaGreat
