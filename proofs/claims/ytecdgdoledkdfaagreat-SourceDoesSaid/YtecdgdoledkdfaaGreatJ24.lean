/- Lemmas, walks. -/
import Derived.Test.YtecdgdoledkdfaaGreatJ22
import Derived.Test.YtecdgdoledkdfaaGreatJ23
set_option maxRecDepth 10000
set_option maxHeartbeats 8000000
namespace Go.Proofs.YtecdgdoledkdfaaGreat
open Go.RowKit Go.Proofs.Tryz
theorem Mm (a:List Pc)(f:List Rg)(s:ByteArray)(ha:ez a)(hf:f.length<=1000000)(hs:s.size<=1000000000):Fn prog 146 [iC .i64 3,dN a,dN [],cU f,sC s] (sE (lL a f s)):=by
 have h1:=XT a s ha hs
 have h2:=ly f s ae hs
 unfold lL
 clear ha
 cases hr:cz f s with
 | true=>
  rw[hr]at h2
  rw[aae rfl]
  generalize mz a s=A at *
  refine fi func146 ntmps146 ?_
  (refine DX h2 h1 ?_;repeat' first|apply aw|refine ah λhc=>?_)
  exact oo
 | false=>
  rw[hr]at h2
  rw[aab aA]
  clear h1
  refine fi func146 ntmps146 ?_
  (refine au h2 ?_;repeat' first|apply aw|refine ah λhc=>?_)
  exact oo
theorem tj (k:List Pc)(f:List Rg)(hk:ez k)(hl:k.length<=500000)(hf:f.length<=400000):Fn prog 27 [dN k,cU f] (sK (cW k f)):=by
 have e:js [emB] (cV k++(cV []++f))=m3 k f:=rfl
 have h1:=Ml 3 k [] f (lL k f) hl aA hf (λs hs=>Mm k f s hk ae (by
  rw[e]at hs
  have:=Cq k f s hs;omega)) (λs _=>(ym hk f s).sz)
 rw[e]at h1
 have h1:Fn prog 73 [iC .i64 3,dN k,dN [],cU f] (sK (cW k f)):=h1
 clear hk
 generalize cW k f=R at *
 refine fi func27 ntmps27 ?_
 (refine au h1 ?_)
 exact oo
theorem AV (s:Sta)(hB:WB s) :
 Fn prog 8 [kq s] (dE (oA s)):=by
 obtain⟨b1,b2,b3,b4,b5⟩:=hB
 have a1:=nx s.flt ae (decide (bT s.flt)) aA
 have a2:=QS s.its b5 ae (fV s.its) m6
 have a3:=lV s.know (dP b2) (decide (aY s.know)) aA
 by_cases c1:(1<=s.id/\s.id<=16)/\(0<=s.cnt/\s.cnt<=1099511627776)
 ·by_cases c2:bT s.flt/\s.its.length<=4096/\fV s.its=true/\aY s.know
  ·obtain⟨d1,d2,d3,d4⟩:=c2
   have hall:s.its.all dA=true:=by grind[fV]
   have hT:oA s=(decide (cW s.know s.flt=s.know)&&decide (mb s.know s.id<=s.cnt)&&jw s.its&&s.its.all (λx=>cz s.flt x.key&&cq s.know x.key x.rep x.cnt)):=by grind[oA]
   rw[hT]
   clear hT
   rw[aao d1]at a1
   rw[d3]at a2
   rw[aao d4]at a3
   have a4:=(tj s.know s.flt b2 b3 ae).frz
   have hmid:fe (cW s.know s.flt):=Fd b2 ae
   have a5:=Hj (cW s.know s.flt) s.know hmid
   have a6:=RH s.know s.id b2
   have a7:=Mk s.its b4
   have a8:∀x:ByteArray,x.size<=1000000000->Fn prog 30 [cU s.flt,sC x] (dE (cz s.flt x)):=λx hx=>ly s.flt x ae hx
   have a9:∀(x:ByteArray)(r c:Int),x.size<=1000000000->Fn prog 31 [dN s.know,sC x,vb r c] (dE (cq s.know x r c)):=λx r c hx=>J6 s.know x r c (dP b2) hx
   clear hall d1 d3 d4 hmid b2
   generalize cW s.know s.flt=RK at *
   generalize hq1:decide (RK=s.know)=q1 at *
   generalize hq2:mb s.know s.id=mk at *
   generalize jw s.its=q3 at *
   clear hq1 hq2
   by_cases e:q1=true/\mk<=s.cnt/\q3=true
   ·obtain⟨rfl,e2,rfl⟩:=e
    rw[aao e2,aaX,aaX,aaX]
    refine fi func8 ntmps8 ?_
    (refine Jz a1 a2 a3 a4 a5 a6 a7 ?_;repeat' first|apply aw|refine ah λhc=>?_)
    clear a1 a2 a3 a4 a5 a6 a7
    refine aj (X:=Nat) (λi=>i<=s.its.length/\(s.its.take i).all (λx=>cz s.flt x.key&&cq s.know x.key x.rep x.cnt)=true) (λi=>aF [(1,.ptr 1 0 0),(3,iC .i64 (i:Nat))] [(1,.box 26 ((sY s).map Cnt.per))]) (λi=>s.its.length-i) 0 ⟨aag _,rfl⟩ ?_
    rintro i ⟨h1,h2⟩
    by_cases hi:i<s.its.length
    ·have hk:=b5 _ (aar hi)
     have c8:=a8 s.its[i].key hk
     have c9:=a9 s.its[i].key s.its[i].rep s.its[i].cnt hk
     have hsn:(s.its.take (i+1)).all (λx=>cz s.flt x.key&&cq s.know x.key x.rep x.cnt)=(cz s.flt s.its[i].key&&cq s.know s.its[i].key s.its[i].rep s.its[i].cnt):=by rw[bp _ i hi,List.all_append,h2];simp
     have hno:(cz s.flt s.its[i].key&&cq s.know s.its[i].key s.its[i].rep s.its[i].cnt)=false->s.its.all (λx=>cz s.flt x.key&&cq s.know x.key x.rep x.cnt)=false:=λq=>by
      rw[<-aaB,aaH]
      grind
     clear a8 a9 h2
     generalize cz s.flt s.its[i].key=x1 at *
     generalize cq s.know s.its[i].key s.its[i].rep s.its[i].cnt=x2 at *
     cases x1 with
     | false=>
      rw[hno rfl]
      clear hno hsn
      (refine bt c8 c9 ?_;repeat' first|apply aw|refine ah λhc=>?_)
      exact dz
     | true=>
      cases x2 with
      | false=>
       rw[hno rfl]
       clear hno hsn
       (refine bt c8 c9 ?_;repeat' first|apply aw|refine ah λhc=>?_)
       exact dz
      | true=>
       clear hno
       (refine bt c8 c9 ?_;repeat' first|apply aw|refine ah λhc=>?_)
       refine⟨i+1,⟨ae,hsn⟩,ae,?_⟩
       exact ab
    ·rw[aaj ae]at h2
     rw[h2]
     clear a8 a9 b5
     (refine w0 ?_;refine ah λhc=>?_)
     exact dz
   ·have hf:(q1&&decide (mk<=s.cnt)&&q3&&s.its.all (λx=>cz s.flt x.key&&cq s.know x.key x.rep x.cnt))=false:=by
     rw[<-aaB]
     grind
    rw[hf]
    clear hf a8 a9 b5
    refine fi func8 ntmps8 ?_
    (refine Jz a1 a2 a3 a4 a5 a6 a7 ?_;repeat' first|apply aw|refine ah λhc=>?_)
    all_goals first|(exfalso;exact e ⟨by assumption,ae,by assumption⟩)|skip
    all_goals refine dr ?_
    all_goals exact aP rfl rfl
  ·have hf:oA s=false:=by
    rw[<-aaB]
    grind[oA]
   rw[hf]
   have c2':¬(decide (bT s.flt)=true/\s.its.length<=4096/\fV s.its=true/\decide (aY s.know)=true):=by rw[aaI,aaI];exact c2
   clear hf c2 b2 b5
   generalize decide (bT s.flt)=d1 at *
   generalize fV s.its=d3 at *
   generalize decide (aY s.know)=d4 at *
   refine fi func8 ntmps8 ?_
   (refine fF a1 a2 a3 ?_;repeat' first|apply aw|refine ah λhc=>?_)
   all_goals first|(exfalso;exact c2' ⟨by assumption,ae,by assumption,by assumption⟩)|skip
   all_goals refine dr ?_
   all_goals exact aP rfl rfl
 ·have hf:oA s=false:=by
   rw[<-aaB]
   grind[oA]
  rw[hf]
  clear hf a1 a2 a3 b2 b5
  refine fi func8 ntmps8 ?_
  (refine w0 ?_;repeat' first|apply aw|refine ah λhc=>?_)
  all_goals first|(exfalso;exact c1 ⟨⟨ae,ae⟩,ae,ae⟩)|skip
  all_goals refine dr ?_
  all_goals exact aP rfl rfl
