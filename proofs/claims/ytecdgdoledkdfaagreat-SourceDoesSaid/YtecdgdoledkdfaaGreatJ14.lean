/- Lemmas, walks. -/
import Derived.Test.YtecdgdoledkdfaaGreatJ13
set_option maxRecDepth 10000
set_option maxHeartbeats 8000000
namespace Go.Proofs.YtecdgdoledkdfaaGreat
open Go.RowKit Go.Proofs.Tryz
abbrev UY (l:List Pc):Blk:=.row 112 4 (l.map pcP)
abbrev sK (l:List Pc):Ret:=.own 112 4 (l.map pcP)
theorem AB (F:ByteArray->List Kn){E:List ByteArray}{i:Nat}(h:i<E.length):el F (E.drop i)=(if(F E[i]).length=0 then []else [⟨ip E[i] (E.drop (i+1)),F E[i]⟩])++el F (E.drop (i+1)):=by rw[List.drop_eq_getElem_cons h,el]
theorem ET {E:List ByteArray}{i:Nat}(h:i+1<E.length)(s:ByteArray):ip s (E.drop (i+1))=⟨s,E[i+1],false⟩:=by rw[List.drop_eq_getElem_cons h];rfl
theorem AC {E:List ByteArray}{i:Nat}(h:¬i+1<E.length)(s:ByteArray):ip s (E.drop (i+1))=⟨s,emB,true⟩:=by rw[aay ae];rfl
theorem EU (f:FuncId)(As:List PV)(F:ByteArray->List Kn)(E:List ByteArray)(hl:E.length<=1000000000)(hat:∀s∈E,bZ prog f (sC s::As.map Cnt.per) [] (.per (Xp (F s))) [])(hF:∀s∈E,ck (F s))(hTt:∀s∈E,dJ (F s)) :
 Fn prog 127 [.bor 1 (E.map strP),.per (LN f As)] (sK (re F E)):=by
 generalize hR:re F E=R
 unfold re at hR
 refine fi func127 ntmps127 ?_
 (refine w0 ?_)
 refine bw (bS 5 700 112 4 rfl rfl) ?_
 refine aj (X:=Nat×List Pc) (λx=>x.1<=E.length/\x.2.length<=x.1/\((x.2=[]/\ju (el F (E.drop x.1))=R)\/∃o y,x.2=o++[y]/\ck y.set/\dJ y.set/\o++vZ y (el F (E.drop x.1))=R))
  (λx=>aF [(0,.bor 1 (E.map strP)),(1,.per (LN f As)),(5,.row 700 0),(11,.bor 1 (E.map strP)),(12,iC .i64 (E.length:Nat)),(13,iC .i64 ((x.1:Nat):Int))] [(700,UY x.2)]) (λx=>E.length-x.1) (0,[]) ⟨aag _,aaf _,.inl ⟨rfl,by simpa using hR⟩⟩ ?_
 rintro⟨i,out⟩ ⟨g1,g0,g2⟩
 simp only at g1 g0 g2 ⊢
 clear hR
 by_cases hi:i<E.length
 ·have c1:=hat _ (aar hi)
  have hok:=hF _ (aar hi)
  have htt:=hTt _ (aar hi)
  have hseg:=AB F hi
  clear hat hF hTt
  by_cases hi2:i+1<E.length
  ·rw[ET hi2]at hseg
   by_cases hL:(F E[i]).length=0
   ·rw[aae hL,aaE]at hseg
    rw[hseg]at g2
    have g2':(out=[]/\ju (el F (E.drop (i+1)))=R)\/∃o y,out=o++[y]/\ck y.set/\dJ y.set/\o++vZ y (el F (E.drop (i+1)))=R:=g2
    clear hseg g2
    (refine eG (show((i:Nat):Int)+1=((i+1:Nat):Int)by omega) ?_;repeat' first|apply aw|refine ah λhc=>?_|((first|apply aH rfl|apply aJ rfl);(focus (try apply ag rfl rfl rfl rfl rfl);(exact zq [sC E[i]] c1));refine eG (show((i:Nat):Int)+1=((i+1:Nat):Int)by omega) ?_))
    refine⟨(i+1,out),⟨aL,aL,g2'⟩,aL,?_⟩
    exact ab
   ·have hseg':el F (E.drop i)=⟨⟨E[i],E[i+1],false⟩,F E[i]⟩::el F (E.drop (i+1)):=by rw[hseg,aab hL];rfl
    rw[hseg']at g2
    clear hseg hseg'
    rcases g2 with⟨ho,hm⟩|⟨o,y,ho,hy1,hy2,hm⟩
    ·subst ho
     (refine eG (show((i:Nat):Int)+1=((i+1:Nat):Int)by omega) ?_;repeat' first|apply aw|refine ah λhc=>?_|((first|apply aH rfl|apply aJ rfl);(focus (try apply ag rfl rfl rfl rfl rfl);(exact zq [sC E[i]] c1));refine eG (show((i:Nat):Int)+1=((i+1:Nat):Int)by omega) ?_))
     refine⟨(i+1,[⟨⟨E[i],E[i+1],false⟩,F E[i]⟩]),⟨aL,aA,.inr ⟨[],_,rfl,hok,htt,hm⟩⟩,aL,az (aU 700 701) (az (aU 701 700) ?_)⟩
     exact ab
    ·subst ho
     have c2:=rb y.rg ⟨E[i],E[i+1],false⟩
     have c3:=ra y.set (F E[i]) hy2 htt hy1 hok
     rw[vZ]at hm
     simp only at hm
     have hT:vz y ⟨⟨E[i],E[i+1],false⟩,F E[i]⟩=(jo y.rg ⟨E[i],E[i+1],false⟩&&decide (y.set=F E[i])):=by grind[vz,jo]
     have hL1:(o++[y]).length=o.length+1:=aA
     generalize hLL:o++[y]=L at *
     have hLi:((L.length:Int)-1).toNat=o.length:=ae
     have HY:(L.map pcP)[((L.length:Int)-1).toNat]?=some (pcP y):=by
      rw[List.getElem?_map,hLi,<-hLL]
      simp
     by_cases c:jo y.rg ⟨E[i],E[i+1],false⟩=true
     ·by_cases d:y.set=F E[i]
      ·have HS1:(L.map pcP).set ((L.length:Int)-1).toNat (cN (pcP y) 1 [ai (.string E[i+1])])=(o++[(⟨⟨y.rg.lo,E[i+1],y.rg.op⟩,y.set⟩:Pc)]).map pcP:=by rw[show(L.map pcP).set ((L.length:Int)-1).toNat (cN (pcP y) 1 [ai (.string E[i+1])])=(L.set ((L.length:Int)-1).toNat ⟨⟨y.rg.lo,E[i+1],y.rg.op⟩,y.set⟩).map pcP from iB pcP L _ (⟨⟨y.rg.lo,E[i+1],y.rg.op⟩,y.set⟩:Pc),<-hLL,jZ o y _ [] _ (by rw[hLL];omega)]
       have HY2:((o++[(⟨⟨y.rg.lo,E[i+1],y.rg.op⟩,y.set⟩:Pc)]).map pcP)[((L.length:Int)-1).toNat]?=some (pcP ⟨⟨y.rg.lo,E[i+1],y.rg.op⟩,y.set⟩):=by
        rw[List.getElem?_map,hLi]
        simp
       have HS2:((o++[(⟨⟨y.rg.lo,E[i+1],y.rg.op⟩,y.set⟩:Pc)]).map pcP).set ((L.length:Int)-1).toNat (cN (pcP ⟨⟨y.rg.lo,E[i+1],y.rg.op⟩,y.set⟩) 2 [ai (.bool false)])=(o++[(⟨⟨y.rg.lo,E[i+1],false⟩,y.set⟩:Pc)]).map pcP:=by rw[show((o++[(⟨⟨y.rg.lo,E[i+1],y.rg.op⟩,y.set⟩:Pc)]).map pcP).set ((L.length:Int)-1).toNat (cN (pcP ⟨⟨y.rg.lo,E[i+1],y.rg.op⟩,y.set⟩) 2 [ai (.bool false)])=((o++[(⟨⟨y.rg.lo,E[i+1],y.rg.op⟩,y.set⟩:Pc)]).set ((L.length:Int)-1).toNat ⟨⟨y.rg.lo,E[i+1],false⟩,y.set⟩).map pcP from iB pcP (o++[(⟨⟨y.rg.lo,E[i+1],y.rg.op⟩,y.set⟩:Pc)]) _ (⟨⟨y.rg.lo,E[i+1],false⟩,y.set⟩:Pc),jZ o _ _ [] _ ae]
       have hML:(o++[(⟨⟨y.rg.lo,E[i+1],false⟩,y.set⟩:Pc)]).length=L.length:=by rw[<-hLL];simp
       have hML2:(o++[(⟨⟨y.rg.lo,E[i+1],y.rg.op⟩,y.set⟩:Pc)]).length=L.length:=by rw[<-hLL];simp
       rw[hT,c,aao d,aae (show(true&&true)=true from rfl)]at hm
       rw[c]at c2
       rw[aao d]at c3
       clear hT
       (refine bz (show((i:Nat):Int)+1=((i+1:Nat):Int)by omega) c2 c3 ?_;repeat' first|apply aw|refine ah λhc=>?_|((first|apply aH rfl|apply cB rfl|apply aJ rfl|apply cC rfl);(focus (try apply ag rfl rfl rfl rfl rfl);first|(exact zq [sC E[i]] c1)|((apply bn 5;(focus rfl);first|exact bV ⟨rfl,rfl,rfl⟩ rfl aS rfl rfl rfl HY rfl|exact aD ⟨rfl,rfl,rfl⟩ rfl aS aS rfl rfl rfl HY rfl rfl rfl))|((apply bn 6;(focus rfl);first|exact aW ⟨rfl,rfl⟩ rfl aS rfl rfl rfl rfl HY rfl (bd rfl rfl rfl) rfl HS1|exact aW ⟨rfl,rfl⟩ rfl aS rfl rfl rfl rfl HY2 rfl (bd rfl rfl rfl) rfl HS2)));refine bz (show((i:Nat):Int)+1=((i+1:Nat):Int)by omega) c2 c3 ?_))
       refine⟨(i+1,o++[⟨⟨y.rg.lo,E[i+1],false⟩,y.set⟩]),⟨aL,aL,.inr ⟨o,_,rfl,hy1,hy2,hm⟩⟩,aL,?_⟩
       exact ab
      ·rw[hT,c,aap d,aab (show ¬(true&&false)=true by decide)]at hm
       rw[c]at c2
       rw[aap d]at c3
       clear hT
       (refine bz (show((i:Nat):Int)+1=((i+1:Nat):Int)by omega) c2 c3 ?_;repeat' first|apply aw|refine ah λhc=>?_|((first|apply aH rfl|apply aJ rfl);(focus (try apply ag rfl rfl rfl rfl rfl);first|(exact zq [sC E[i]] c1)|((apply bn 5;(focus rfl);first|exact bV ⟨rfl,rfl,rfl⟩ rfl aS rfl rfl rfl HY rfl|exact aD ⟨rfl,rfl,rfl⟩ rfl aS aS rfl rfl rfl HY rfl rfl rfl)));refine bz (show((i:Nat):Int)+1=((i+1:Nat):Int)by omega) c2 c3 ?_))
       refine⟨(i+1,L++[⟨⟨E[i],E[i+1],false⟩,F E[i]⟩]),⟨aL,bD,.inr ⟨L,_,rfl,hok,htt,by simp only;rw[<-hLL,aal];exact hm⟩⟩,aL,az (aU 700 701) (az (aU 701 700) ?_)⟩
       exact ab
     ·have c:jo y.rg ⟨E[i],E[i+1],false⟩=false:=by simpa using c
      rw[hT,c,aa2,aab (show ¬false=true by decide)]at hm
      rw[c]at c2
      clear hT c3
      (refine cE (show((i:Nat):Int)+1=((i+1:Nat):Int)by omega) c2 ?_;repeat' first|apply aw|refine ah λhc=>?_|((first|apply aH rfl|apply aJ rfl);(focus (try apply ag rfl rfl rfl rfl rfl);first|(exact zq [sC E[i]] c1)|((apply bn 5;(focus rfl);first|exact bV ⟨rfl,rfl,rfl⟩ rfl aS rfl rfl rfl HY rfl|exact aD ⟨rfl,rfl,rfl⟩ rfl aS aS rfl rfl rfl HY rfl rfl rfl)));refine cE (show((i:Nat):Int)+1=((i+1:Nat):Int)by omega) c2 ?_))
      refine⟨(i+1,L++[⟨⟨E[i],E[i+1],false⟩,F E[i]⟩]),⟨aL,bD,.inr ⟨L,_,rfl,hok,htt,by simp only;rw[<-hLL,aal];exact hm⟩⟩,aL,az (aU 700 701) (az (aU 701 700) ?_)⟩
      exact ab
  ·rw[AC hi2]at hseg
   by_cases hL:(F E[i]).length=0
   ·rw[aae hL,aaE]at hseg
    rw[hseg]at g2
    have g2':(out=[]/\ju (el F (E.drop (i+1)))=R)\/∃o y,out=o++[y]/\ck y.set/\dJ y.set/\o++vZ y (el F (E.drop (i+1)))=R:=g2
    clear hseg g2
    (refine w0 ?_;repeat' first|apply aw|refine ah λhc=>?_|((first|apply aH rfl|apply aJ rfl);(focus (try apply ag rfl rfl rfl rfl rfl);(exact zq [sC E[i]] c1));refine w0 ?_))
    refine⟨(i+1,out),⟨aL,aL,g2'⟩,aL,?_⟩
    exact ab
   ·have hseg':el F (E.drop i)=⟨⟨E[i],emB,true⟩,F E[i]⟩::el F (E.drop (i+1)):=by rw[hseg,aab hL];rfl
    rw[hseg']at g2
    clear hseg hseg'
    rcases g2 with⟨ho,hm⟩|⟨o,y,ho,hy1,hy2,hm⟩
    ·subst ho
     (refine w0 ?_;repeat' first|apply aw|refine ah λhc=>?_|((first|apply aH rfl|apply aJ rfl);(focus (try apply ag rfl rfl rfl rfl rfl);(exact zq [sC E[i]] c1));refine w0 ?_))
     refine⟨(i+1,[⟨⟨E[i],emB,true⟩,F E[i]⟩]),⟨aL,aA,.inr ⟨[],_,rfl,hok,htt,hm⟩⟩,aL,az (aU 700 701) (az (aU 701 700) ?_)⟩
     exact ab
    ·subst ho
     have c2:=rb y.rg ⟨E[i],emB,true⟩
     have c3:=ra y.set (F E[i]) hy2 htt hy1 hok
     rw[vZ]at hm
     simp only at hm
     have hT:vz y ⟨⟨E[i],emB,true⟩,F E[i]⟩=(jo y.rg ⟨E[i],emB,true⟩&&decide (y.set=F E[i])):=by grind[vz,jo]
     have hL1:(o++[y]).length=o.length+1:=aA
     generalize hLL:o++[y]=L at *
     have hLi:((L.length:Int)-1).toNat=o.length:=ae
     have HY:(L.map pcP)[((L.length:Int)-1).toNat]?=some (pcP y):=by
      rw[List.getElem?_map,hLi,<-hLL]
      simp
     by_cases c:jo y.rg ⟨E[i],emB,true⟩=true
     ·by_cases d:y.set=F E[i]
      ·have HS1:(L.map pcP).set ((L.length:Int)-1).toNat (cN (pcP y) 1 [ai (.string emB)])=(o++[(⟨⟨y.rg.lo,emB,y.rg.op⟩,y.set⟩:Pc)]).map pcP:=by rw[show(L.map pcP).set ((L.length:Int)-1).toNat (cN (pcP y) 1 [ai (.string emB)])=(L.set ((L.length:Int)-1).toNat ⟨⟨y.rg.lo,emB,y.rg.op⟩,y.set⟩).map pcP from iB pcP L _ (⟨⟨y.rg.lo,emB,y.rg.op⟩,y.set⟩:Pc),<-hLL,jZ o y _ [] _ (by rw[hLL];omega)]
       have HY2:((o++[(⟨⟨y.rg.lo,emB,y.rg.op⟩,y.set⟩:Pc)]).map pcP)[((L.length:Int)-1).toNat]?=some (pcP ⟨⟨y.rg.lo,emB,y.rg.op⟩,y.set⟩):=by
        rw[List.getElem?_map,hLi]
        simp
       have HS2:((o++[(⟨⟨y.rg.lo,emB,y.rg.op⟩,y.set⟩:Pc)]).map pcP).set ((L.length:Int)-1).toNat (cN (pcP ⟨⟨y.rg.lo,emB,y.rg.op⟩,y.set⟩) 2 [ai (.bool true)])=(o++[(⟨⟨y.rg.lo,emB,true⟩,y.set⟩:Pc)]).map pcP:=by rw[show((o++[(⟨⟨y.rg.lo,emB,y.rg.op⟩,y.set⟩:Pc)]).map pcP).set ((L.length:Int)-1).toNat (cN (pcP ⟨⟨y.rg.lo,emB,y.rg.op⟩,y.set⟩) 2 [ai (.bool true)])=((o++[(⟨⟨y.rg.lo,emB,y.rg.op⟩,y.set⟩:Pc)]).set ((L.length:Int)-1).toNat ⟨⟨y.rg.lo,emB,true⟩,y.set⟩).map pcP from iB pcP (o++[(⟨⟨y.rg.lo,emB,y.rg.op⟩,y.set⟩:Pc)]) _ (⟨⟨y.rg.lo,emB,true⟩,y.set⟩:Pc),jZ o _ _ [] _ ae]
       have hML:(o++[(⟨⟨y.rg.lo,emB,true⟩,y.set⟩:Pc)]).length=L.length:=by rw[<-hLL];simp
       have hML2:(o++[(⟨⟨y.rg.lo,emB,y.rg.op⟩,y.set⟩:Pc)]).length=L.length:=by rw[<-hLL];simp
       rw[hT,c,aao d,aae (show(true&&true)=true from rfl)]at hm
       rw[c]at c2
       rw[aao d]at c3
       clear hT
       (refine bt c2 c3 ?_;repeat' first|apply aw|refine ah λhc=>?_|((first|apply aH rfl|apply cB rfl|apply aJ rfl|apply cC rfl);(focus (try apply ag rfl rfl rfl rfl rfl);first|(exact zq [sC E[i]] c1)|((apply bn 5;(focus rfl);first|exact bV ⟨rfl,rfl,rfl⟩ rfl aS rfl rfl rfl HY rfl|exact aD ⟨rfl,rfl,rfl⟩ rfl aS aS rfl rfl rfl HY rfl rfl rfl))|((apply bn 6;(focus rfl);first|exact aW ⟨rfl,rfl⟩ rfl aS rfl rfl rfl rfl HY rfl (bd rfl rfl rfl) rfl HS1|exact aW ⟨rfl,rfl⟩ rfl aS rfl rfl rfl rfl HY2 rfl (bd rfl rfl rfl) rfl HS2)));refine bt c2 c3 ?_))
       refine⟨(i+1,o++[⟨⟨y.rg.lo,emB,true⟩,y.set⟩]),⟨aL,aL,.inr ⟨o,_,rfl,hy1,hy2,hm⟩⟩,aL,?_⟩
       exact ab
      ·rw[hT,c,aap d,aab (show ¬(true&&false)=true by decide)]at hm
       rw[c]at c2
       rw[aap d]at c3
       clear hT
       (refine bt c2 c3 ?_;repeat' first|apply aw|refine ah λhc=>?_|((first|apply aH rfl|apply aJ rfl);(focus (try apply ag rfl rfl rfl rfl rfl);first|(exact zq [sC E[i]] c1)|((apply bn 5;(focus rfl);first|exact bV ⟨rfl,rfl,rfl⟩ rfl aS rfl rfl rfl HY rfl|exact aD ⟨rfl,rfl,rfl⟩ rfl aS aS rfl rfl rfl HY rfl rfl rfl)));refine bt c2 c3 ?_))
       refine⟨(i+1,L++[⟨⟨E[i],emB,true⟩,F E[i]⟩]),⟨aL,bD,.inr ⟨L,_,rfl,hok,htt,by simp only;rw[<-hLL,aal];exact hm⟩⟩,aL,az (aU 700 701) (az (aU 701 700) ?_)⟩
       exact ab
     ·have c:jo y.rg ⟨E[i],emB,true⟩=false:=by simpa using c
      rw[hT,c,aa2,aab (show ¬false=true by decide)]at hm
      rw[c]at c2
      clear hT c3
      (refine au c2 ?_;repeat' first|apply aw|refine ah λhc=>?_|((first|apply aH rfl|apply aJ rfl);(focus (try apply ag rfl rfl rfl rfl rfl);first|(exact zq [sC E[i]] c1)|((apply bn 5;(focus rfl);first|exact bV ⟨rfl,rfl,rfl⟩ rfl aS rfl rfl rfl HY rfl|exact aD ⟨rfl,rfl,rfl⟩ rfl aS aS rfl rfl rfl HY rfl rfl rfl)));refine au c2 ?_))
      refine⟨(i+1,L++[⟨⟨E[i],emB,true⟩,F E[i]⟩]),⟨aL,bD,.inr ⟨L,_,rfl,hok,htt,by simp only;rw[<-hLL,aal];exact hm⟩⟩,aL,az (aU 700 701) (az (aU 701 700) ?_)⟩
      exact ab
 ·have g3:out=R:=by
   rw[aay ae]at g2
   rcases g2 with⟨a,b⟩|⟨o,y,a,_,_,b⟩
   ·rw[a,<-b];rfl
   ·rw[a,<-b];rfl
  clear g2 hat hF hTt
  (refine w0 ?_;refine ah λhc=>?_)
  refine dr ?_
  exact cJ rfl rfl rfl g3
