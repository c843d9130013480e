/- Texts joined: KnB. -/
import Derived.Test.YtaclhhkblbacgaaGreatJ22
set_option maxRecDepth 10000
set_option maxHeartbeats 8000000
namespace Go.Proofs.YtaclhhkblbacgaaGreat
open Go.RowKit Go.Proofs.Tryz
abbrev Qx (l:List Pc):Blk:=.row 132 4 (l.map pcP)
abbrev qO (l:List Pc):Ret:=.own 132 4 (l.map pcP)
theorem xY (F:ByteArray→List Kn){E:List ByteArray}{i:Nat}(h:i<E.length):fL F (E.drop i)=(if(F E[i]).length=0 then []else [⟨pm E[i] (E.drop (i+1)),F E[i]⟩])++fL F (E.drop (i+1)):=by
 rw[List.drop_eq_getElem_cons h,fL]
theorem CE {E:List ByteArray}{i:Nat}(h:i+1<E.length)(s:ByteArray):pm s (E.drop (i+1))=⟨s,E[i+1],false⟩:=by
 rw[List.drop_eq_getElem_cons h];rfl
theorem xZ {E:List ByteArray}{i:Nat}(h:¬i+1<E.length)(s:ByteArray):pm s (E.drop (i+1))=⟨s,emB,true⟩:=by
 rw[Wv ab];rfl
theorem CF (f:FuncId)(As:List PV)(F:ByteArray→List Kn)(E:List ByteArray)(hl:E.length≤1000000000)(hat:∀s∈E,dh prog f (sC s::As.map Cnt.per) [] (.per (Sx (F s))) [])(hF:∀s∈E,cu (F s))(hTt:∀s∈E,dx (F s)) :
 Fn prog 154 [.bor 1 (E.map strP),.per (IU f As)] (qO (pR F E)):=by
 generalize hR:pR F E=R
 unfold pR at hR
 refine fi func154 ntmps154 ?_
 (refine w0 ?_)
 refine bQ (bU 5 700 132 4 rfl rfl) ?_
 refine aj (X:=Nat×List Pc) (fun x=>x.1≤E.length∧x.2.length≤x.1∧((x.2=[]∧kr (fL F (E.drop x.1))=R)∨∃o y,x.2=o++[y]∧cu y.set∧dx y.set∧o++wJ y (fL F (E.drop x.1))=R))
  (fun x=>ay [(0,.bor 1 (E.map strP)),(1,.per (IU f As)),(5,.row 700 0),(11,.bor 1 (E.map strP)),(12,iC .i64 (E.length:Nat)),(13,iC .i64 ((x.1:Nat):Int))] [(700,Qx x.2)]) (fun x=>E.length-x.1) (0,[]) ⟨Wa _,V8 _,.inl ⟨rfl,by simpa using hR⟩⟩ ?_
 rintro⟨i,out⟩ ⟨g1,g0,g2⟩
 simp only at g1 g0 g2 ⊢
 clear hR
 by_cases hi:i<E.length
 ·have c1:=hat _ (Wk hi)
  have hok:=hF _ (Wk hi)
  have htt:=hTt _ (Wk hi)
  have hseg:=xY F hi
  clear hat hF hTt
  by_cases hi2:i+1<E.length
  ·rw[CE hi2]at hseg
   by_cases hL:(F E[i]).length=0
   ·rw[V6 hL,Wu]at hseg
    rw[hseg]at g2
    have g2':(out=[]∧kr (fL F (E.drop (i+1)))=R)∨∃o y,out=o++[y]∧cu y.set∧dx y.set∧o++wJ y (fL F (E.drop (i+1)))=R:=g2
    clear hseg g2
    (refine eT (show((i:Nat):Int)+1=((i+1:Nat):Int)by omega) ?_;repeat' first|apply ah|refine ai fun hc=>?_|((first|apply aB rfl|apply aC rfl|apply aD rfl|apply aF rfl);(focus ((try (apply bI;(focus rfl);apply ag rfl rfl rfl rfl rfl));first|(exact wK [sC E[i]] c1)));refine eT (show((i:Nat):Int)+1=((i+1:Nat):Int)by omega) ?_))
    refine⟨(i+1,out),⟨aA,aA,g2'⟩,aA,?_⟩
    exact ae
   ·have hseg':fL F (E.drop i)=⟨⟨E[i],E[i+1],false⟩,F E[i]⟩::fL F (E.drop (i+1)):=by rw[hseg,V3 hL];rfl
    rw[hseg']at g2
    clear hseg hseg'
    rcases g2 with⟨ho,hm⟩|⟨o,y,ho,hy1,hy2,hm⟩
    ·subst ho
     (refine eT (show((i:Nat):Int)+1=((i+1:Nat):Int)by omega) ?_;repeat' first|apply ah|refine ai fun hc=>?_|((first|apply aB rfl|apply aC rfl|apply aD rfl|apply aF rfl);(focus ((try (apply bI;(focus rfl);apply ag rfl rfl rfl rfl rfl));first|(exact wK [sC E[i]] c1)));refine eT (show((i:Nat):Int)+1=((i+1:Nat):Int)by omega) ?_))
     refine⟨(i+1,[⟨⟨E[i],E[i+1],false⟩,F E[i]⟩]),⟨aA,au,.inr ⟨[],_,rfl,hok,htt,hm⟩⟩,aA,av (aN 700 701) (av (aN 701 700) ?_)⟩
     exact ae
    ·subst ho
     have c2:=pL y.rg ⟨E[i],E[i+1],false⟩
     have c3:=pK y.set (F E[i]) hy2 htt hy1 hok
     rw[wJ]at hm
     simp only at hm
     have hT:wI y ⟨⟨E[i],E[i+1],false⟩,F E[i]⟩=(iW y.rg ⟨E[i],E[i+1],false⟩&&decide (y.set=F E[i])):=by
      unfold wI iW
      rw[Bool.and_assoc]
     have hL1:(o++[y]).length=o.length+1:=au
     generalize hLL:o++[y]=L at *
     have hLi:((L.length:Int)-1).toNat=o.length:=ab
     have HY:(L.map pcP)[((L.length:Int)-1).toNat]?=some (pcP y):=by
      rw[List.getElem?_map,hLi,←hLL]
      simp
     by_cases c:iW y.rg ⟨E[i],E[i+1],false⟩=true
     ·by_cases d:y.set=F E[i]
      ·have HS1:(L.map pcP).set ((L.length:Int)-1).toNat (cH (pcP y) 1 [ak (.string E[i+1])])=(o++[(⟨⟨y.rg.lo,E[i+1],y.rg.op⟩,y.set⟩:Pc)]).map pcP:=by
        rw[show(L.map pcP).set ((L.length:Int)-1).toNat (cH (pcP y) 1 [ak (.string E[i+1])])=(L.set ((L.length:Int)-1).toNat ⟨⟨y.rg.lo,E[i+1],y.rg.op⟩,y.set⟩).map pcP from ia pcP L _ (⟨⟨y.rg.lo,E[i+1],y.rg.op⟩,y.set⟩:Pc),←hLL,jC o y _ [] _ (by rw[hLL];omega)]
       have HY2:((o++[(⟨⟨y.rg.lo,E[i+1],y.rg.op⟩,y.set⟩:Pc)]).map pcP)[((L.length:Int)-1).toNat]?=some (pcP ⟨⟨y.rg.lo,E[i+1],y.rg.op⟩,y.set⟩):=by
        rw[List.getElem?_map,hLi]
        simp
       have HS2:((o++[(⟨⟨y.rg.lo,E[i+1],y.rg.op⟩,y.set⟩:Pc)]).map pcP).set ((L.length:Int)-1).toNat (cH (pcP ⟨⟨y.rg.lo,E[i+1],y.rg.op⟩,y.set⟩) 2 [ak (.bool false)])=(o++[(⟨⟨y.rg.lo,E[i+1],false⟩,y.set⟩:Pc)]).map pcP:=by
        rw[show((o++[(⟨⟨y.rg.lo,E[i+1],y.rg.op⟩,y.set⟩:Pc)]).map pcP).set ((L.length:Int)-1).toNat (cH (pcP ⟨⟨y.rg.lo,E[i+1],y.rg.op⟩,y.set⟩) 2 [ak (.bool false)])=((o++[(⟨⟨y.rg.lo,E[i+1],y.rg.op⟩,y.set⟩:Pc)]).set ((L.length:Int)-1).toNat ⟨⟨y.rg.lo,E[i+1],false⟩,y.set⟩).map pcP from ia pcP (o++[(⟨⟨y.rg.lo,E[i+1],y.rg.op⟩,y.set⟩:Pc)]) _ (⟨⟨y.rg.lo,E[i+1],false⟩,y.set⟩:Pc),jC o _ _ [] _ ab]
       have hML:(o++[(⟨⟨y.rg.lo,E[i+1],false⟩,y.set⟩:Pc)]).length=L.length:=by rw[←hLL];simp
       have hML2:(o++[(⟨⟨y.rg.lo,E[i+1],y.rg.op⟩,y.set⟩:Pc)]).length=L.length:=by rw[←hLL];simp
       rw[hT,c,Wb d,V6 (show(true&&true)=true from rfl)]at hm
       rw[c]at c2
       rw[Wb d]at c3
       clear hT
       (refine bp (show((i:Nat):Int)+1=((i+1:Nat):Int)by omega) c2 c3 ?_;repeat' first|apply ah|refine ai fun hc=>?_|((first|apply aB rfl|apply aC rfl|apply aD rfl|apply aF rfl);(focus ((try (apply bI;(focus rfl);apply ag rfl rfl rfl rfl rfl));first|(exact wK [sC E[i]] c1)|((apply aZ 5;(focus rfl);first|exact bR ⟨rfl,rfl,rfl⟩ rfl inferInstance rfl rfl rfl HY rfl|exact ax ⟨rfl,rfl,rfl⟩ rfl inferInstance inferInstance rfl rfl rfl HY rfl rfl rfl))|((apply aZ 6;(focus rfl);first|exact aM ⟨rfl,rfl⟩ rfl inferInstance rfl rfl rfl rfl HY rfl (aY rfl rfl rfl) rfl HS1|exact aM ⟨rfl,rfl⟩ rfl inferInstance rfl rfl rfl rfl HY2 rfl (aY rfl rfl rfl) rfl HS2))));refine bp (show((i:Nat):Int)+1=((i+1:Nat):Int)by omega) c2 c3 ?_))
       refine⟨(i+1,o++[⟨⟨y.rg.lo,E[i+1],false⟩,y.set⟩]),⟨aA,aA,.inr ⟨o,_,rfl,hy1,hy2,hm⟩⟩,aA,?_⟩
       exact ae
      ·rw[hT,c,Wj d,V3 (show ¬(true&&false)=true by decide)]at hm
       rw[c]at c2
       rw[Wj d]at c3
       clear hT
       (refine bp (show((i:Nat):Int)+1=((i+1:Nat):Int)by omega) c2 c3 ?_;repeat' first|apply ah|refine ai fun hc=>?_|((first|apply aB rfl|apply aC rfl|apply aD rfl|apply aF rfl);(focus ((try (apply bI;(focus rfl);apply ag rfl rfl rfl rfl rfl));first|(exact wK [sC E[i]] c1)|((apply aZ 5;(focus rfl);first|exact bR ⟨rfl,rfl,rfl⟩ rfl inferInstance rfl rfl rfl HY rfl|exact ax ⟨rfl,rfl,rfl⟩ rfl inferInstance inferInstance rfl rfl rfl HY rfl rfl rfl))));refine bp (show((i:Nat):Int)+1=((i+1:Nat):Int)by omega) c2 c3 ?_))
       refine⟨(i+1,L++[⟨⟨E[i],E[i+1],false⟩,F E[i]⟩]),⟨aA,bn,.inr ⟨L,_,rfl,hok,htt,by simp only;rw[←hLL,V9];exact hm⟩⟩,aA,av (aN 700 701) (av (aN 701 700) ?_)⟩
       exact ae
     ·have c:iW y.rg ⟨E[i],E[i+1],false⟩=false:=by simpa using c
      rw[hT,c,WV,V3 (show ¬false=true by decide)]at hm
      rw[c]at c2
      clear hT c3
      (refine cF (show((i:Nat):Int)+1=((i+1:Nat):Int)by omega) c2 ?_;repeat' first|apply ah|refine ai fun hc=>?_|((first|apply aB rfl|apply aC rfl|apply aD rfl|apply aF rfl);(focus ((try (apply bI;(focus rfl);apply ag rfl rfl rfl rfl rfl));first|(exact wK [sC E[i]] c1)|((apply aZ 5;(focus rfl);first|exact bR ⟨rfl,rfl,rfl⟩ rfl inferInstance rfl rfl rfl HY rfl|exact ax ⟨rfl,rfl,rfl⟩ rfl inferInstance inferInstance rfl rfl rfl HY rfl rfl rfl))));refine cF (show((i:Nat):Int)+1=((i+1:Nat):Int)by omega) c2 ?_))
      refine⟨(i+1,L++[⟨⟨E[i],E[i+1],false⟩,F E[i]⟩]),⟨aA,bn,.inr ⟨L,_,rfl,hok,htt,by simp only;rw[←hLL,V9];exact hm⟩⟩,aA,av (aN 700 701) (av (aN 701 700) ?_)⟩
      exact ae
  ·rw[xZ hi2]at hseg
   by_cases hL:(F E[i]).length=0
   ·rw[V6 hL,Wu]at hseg
    rw[hseg]at g2
    have g2':(out=[]∧kr (fL F (E.drop (i+1)))=R)∨∃o y,out=o++[y]∧cu y.set∧dx y.set∧o++wJ y (fL F (E.drop (i+1)))=R:=g2
    clear hseg g2
    (refine w0 ?_;repeat' first|apply ah|refine ai fun hc=>?_|((first|apply aB rfl|apply aC rfl|apply aD rfl|apply aF rfl);(focus ((try (apply bI;(focus rfl);apply ag rfl rfl rfl rfl rfl));first|(exact wK [sC E[i]] c1)));refine w0 ?_))
    refine⟨(i+1,out),⟨aA,aA,g2'⟩,aA,?_⟩
    exact ae
   ·have hseg':fL F (E.drop i)=⟨⟨E[i],emB,true⟩,F E[i]⟩::fL F (E.drop (i+1)):=by rw[hseg,V3 hL];rfl
    rw[hseg']at g2
    clear hseg hseg'
    rcases g2 with⟨ho,hm⟩|⟨o,y,ho,hy1,hy2,hm⟩
    ·subst ho
     (refine w0 ?_;repeat' first|apply ah|refine ai fun hc=>?_|((first|apply aB rfl|apply aC rfl|apply aD rfl|apply aF rfl);(focus ((try (apply bI;(focus rfl);apply ag rfl rfl rfl rfl rfl));first|(exact wK [sC E[i]] c1)));refine w0 ?_))
     refine⟨(i+1,[⟨⟨E[i],emB,true⟩,F E[i]⟩]),⟨aA,au,.inr ⟨[],_,rfl,hok,htt,hm⟩⟩,aA,av (aN 700 701) (av (aN 701 700) ?_)⟩
     exact ae
    ·subst ho
     have c2:=pL y.rg ⟨E[i],emB,true⟩
     have c3:=pK y.set (F E[i]) hy2 htt hy1 hok
     rw[wJ]at hm
     simp only at hm
     have hT:wI y ⟨⟨E[i],emB,true⟩,F E[i]⟩=(iW y.rg ⟨E[i],emB,true⟩&&decide (y.set=F E[i])):=by
      unfold wI iW
      rw[Bool.and_assoc]
     have hL1:(o++[y]).length=o.length+1:=au
     generalize hLL:o++[y]=L at *
     have hLi:((L.length:Int)-1).toNat=o.length:=ab
     have HY:(L.map pcP)[((L.length:Int)-1).toNat]?=some (pcP y):=by
      rw[List.getElem?_map,hLi,←hLL]
      simp
     by_cases c:iW y.rg ⟨E[i],emB,true⟩=true
     ·by_cases d:y.set=F E[i]
      ·have HS1:(L.map pcP).set ((L.length:Int)-1).toNat (cH (pcP y) 1 [ak (.string emB)])=(o++[(⟨⟨y.rg.lo,emB,y.rg.op⟩,y.set⟩:Pc)]).map pcP:=by
        rw[show(L.map pcP).set ((L.length:Int)-1).toNat (cH (pcP y) 1 [ak (.string emB)])=(L.set ((L.length:Int)-1).toNat ⟨⟨y.rg.lo,emB,y.rg.op⟩,y.set⟩).map pcP from ia pcP L _ (⟨⟨y.rg.lo,emB,y.rg.op⟩,y.set⟩:Pc),←hLL,jC o y _ [] _ (by rw[hLL];omega)]
       have HY2:((o++[(⟨⟨y.rg.lo,emB,y.rg.op⟩,y.set⟩:Pc)]).map pcP)[((L.length:Int)-1).toNat]?=some (pcP ⟨⟨y.rg.lo,emB,y.rg.op⟩,y.set⟩):=by
        rw[List.getElem?_map,hLi]
        simp
       have HS2:((o++[(⟨⟨y.rg.lo,emB,y.rg.op⟩,y.set⟩:Pc)]).map pcP).set ((L.length:Int)-1).toNat (cH (pcP ⟨⟨y.rg.lo,emB,y.rg.op⟩,y.set⟩) 2 [ak (.bool true)])=(o++[(⟨⟨y.rg.lo,emB,true⟩,y.set⟩:Pc)]).map pcP:=by
        rw[show((o++[(⟨⟨y.rg.lo,emB,y.rg.op⟩,y.set⟩:Pc)]).map pcP).set ((L.length:Int)-1).toNat (cH (pcP ⟨⟨y.rg.lo,emB,y.rg.op⟩,y.set⟩) 2 [ak (.bool true)])=((o++[(⟨⟨y.rg.lo,emB,y.rg.op⟩,y.set⟩:Pc)]).set ((L.length:Int)-1).toNat ⟨⟨y.rg.lo,emB,true⟩,y.set⟩).map pcP from ia pcP (o++[(⟨⟨y.rg.lo,emB,y.rg.op⟩,y.set⟩:Pc)]) _ (⟨⟨y.rg.lo,emB,true⟩,y.set⟩:Pc),jC o _ _ [] _ ab]
       have hML:(o++[(⟨⟨y.rg.lo,emB,true⟩,y.set⟩:Pc)]).length=L.length:=by rw[←hLL];simp
       have hML2:(o++[(⟨⟨y.rg.lo,emB,y.rg.op⟩,y.set⟩:Pc)]).length=L.length:=by rw[←hLL];simp
       rw[hT,c,Wb d,V6 (show(true&&true)=true from rfl)]at hm
       rw[c]at c2
       rw[Wb d]at c3
       clear hT
       (refine bg c2 c3 ?_;repeat' first|apply ah|refine ai fun hc=>?_|((first|apply aB rfl|apply aC rfl|apply aD rfl|apply aF rfl);(focus ((try (apply bI;(focus rfl);apply ag rfl rfl rfl rfl rfl));first|(exact wK [sC E[i]] c1)|((apply aZ 5;(focus rfl);first|exact bR ⟨rfl,rfl,rfl⟩ rfl inferInstance rfl rfl rfl HY rfl|exact ax ⟨rfl,rfl,rfl⟩ rfl inferInstance inferInstance rfl rfl rfl HY rfl rfl rfl))|((apply aZ 6;(focus rfl);first|exact aM ⟨rfl,rfl⟩ rfl inferInstance rfl rfl rfl rfl HY rfl (aY rfl rfl rfl) rfl HS1|exact aM ⟨rfl,rfl⟩ rfl inferInstance rfl rfl rfl rfl HY2 rfl (aY rfl rfl rfl) rfl HS2))));refine bg c2 c3 ?_))
       refine⟨(i+1,o++[⟨⟨y.rg.lo,emB,true⟩,y.set⟩]),⟨aA,aA,.inr ⟨o,_,rfl,hy1,hy2,hm⟩⟩,aA,?_⟩
       exact ae
      ·rw[hT,c,Wj d,V3 (show ¬(true&&false)=true by decide)]at hm
       rw[c]at c2
       rw[Wj d]at c3
       clear hT
       (refine bg c2 c3 ?_;repeat' first|apply ah|refine ai fun hc=>?_|((first|apply aB rfl|apply aC rfl|apply aD rfl|apply aF rfl);(focus ((try (apply bI;(focus rfl);apply ag rfl rfl rfl rfl rfl));first|(exact wK [sC E[i]] c1)|((apply aZ 5;(focus rfl);first|exact bR ⟨rfl,rfl,rfl⟩ rfl inferInstance rfl rfl rfl HY rfl|exact ax ⟨rfl,rfl,rfl⟩ rfl inferInstance inferInstance rfl rfl rfl HY rfl rfl rfl))));refine bg c2 c3 ?_))
       refine⟨(i+1,L++[⟨⟨E[i],emB,true⟩,F E[i]⟩]),⟨aA,bn,.inr ⟨L,_,rfl,hok,htt,by simp only;rw[←hLL,V9];exact hm⟩⟩,aA,av (aN 700 701) (av (aN 701 700) ?_)⟩
       exact ae
     ·have c:iW y.rg ⟨E[i],emB,true⟩=false:=by simpa using c
      rw[hT,c,WV,V3 (show ¬false=true by decide)]at hm
      rw[c]at c2
      clear hT c3
      (refine aq c2 ?_;repeat' first|apply ah|refine ai fun hc=>?_|((first|apply aB rfl|apply aC rfl|apply aD rfl|apply aF rfl);(focus ((try (apply bI;(focus rfl);apply ag rfl rfl rfl rfl rfl));first|(exact wK [sC E[i]] c1)|((apply aZ 5;(focus rfl);first|exact bR ⟨rfl,rfl,rfl⟩ rfl inferInstance rfl rfl rfl HY rfl|exact ax ⟨rfl,rfl,rfl⟩ rfl inferInstance inferInstance rfl rfl rfl HY rfl rfl rfl))));refine aq c2 ?_))
      refine⟨(i+1,L++[⟨⟨E[i],emB,true⟩,F E[i]⟩]),⟨aA,bn,.inr ⟨L,_,rfl,hok,htt,by simp only;rw[←hLL,V9];exact hm⟩⟩,aA,av (aN 700 701) (av (aN 701 700) ?_)⟩
      exact ae
 ·have g3:out=R:=by
   rw[Wv ab]at g2
   rcases g2 with⟨a,b⟩|⟨o,y,a,_,_,b⟩
   ·rw[a,←b];rfl
   ·rw[a,←b];rfl
  clear g2 hat hF hTt
  (refine w0 ?_;repeat' first|apply ah|refine ai fun hc=>?_)
  refine dw ?_
  exact cJ rfl rfl rfl g3
end Go.Proofs.YtaclhhkblbacgaaGreat
