/- Texts joined: Rkm. -/
import Derived.Test.YtaclhhkblbacgaaGreatJ30
set_option maxRecDepth 10000
set_option maxHeartbeats 8000000
namespace Go.Proofs.YtaclhhkblbacgaaGreat
open Go.RowKit Go.Proofs.Tryz
theorem Js (op:Int)(a b:List Pc)(Z:List Rg)(F:ByteArray→List Kn)(ha:a.length≤500000)(hb:b.length≤500000)(hz:Z.length≤400000)(hat:∀s∈j9 [emB] (cK a++(cK b++Z)),Fn prog 141 [iC .i64 op,dC a,dC b,ec Z,sC s] (qG (F s)))(hF:∀s∈j9 [emB] (cK a++(cK b++Z)),lR (F s)) :
 Fn prog 75 [iC .i64 op,dC a,dC b,ec Z] (qO (pR F (j9 [emB] (cK a++(cK b++Z))))):=by
 have s1:=ym a ab
 have s2:=ym b ab
 have e1:=Jb (cK a) (cK b++Z) (by unfold cK;rw[V7];omega) (by unfold cK;rw[V5,V7];omega)
 have hlE:=lY (cK a++(cK b++Z)) [emB]
 have hla:(cK a).length=a.length:=by unfold cK;rw[V7]
 have hlb:(cK b).length=b.length:=by unfold cK;rw[V7]
 rw[V5,V5,hla,hlb,List.length_singleton]at hlE
 have eE:True:=trivial
 generalize j9 [emB] (cK a++(cK b++Z))=E at *
 generalize cK a=A at *
 generalize cK b=B at *
 have hl:E.length≤1000000000:=ab
 have e1:Fn prog 140 [ec A,.bor 3 (B.map rgP++Z.map rgP)] (.per (U7 E)):=by rw[←List.map_append];exact e1
 clear eE
 generalize hR:pR F E=R
 unfold pR at hR
 refine fi func75 ntmps75 ?_
 (refine Ry s2 ?_)
 refine aR (bU 16 900 29 3 rfl rfl) ?_
 (refine BB e1 s1 ?_)
 refine bQ (bU 11 700 132 4 rfl rfl) ?_
 clear s1 s2 e1
 refine aj (X:=Nat×List Pc) (fun x=>x.1≤E.length∧x.2.length≤x.1∧((x.2=[]∧kr (fL F (E.drop x.1))=R)∨∃o y,x.2=o++[y]∧lR y.set∧o++wJ y (fL F (E.drop x.1))=R))
  (fun x=>ay [(0,iC .i64 op),(1,dC a),(2,dC b),(3,ec Z),(10,U8 E),(11,.row 700 0),(12,iC .i64 ((x.1:Nat):Int))] [(700,Qx x.2)]) (fun x=>E.length-x.1) (0,[]) ⟨Wa _,V8 _,.inl ⟨rfl,by simpa using hR⟩⟩ ?_
 rintro⟨i,out⟩ ⟨g1,g0,g2⟩
 simp only at g1 g0 g2 ⊢
 clear hR
 by_cases hi:i<E.length
 ·have c1:=(hat _ (Wk hi)).frz
  have htt:=hF _ (Wk hi)
  have hseg:=xY F hi
  clear hat hF
  by_cases hi2:i+1<E.length
  ·rw[CE hi2]at hseg
   by_cases hL:(F E[i]).length=0
   ·rw[V6 hL,Wu]at hseg
    rw[hseg]at g2
    have g2':(out=[]∧kr (fL F (E.drop (i+1)))=R)∨∃o y,out=o++[y]∧lR y.set∧o++wJ y (fL F (E.drop (i+1)))=R:=g2
    clear hseg g2
    (refine cF (show((i:Nat):Int)+1=((i+1:Nat):Int)by omega) c1 ?_;repeat' first|apply ah|refine ai fun hc=>?_)
    refine⟨(i+1,out),⟨aA,aA,g2'⟩,aA,?_⟩
    exact ae
   ·have hseg':fL F (E.drop i)=⟨⟨E[i],E[i+1],false⟩,F E[i]⟩::fL F (E.drop (i+1)):=by rw[hseg,V3 hL];rfl
    rw[hseg']at g2
    clear hseg hseg'
    rcases g2 with⟨ho,hm⟩|⟨o,y,ho,hy1,hm⟩
    ·subst ho
     (refine cF (show((i:Nat):Int)+1=((i+1:Nat):Int)by omega) c1 ?_;repeat' first|apply ah|refine ai fun hc=>?_)
     refine⟨(i+1,[⟨⟨E[i],E[i+1],false⟩,F E[i]⟩]),⟨aA,au,.inr ⟨[],_,rfl,htt,hm⟩⟩,aA,av (aN 700 701) (av (aN 701 700) ?_)⟩
     exact ae
    ·subst ho
     have c3:=qu y.set (F E[i]) hy1
     rw[wJ]at hm
     simp only at hm
     have hT:wI y ⟨⟨E[i],E[i+1],false⟩,F E[i]⟩=(!y.rg.op&&(decide (y.rg.hi=E[i])&&decide (y.set=F E[i]))):=rfl
     have hL1:(o++[y]).length=o.length+1:=au
     generalize hLL:o++[y]=L at *
     have hLi:((L.length:Int)-1).toNat=o.length:=ab
     have HY:Hid ((L.map pcP)[((L.length:Int)-1).toNat]?=some (pcP y)):=Lib.hid (by
      rw[List.getElem?_map,hLi,←hLL]
      simp)
     by_cases co:y.rg.op=false
     ·by_cases ch:y.rg.hi=E[i]
      ·have hEq:=(g9 _ _).2 ch
       by_cases d:y.set=F E[i]
       ·have HS1:Hid ((L.map pcP).set ((L.length:Int)-1).toNat (cH (pcP y) 1 [ak (.string E[i+1])])=(o++[(⟨⟨y.rg.lo,E[i+1],y.rg.op⟩,y.set⟩:Pc)]).map pcP):=Lib.hid (by
         rw[show(L.map pcP).set ((L.length:Int)-1).toNat (cH (pcP y) 1 [ak (.string E[i+1])])=(L.set ((L.length:Int)-1).toNat ⟨⟨y.rg.lo,E[i+1],y.rg.op⟩,y.set⟩).map pcP from ia pcP L _ (⟨⟨y.rg.lo,E[i+1],y.rg.op⟩,y.set⟩:Pc),←hLL,jC o y _ [] _ (by rw[hLL];omega)])
        have HY2:Hid (((o++[(⟨⟨y.rg.lo,E[i+1],y.rg.op⟩,y.set⟩:Pc)]).map pcP)[((L.length:Int)-1).toNat]?=some (pcP ⟨⟨y.rg.lo,E[i+1],y.rg.op⟩,y.set⟩)):=Lib.hid (by
         rw[List.getElem?_map,hLi]
         simp)
        have HS2:Hid (((o++[(⟨⟨y.rg.lo,E[i+1],y.rg.op⟩,y.set⟩:Pc)]).map pcP).set ((L.length:Int)-1).toNat (cH (pcP ⟨⟨y.rg.lo,E[i+1],y.rg.op⟩,y.set⟩) 2 [ak (.bool false)])=(o++[(⟨⟨y.rg.lo,E[i+1],false⟩,y.set⟩:Pc)]).map pcP):=Lib.hid (by
         rw[show((o++[(⟨⟨y.rg.lo,E[i+1],y.rg.op⟩,y.set⟩:Pc)]).map pcP).set ((L.length:Int)-1).toNat (cH (pcP ⟨⟨y.rg.lo,E[i+1],y.rg.op⟩,y.set⟩) 2 [ak (.bool false)])=((o++[(⟨⟨y.rg.lo,E[i+1],y.rg.op⟩,y.set⟩:Pc)]).set ((L.length:Int)-1).toNat ⟨⟨y.rg.lo,E[i+1],false⟩,y.set⟩).map pcP from ia pcP (o++[(⟨⟨y.rg.lo,E[i+1],y.rg.op⟩,y.set⟩:Pc)]) _ (⟨⟨y.rg.lo,E[i+1],false⟩,y.set⟩:Pc),jC o _ _ [] _ ab])
        have hML:(o++[(⟨⟨y.rg.lo,E[i+1],false⟩,y.set⟩:Pc)]).length=L.length:=by rw[←hLL];simp
        have hML2:(o++[(⟨⟨y.rg.lo,E[i+1],y.rg.op⟩,y.set⟩:Pc)]).length=L.length:=by rw[←hLL];simp
        rw[hT,co,Wb ch,Wb d,V6 (show(!false&&(true&&true))=true from rfl)]at hm
        rw[Wb d]at c3
        clear hT d
        have hmh:=Lib.hid hm
        have hLh:=Lib.hid hLL
        clear hm hLL
        (refine bp (show((i:Nat):Int)+1=((i+1:Nat):Int)by omega) c1 c3 ?_;repeat' first|apply ah|refine ai fun hc=>?_|((first|apply aB rfl|apply aC rfl|apply aD rfl|apply aF rfl);(focus ((try (apply bI;(focus rfl);apply ag rfl rfl rfl rfl rfl));first|((apply aZ 5;(focus rfl);first|exact bR ⟨rfl,rfl,rfl⟩ rfl inferInstance rfl rfl rfl HY.out rfl|exact ax ⟨rfl,rfl,rfl⟩ rfl inferInstance inferInstance rfl rfl rfl HY.out rfl rfl rfl))|((apply aZ 6;(focus rfl);first|exact aM ⟨rfl,rfl⟩ rfl inferInstance rfl rfl rfl rfl HY.out rfl (aY rfl rfl rfl) rfl HS1.out|exact aM ⟨rfl,rfl⟩ rfl inferInstance rfl rfl rfl rfl HY2.out rfl (aY rfl rfl rfl) rfl HS2.out))));refine bp (show((i:Nat):Int)+1=((i+1:Nat):Int)by omega) c1 c3 ?_))
        all_goals first
         | (refine⟨(i+1,o++[⟨⟨y.rg.lo,E[i+1],false⟩,y.set⟩]),⟨aA,aA,.inr ⟨o,_,rfl,hy1,hmh.out⟩⟩,aA,?_⟩
            exact ae)
       ·rw[hT,co,Wb ch,Wj d,V3 (show ¬(!false&&(true&&false))=true by decide)]at hm
        rw[Wj d]at c3
        clear hT d
        have hmh:=Lib.hid hm
        have hLh:=Lib.hid hLL
        clear hm hLL
        (refine bp (show((i:Nat):Int)+1=((i+1:Nat):Int)by omega) c1 c3 ?_;repeat' first|apply ah|refine ai fun hc=>?_|((first|apply aB rfl|apply aC rfl|apply aD rfl|apply aF rfl);(focus ((try (apply bI;(focus rfl);apply ag rfl rfl rfl rfl rfl));first|((apply aZ 5;(focus rfl);first|exact bR ⟨rfl,rfl,rfl⟩ rfl inferInstance rfl rfl rfl HY.out rfl|exact ax ⟨rfl,rfl,rfl⟩ rfl inferInstance inferInstance rfl rfl rfl HY.out rfl rfl rfl))));refine bp (show((i:Nat):Int)+1=((i+1:Nat):Int)by omega) c1 c3 ?_))
        all_goals first
         | (refine⟨(i+1,L++[⟨⟨E[i],E[i+1],false⟩,F E[i]⟩]),⟨aA,bn,.inr ⟨L,_,rfl,htt,by simp only;rw[←hLh.out,V9];exact hmh.out⟩⟩,aA,av (aN 700 701) (av (aN 701 700) ?_)⟩
            exact ae)
      ·have hNe:=fun q=>ch ((g9 _ _).1 q)
       rw[hT,co,Wj ch,WV,Xv,V3 (show ¬false=true by decide)]at hm
       clear hT
       have hmh:=Lib.hid hm
       have hLh:=Lib.hid hLL
       clear hm hLL
       (refine bp (show((i:Nat):Int)+1=((i+1:Nat):Int)by omega) c1 c3 ?_;repeat' first|apply ah|refine ai fun hc=>?_|((first|apply aB rfl|apply aC rfl|apply aD rfl|apply aF rfl);(focus ((try (apply bI;(focus rfl);apply ag rfl rfl rfl rfl rfl));first|((apply aZ 5;(focus rfl);first|exact bR ⟨rfl,rfl,rfl⟩ rfl inferInstance rfl rfl rfl HY.out rfl|exact ax ⟨rfl,rfl,rfl⟩ rfl inferInstance inferInstance rfl rfl rfl HY.out rfl rfl rfl))));refine bp (show((i:Nat):Int)+1=((i+1:Nat):Int)by omega) c1 c3 ?_))
       all_goals first
        | (refine⟨(i+1,L++[⟨⟨E[i],E[i+1],false⟩,F E[i]⟩]),⟨aA,bn,.inr ⟨L,_,rfl,htt,by simp only;rw[←hLh.out,V9];exact hmh.out⟩⟩,aA,av (aN 700 701) (av (aN 701 700) ?_)⟩
           exact ae)
     ·have co:y.rg.op=true:=by simpa using co
      rw[hT,co,Xz,WV,V3 (show ¬false=true by decide)]at hm
      clear hT
      have hmh:=Lib.hid hm
      have hLh:=Lib.hid hLL
      clear hm hLL
      (refine bp (show((i:Nat):Int)+1=((i+1:Nat):Int)by omega) c1 c3 ?_;repeat' first|apply ah|refine ai fun hc=>?_|((first|apply aB rfl|apply aC rfl|apply aD rfl|apply aF rfl);(focus ((try (apply bI;(focus rfl);apply ag rfl rfl rfl rfl rfl));first|((apply aZ 5;(focus rfl);first|exact bR ⟨rfl,rfl,rfl⟩ rfl inferInstance rfl rfl rfl HY.out rfl|exact ax ⟨rfl,rfl,rfl⟩ rfl inferInstance inferInstance rfl rfl rfl HY.out rfl rfl rfl))));refine bp (show((i:Nat):Int)+1=((i+1:Nat):Int)by omega) c1 c3 ?_))
      all_goals first
       | (refine⟨(i+1,L++[⟨⟨E[i],E[i+1],false⟩,F E[i]⟩]),⟨aA,bn,.inr ⟨L,_,rfl,htt,by simp only;rw[←hLh.out,V9];exact hmh.out⟩⟩,aA,av (aN 700 701) (av (aN 701 700) ?_)⟩
          exact ae)
  ·rw[xZ hi2]at hseg
   by_cases hL:(F E[i]).length=0
   ·rw[V6 hL,Wu]at hseg
    rw[hseg]at g2
    have g2':(out=[]∧kr (fL F (E.drop (i+1)))=R)∨∃o y,out=o++[y]∧lR y.set∧o++wJ y (fL F (E.drop (i+1)))=R:=g2
    clear hseg g2
    (refine cF (show((i:Nat):Int)+1=((i+1:Nat):Int)by omega) c1 ?_;repeat' first|apply ah|refine ai fun hc=>?_)
    refine⟨(i+1,out),⟨aA,aA,g2'⟩,aA,?_⟩
    exact ae
   ·have hseg':fL F (E.drop i)=⟨⟨E[i],emB,true⟩,F E[i]⟩::fL F (E.drop (i+1)):=by rw[hseg,V3 hL];rfl
    rw[hseg']at g2
    clear hseg hseg'
    rcases g2 with⟨ho,hm⟩|⟨o,y,ho,hy1,hm⟩
    ·subst ho
     (refine cF (show((i:Nat):Int)+1=((i+1:Nat):Int)by omega) c1 ?_;repeat' first|apply ah|refine ai fun hc=>?_)
     refine⟨(i+1,[⟨⟨E[i],emB,true⟩,F E[i]⟩]),⟨aA,au,.inr ⟨[],_,rfl,htt,hm⟩⟩,aA,av (aN 700 701) (av (aN 701 700) ?_)⟩
     exact ae
    ·subst ho
     have c3:=qu y.set (F E[i]) hy1
     rw[wJ]at hm
     simp only at hm
     have hT:wI y ⟨⟨E[i],emB,true⟩,F E[i]⟩=(!y.rg.op&&(decide (y.rg.hi=E[i])&&decide (y.set=F E[i]))):=rfl
     have hL1:(o++[y]).length=o.length+1:=au
     generalize hLL:o++[y]=L at *
     have hLi:((L.length:Int)-1).toNat=o.length:=ab
     have HY:Hid ((L.map pcP)[((L.length:Int)-1).toNat]?=some (pcP y)):=Lib.hid (by
      rw[List.getElem?_map,hLi,←hLL]
      simp)
     by_cases co:y.rg.op=false
     ·by_cases ch:y.rg.hi=E[i]
      ·have hEq:=(g9 _ _).2 ch
       by_cases d:y.set=F E[i]
       ·have HS1:Hid ((L.map pcP).set ((L.length:Int)-1).toNat (cH (pcP y) 1 [ak (.string emB)])=(o++[(⟨⟨y.rg.lo,emB,y.rg.op⟩,y.set⟩:Pc)]).map pcP):=Lib.hid (by
         rw[show(L.map pcP).set ((L.length:Int)-1).toNat (cH (pcP y) 1 [ak (.string emB)])=(L.set ((L.length:Int)-1).toNat ⟨⟨y.rg.lo,emB,y.rg.op⟩,y.set⟩).map pcP from ia pcP L _ (⟨⟨y.rg.lo,emB,y.rg.op⟩,y.set⟩:Pc),←hLL,jC o y _ [] _ (by rw[hLL];omega)])
        have HY2:Hid (((o++[(⟨⟨y.rg.lo,emB,y.rg.op⟩,y.set⟩:Pc)]).map pcP)[((L.length:Int)-1).toNat]?=some (pcP ⟨⟨y.rg.lo,emB,y.rg.op⟩,y.set⟩)):=Lib.hid (by
         rw[List.getElem?_map,hLi]
         simp)
        have HS2:Hid (((o++[(⟨⟨y.rg.lo,emB,y.rg.op⟩,y.set⟩:Pc)]).map pcP).set ((L.length:Int)-1).toNat (cH (pcP ⟨⟨y.rg.lo,emB,y.rg.op⟩,y.set⟩) 2 [ak (.bool true)])=(o++[(⟨⟨y.rg.lo,emB,true⟩,y.set⟩:Pc)]).map pcP):=Lib.hid (by
         rw[show((o++[(⟨⟨y.rg.lo,emB,y.rg.op⟩,y.set⟩:Pc)]).map pcP).set ((L.length:Int)-1).toNat (cH (pcP ⟨⟨y.rg.lo,emB,y.rg.op⟩,y.set⟩) 2 [ak (.bool true)])=((o++[(⟨⟨y.rg.lo,emB,y.rg.op⟩,y.set⟩:Pc)]).set ((L.length:Int)-1).toNat ⟨⟨y.rg.lo,emB,true⟩,y.set⟩).map pcP from ia pcP (o++[(⟨⟨y.rg.lo,emB,y.rg.op⟩,y.set⟩:Pc)]) _ (⟨⟨y.rg.lo,emB,true⟩,y.set⟩:Pc),jC o _ _ [] _ ab])
        have hML:(o++[(⟨⟨y.rg.lo,emB,true⟩,y.set⟩:Pc)]).length=L.length:=by rw[←hLL];simp
        have hML2:(o++[(⟨⟨y.rg.lo,emB,y.rg.op⟩,y.set⟩:Pc)]).length=L.length:=by rw[←hLL];simp
        rw[hT,co,Wb ch,Wb d,V6 (show(!false&&(true&&true))=true from rfl)]at hm
        rw[Wb d]at c3
        clear hT d
        have hmh:=Lib.hid hm
        have hLh:=Lib.hid hLL
        clear hm hLL
        (refine bp (show((i:Nat):Int)+1=((i+1:Nat):Int)by omega) c1 c3 ?_;repeat' first|apply ah|refine ai fun hc=>?_|((first|apply aB rfl|apply aC rfl|apply aD rfl|apply aF rfl);(focus ((try (apply bI;(focus rfl);apply ag rfl rfl rfl rfl rfl));first|((apply aZ 5;(focus rfl);first|exact bR ⟨rfl,rfl,rfl⟩ rfl inferInstance rfl rfl rfl HY.out rfl|exact ax ⟨rfl,rfl,rfl⟩ rfl inferInstance inferInstance rfl rfl rfl HY.out rfl rfl rfl))|((apply aZ 6;(focus rfl);first|exact aM ⟨rfl,rfl⟩ rfl inferInstance rfl rfl rfl rfl HY.out rfl (aY rfl rfl rfl) rfl HS1.out|exact aM ⟨rfl,rfl⟩ rfl inferInstance rfl rfl rfl rfl HY2.out rfl (aY rfl rfl rfl) rfl HS2.out))));refine bp (show((i:Nat):Int)+1=((i+1:Nat):Int)by omega) c1 c3 ?_))
        all_goals first
         | (refine⟨(i+1,o++[⟨⟨y.rg.lo,emB,true⟩,y.set⟩]),⟨aA,aA,.inr ⟨o,_,rfl,hy1,hmh.out⟩⟩,aA,?_⟩
            exact ae)
       ·rw[hT,co,Wb ch,Wj d,V3 (show ¬(!false&&(true&&false))=true by decide)]at hm
        rw[Wj d]at c3
        clear hT d
        have hmh:=Lib.hid hm
        have hLh:=Lib.hid hLL
        clear hm hLL
        (refine bp (show((i:Nat):Int)+1=((i+1:Nat):Int)by omega) c1 c3 ?_;repeat' first|apply ah|refine ai fun hc=>?_|((first|apply aB rfl|apply aC rfl|apply aD rfl|apply aF rfl);(focus ((try (apply bI;(focus rfl);apply ag rfl rfl rfl rfl rfl));first|((apply aZ 5;(focus rfl);first|exact bR ⟨rfl,rfl,rfl⟩ rfl inferInstance rfl rfl rfl HY.out rfl|exact ax ⟨rfl,rfl,rfl⟩ rfl inferInstance inferInstance rfl rfl rfl HY.out rfl rfl rfl))));refine bp (show((i:Nat):Int)+1=((i+1:Nat):Int)by omega) c1 c3 ?_))
        all_goals first
         | (refine⟨(i+1,L++[⟨⟨E[i],emB,true⟩,F E[i]⟩]),⟨aA,bn,.inr ⟨L,_,rfl,htt,by simp only;rw[←hLh.out,V9];exact hmh.out⟩⟩,aA,av (aN 700 701) (av (aN 701 700) ?_)⟩
            exact ae)
      ·have hNe:=fun q=>ch ((g9 _ _).1 q)
       rw[hT,co,Wj ch,WV,Xv,V3 (show ¬false=true by decide)]at hm
       clear hT
       have hmh:=Lib.hid hm
       have hLh:=Lib.hid hLL
       clear hm hLL
       (refine bp (show((i:Nat):Int)+1=((i+1:Nat):Int)by omega) c1 c3 ?_;repeat' first|apply ah|refine ai fun hc=>?_|((first|apply aB rfl|apply aC rfl|apply aD rfl|apply aF rfl);(focus ((try (apply bI;(focus rfl);apply ag rfl rfl rfl rfl rfl));first|((apply aZ 5;(focus rfl);first|exact bR ⟨rfl,rfl,rfl⟩ rfl inferInstance rfl rfl rfl HY.out rfl|exact ax ⟨rfl,rfl,rfl⟩ rfl inferInstance inferInstance rfl rfl rfl HY.out rfl rfl rfl))));refine bp (show((i:Nat):Int)+1=((i+1:Nat):Int)by omega) c1 c3 ?_))
       all_goals first
        | (refine⟨(i+1,L++[⟨⟨E[i],emB,true⟩,F E[i]⟩]),⟨aA,bn,.inr ⟨L,_,rfl,htt,by simp only;rw[←hLh.out,V9];exact hmh.out⟩⟩,aA,av (aN 700 701) (av (aN 701 700) ?_)⟩
           exact ae)
     ·have co:y.rg.op=true:=by simpa using co
      rw[hT,co,Xz,WV,V3 (show ¬false=true by decide)]at hm
      clear hT
      have hmh:=Lib.hid hm
      have hLh:=Lib.hid hLL
      clear hm hLL
      (refine bp (show((i:Nat):Int)+1=((i+1:Nat):Int)by omega) c1 c3 ?_;repeat' first|apply ah|refine ai fun hc=>?_|((first|apply aB rfl|apply aC rfl|apply aD rfl|apply aF rfl);(focus ((try (apply bI;(focus rfl);apply ag rfl rfl rfl rfl rfl));first|((apply aZ 5;(focus rfl);first|exact bR ⟨rfl,rfl,rfl⟩ rfl inferInstance rfl rfl rfl HY.out rfl|exact ax ⟨rfl,rfl,rfl⟩ rfl inferInstance inferInstance rfl rfl rfl HY.out rfl rfl rfl))));refine bp (show((i:Nat):Int)+1=((i+1:Nat):Int)by omega) c1 c3 ?_))
      all_goals first
       | (refine⟨(i+1,L++[⟨⟨E[i],emB,true⟩,F E[i]⟩]),⟨aA,bn,.inr ⟨L,_,rfl,htt,by simp only;rw[←hLh.out,V9];exact hmh.out⟩⟩,aA,av (aN 700 701) (av (aN 701 700) ?_)⟩
          exact ae)
 ·have g3:out=R:=by
   rw[Wv ab]at g2
   rcases g2 with⟨a,b⟩|⟨o,y,a,_,b⟩
   ·rw[a,←b];rfl
   ·rw[a,←b];rfl
  clear g2 hat hF
  (refine w0 ?_;repeat' first|apply ah|refine ai fun hc=>?_)
  refine dw ?_
  exact cJ rfl rfl rfl g3
end Go.Proofs.YtaclhhkblbacgaaGreat
