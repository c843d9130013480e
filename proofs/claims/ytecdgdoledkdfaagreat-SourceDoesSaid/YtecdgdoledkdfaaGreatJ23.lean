/- Lemmas, walks. -/
import Derived.Test.YtecdgdoledkdfaaGreatJ18
set_option maxRecDepth 10000
set_option maxHeartbeats 8000000
namespace Go.Proofs.YtecdgdoledkdfaaGreat
open Go.RowKit Go.Proofs.Tryz
theorem Ml (op:Int)(a b:List Pc)(Z:List Rg)(F:ByteArray->List Kn)(ha:a.length<=500000)(hb:b.length<=500000)(hz:Z.length<=400000)(hat:∀s∈js [emB] (cV a++(cV b++Z)),Fn prog 146 [iC .i64 op,dN a,dN b,cU Z,sC s] (sE (F s)))(hF:∀s∈js [emB] (cV a++(cV b++Z)),mV (F s)) :
 Fn prog 73 [iC .i64 op,dN a,dN b,cU Z] (sK (re F (js [emB] (cV a++(cV b++Z))))):=by
 have s1:=AN a ae
 have s2:=AN b ae
 have e1:=AM (cV a) (cV b++Z) (by grind[cV]) (by grind[cV])
 have hlE:=lw (cV a++(cV b++Z)) [emB]
 have hla:(cV a).length=a.length:=by grind[cV]
 have hlb:(cV b).length=b.length:=by grind[cV]
 rw[aai,aai,hla,hlb,abx]at hlE
 have eE:True:=trivial
 generalize js [emB] (cV a++(cV b++Z))=E at *
 generalize cV a=A at *
 generalize cV b=B at *
 have hl:E.length<=1000000000:=ae
 have e1:Fn prog 145 [cU A,.bor 3 (B.map rgP++Z.map rgP)] (.per (Zk E)):=by rw[<-List.map_append];exact e1
 clear eE
 generalize hR:re F E=R
 unfold re at hR
 refine fi func73 ntmps73 ?_
 (refine Wk s2 ?_)
 refine aV (bS 16 900 40 3 rfl rfl) ?_
 (refine DX e1 s1 ?_)
 refine bw (bS 11 700 112 4 rfl rfl) ?_
 clear s1 s2 e1
 refine aj (X:=Nat×List Pc) (λx=>x.1<=E.length/\x.2.length<=x.1/\((x.2=[]/\ju (el F (E.drop x.1))=R)\/∃o y,x.2=o++[y]/\mV y.set/\o++vZ y (el F (E.drop x.1))=R))
  (λx=>aF [(0,iC .i64 op),(1,dN a),(2,dN b),(3,cU Z),(10,Z6 E),(11,.row 700 0),(12,iC .i64 ((x.1:Nat):Int))] [(700,UY x.2)]) (λx=>E.length-x.1) (0,[]) ⟨aag _,aaf _,.inl ⟨rfl,by simpa using hR⟩⟩ ?_
 rintro⟨i,out⟩ ⟨g1,g0,g2⟩
 simp only at g1 g0 g2 ⊢
 clear hR
 by_cases hi:i<E.length
 ·have c1:=(hat _ (aar hi)).frz
  have htt:=hF _ (aar hi)
  have hseg:=AB F hi
  clear hat hF
  by_cases hi2:i+1<E.length
  ·rw[ET hi2]at hseg
   by_cases hL:(F E[i]).length=0
   ·rw[aae hL,aaE]at hseg
    rw[hseg]at g2
    have g2':(out=[]/\ju (el F (E.drop (i+1)))=R)\/∃o y,out=o++[y]/\mV y.set/\o++vZ y (el F (E.drop (i+1)))=R:=g2
    clear hseg g2
    (refine cE (show((i:Nat):Int)+1=((i+1:Nat):Int)by omega) c1 ?_;repeat' first|apply aw|refine ah λhc=>?_)
    refine⟨(i+1,out),⟨aL,aL,g2'⟩,aL,?_⟩
    exact ab
   ·have hseg':el F (E.drop i)=⟨⟨E[i],E[i+1],false⟩,F E[i]⟩::el F (E.drop (i+1)):=by rw[hseg,aab hL];rfl
    rw[hseg']at g2
    clear hseg hseg'
    rcases g2 with⟨ho,hm⟩|⟨o,y,ho,hy1,hm⟩
    ·subst ho
     (refine cE (show((i:Nat):Int)+1=((i+1:Nat):Int)by omega) c1 ?_;repeat' first|apply aw|refine ah λhc=>?_)
     refine⟨(i+1,[⟨⟨E[i],E[i+1],false⟩,F E[i]⟩]),⟨aL,aA,.inr ⟨[],_,rfl,htt,hm⟩⟩,aL,az (aU 700 701) (az (aU 701 700) ?_)⟩
     exact ab
    ·subst ho
     have c3:=sn y.set (F E[i]) hy1
     rw[vZ]at hm
     simp only at hm
     have hT:vz y ⟨⟨E[i],E[i+1],false⟩,F E[i]⟩=(!y.rg.op&&(decide (y.rg.hi=E[i])&&decide (y.set=F E[i]))):=rfl
     have hL1:(o++[y]).length=o.length+1:=aA
     generalize hLL:o++[y]=L at *
     have hLi:((L.length:Int)-1).toNat=o.length:=ae
     have HY:Hid ((L.map pcP)[((L.length:Int)-1).toNat]?=some (pcP y)):=Lib.hid (by
      rw[List.getElem?_map,hLi,<-hLL]
      simp)
     by_cases co:y.rg.op=false
     ·by_cases ch:y.rg.hi=E[i]
      ·have hEq:=(iw _ _).2 ch
       by_cases d:y.set=F E[i]
       ·have HS1:Hid ((L.map pcP).set ((L.length:Int)-1).toNat (cN (pcP y) 1 [ai (.string E[i+1])])=(o++[(⟨⟨y.rg.lo,E[i+1],y.rg.op⟩,y.set⟩:Pc)]).map pcP):=Lib.hid (by rw[show(L.map pcP).set ((L.length:Int)-1).toNat (cN (pcP y) 1 [ai (.string E[i+1])])=(L.set ((L.length:Int)-1).toNat ⟨⟨y.rg.lo,E[i+1],y.rg.op⟩,y.set⟩).map pcP from iB pcP L _ (⟨⟨y.rg.lo,E[i+1],y.rg.op⟩,y.set⟩:Pc),<-hLL,jZ o y _ [] _ (by rw[hLL];omega)])
        have HY2:Hid (((o++[(⟨⟨y.rg.lo,E[i+1],y.rg.op⟩,y.set⟩:Pc)]).map pcP)[((L.length:Int)-1).toNat]?=some (pcP ⟨⟨y.rg.lo,E[i+1],y.rg.op⟩,y.set⟩)):=Lib.hid (by
         rw[List.getElem?_map,hLi]
         simp)
        have HS2:Hid (((o++[(⟨⟨y.rg.lo,E[i+1],y.rg.op⟩,y.set⟩:Pc)]).map pcP).set ((L.length:Int)-1).toNat (cN (pcP ⟨⟨y.rg.lo,E[i+1],y.rg.op⟩,y.set⟩) 2 [ai (.bool false)])=(o++[(⟨⟨y.rg.lo,E[i+1],false⟩,y.set⟩:Pc)]).map pcP):=Lib.hid (by rw[show((o++[(⟨⟨y.rg.lo,E[i+1],y.rg.op⟩,y.set⟩:Pc)]).map pcP).set ((L.length:Int)-1).toNat (cN (pcP ⟨⟨y.rg.lo,E[i+1],y.rg.op⟩,y.set⟩) 2 [ai (.bool false)])=((o++[(⟨⟨y.rg.lo,E[i+1],y.rg.op⟩,y.set⟩:Pc)]).set ((L.length:Int)-1).toNat ⟨⟨y.rg.lo,E[i+1],false⟩,y.set⟩).map pcP from iB pcP (o++[(⟨⟨y.rg.lo,E[i+1],y.rg.op⟩,y.set⟩:Pc)]) _ (⟨⟨y.rg.lo,E[i+1],false⟩,y.set⟩:Pc),jZ o _ _ [] _ ae])
        have hML:(o++[(⟨⟨y.rg.lo,E[i+1],false⟩,y.set⟩:Pc)]).length=L.length:=by rw[<-hLL];simp
        have hML2:(o++[(⟨⟨y.rg.lo,E[i+1],y.rg.op⟩,y.set⟩:Pc)]).length=L.length:=by rw[<-hLL];simp
        rw[hT,co,aao ch,aao d,aae (show(!false&&(true&&true))=true from rfl)]at hm
        rw[aao d]at c3
        clear hT d
        have hmh:=Lib.hid hm
        have hLh:=Lib.hid hLL
        clear hm hLL
        (refine bz (show((i:Nat):Int)+1=((i+1:Nat):Int)by omega) c1 c3 ?_;repeat' first|apply aw|refine ah λhc=>?_|((first|apply aH rfl|apply cB rfl|apply aJ rfl|apply cC rfl);(focus (try apply ag rfl rfl rfl rfl rfl);first|((apply bn 5;(focus rfl);first|exact bV ⟨rfl,rfl,rfl⟩ rfl aS rfl rfl rfl HY.out rfl|exact aD ⟨rfl,rfl,rfl⟩ rfl aS aS rfl rfl rfl HY.out rfl rfl rfl))|((apply bn 6;(focus rfl);first|exact aW ⟨rfl,rfl⟩ rfl aS rfl rfl rfl rfl HY.out rfl (bd rfl rfl rfl) rfl HS1.out|exact aW ⟨rfl,rfl⟩ rfl aS rfl rfl rfl rfl HY2.out rfl (bd rfl rfl rfl) rfl HS2.out)));refine bz (show((i:Nat):Int)+1=((i+1:Nat):Int)by omega) c1 c3 ?_))
        all_goals first
         | (refine⟨(i+1,o++[⟨⟨y.rg.lo,E[i+1],false⟩,y.set⟩]),⟨aL,aL,.inr ⟨o,_,rfl,hy1,hmh.out⟩⟩,aL,?_⟩
            exact ab)
       ·rw[hT,co,aao ch,aap d,aab (show ¬(!false&&(true&&false))=true by decide)]at hm
        rw[aap d]at c3
        clear hT d
        have hmh:=Lib.hid hm
        have hLh:=Lib.hid hLL
        clear hm hLL
        (refine bz (show((i:Nat):Int)+1=((i+1:Nat):Int)by omega) c1 c3 ?_;repeat' first|apply aw|refine ah λhc=>?_|((first|apply aH rfl|apply aJ rfl);(focus (try apply ag rfl rfl rfl rfl rfl);((apply bn 5;(focus rfl);first|exact bV ⟨rfl,rfl,rfl⟩ rfl aS rfl rfl rfl HY.out rfl|exact aD ⟨rfl,rfl,rfl⟩ rfl aS aS rfl rfl rfl HY.out rfl rfl rfl)));refine bz (show((i:Nat):Int)+1=((i+1:Nat):Int)by omega) c1 c3 ?_))
        all_goals first
         | (refine⟨(i+1,L++[⟨⟨E[i],E[i+1],false⟩,F E[i]⟩]),⟨aL,bD,.inr ⟨L,_,rfl,htt,by simp only;rw[<-hLh.out,aal];exact hmh.out⟩⟩,aL,az (aU 700 701) (az (aU 701 700) ?_)⟩
            exact ab)
      ·have hNe:=λq=>ch ((iw _ _).1 q)
       rw[hT,co,aap ch,aa2,abs,aab (show ¬false=true by decide)]at hm
       clear hT
       have hmh:=Lib.hid hm
       have hLh:=Lib.hid hLL
       clear hm hLL
       (refine bz (show((i:Nat):Int)+1=((i+1:Nat):Int)by omega) c1 c3 ?_;repeat' first|apply aw|refine ah λhc=>?_|((first|apply aH rfl|apply aJ rfl);(focus (try apply ag rfl rfl rfl rfl rfl);((apply bn 5;(focus rfl);first|exact bV ⟨rfl,rfl,rfl⟩ rfl aS rfl rfl rfl HY.out rfl|exact aD ⟨rfl,rfl,rfl⟩ rfl aS aS rfl rfl rfl HY.out rfl rfl rfl)));refine bz (show((i:Nat):Int)+1=((i+1:Nat):Int)by omega) c1 c3 ?_))
       all_goals first
        | (refine⟨(i+1,L++[⟨⟨E[i],E[i+1],false⟩,F E[i]⟩]),⟨aL,bD,.inr ⟨L,_,rfl,htt,by simp only;rw[<-hLh.out,aal];exact hmh.out⟩⟩,aL,az (aU 700 701) (az (aU 701 700) ?_)⟩
           exact ab)
     ·have co:y.rg.op=true:=by simpa using co
      rw[hT,co,Bool.not_true,aa2,aab (show ¬false=true by decide)]at hm
      clear hT
      have hmh:=Lib.hid hm
      have hLh:=Lib.hid hLL
      clear hm hLL
      (refine bz (show((i:Nat):Int)+1=((i+1:Nat):Int)by omega) c1 c3 ?_;repeat' first|apply aw|refine ah λhc=>?_|((first|apply aH rfl|apply aJ rfl);(focus (try apply ag rfl rfl rfl rfl rfl);((apply bn 5;(focus rfl);first|exact bV ⟨rfl,rfl,rfl⟩ rfl aS rfl rfl rfl HY.out rfl|exact aD ⟨rfl,rfl,rfl⟩ rfl aS aS rfl rfl rfl HY.out rfl rfl rfl)));refine bz (show((i:Nat):Int)+1=((i+1:Nat):Int)by omega) c1 c3 ?_))
      all_goals first
       | (refine⟨(i+1,L++[⟨⟨E[i],E[i+1],false⟩,F E[i]⟩]),⟨aL,bD,.inr ⟨L,_,rfl,htt,by simp only;rw[<-hLh.out,aal];exact hmh.out⟩⟩,aL,az (aU 700 701) (az (aU 701 700) ?_)⟩
          exact ab)
  ·rw[AC hi2]at hseg
   by_cases hL:(F E[i]).length=0
   ·rw[aae hL,aaE]at hseg
    rw[hseg]at g2
    have g2':(out=[]/\ju (el F (E.drop (i+1)))=R)\/∃o y,out=o++[y]/\mV y.set/\o++vZ y (el F (E.drop (i+1)))=R:=g2
    clear hseg g2
    (refine cE (show((i:Nat):Int)+1=((i+1:Nat):Int)by omega) c1 ?_;repeat' first|apply aw|refine ah λhc=>?_)
    refine⟨(i+1,out),⟨aL,aL,g2'⟩,aL,?_⟩
    exact ab
   ·have hseg':el F (E.drop i)=⟨⟨E[i],emB,true⟩,F E[i]⟩::el F (E.drop (i+1)):=by rw[hseg,aab hL];rfl
    rw[hseg']at g2
    clear hseg hseg'
    rcases g2 with⟨ho,hm⟩|⟨o,y,ho,hy1,hm⟩
    ·subst ho
     (refine cE (show((i:Nat):Int)+1=((i+1:Nat):Int)by omega) c1 ?_;repeat' first|apply aw|refine ah λhc=>?_)
     refine⟨(i+1,[⟨⟨E[i],emB,true⟩,F E[i]⟩]),⟨aL,aA,.inr ⟨[],_,rfl,htt,hm⟩⟩,aL,az (aU 700 701) (az (aU 701 700) ?_)⟩
     exact ab
    ·subst ho
     have c3:=sn y.set (F E[i]) hy1
     rw[vZ]at hm
     simp only at hm
     have hT:vz y ⟨⟨E[i],emB,true⟩,F E[i]⟩=(!y.rg.op&&(decide (y.rg.hi=E[i])&&decide (y.set=F E[i]))):=rfl
     have hL1:(o++[y]).length=o.length+1:=aA
     generalize hLL:o++[y]=L at *
     have hLi:((L.length:Int)-1).toNat=o.length:=ae
     have HY:Hid ((L.map pcP)[((L.length:Int)-1).toNat]?=some (pcP y)):=Lib.hid (by
      rw[List.getElem?_map,hLi,<-hLL]
      simp)
     by_cases co:y.rg.op=false
     ·by_cases ch:y.rg.hi=E[i]
      ·have hEq:=(iw _ _).2 ch
       by_cases d:y.set=F E[i]
       ·have HS1:Hid ((L.map pcP).set ((L.length:Int)-1).toNat (cN (pcP y) 1 [ai (.string emB)])=(o++[(⟨⟨y.rg.lo,emB,y.rg.op⟩,y.set⟩:Pc)]).map pcP):=Lib.hid (by rw[show(L.map pcP).set ((L.length:Int)-1).toNat (cN (pcP y) 1 [ai (.string emB)])=(L.set ((L.length:Int)-1).toNat ⟨⟨y.rg.lo,emB,y.rg.op⟩,y.set⟩).map pcP from iB pcP L _ (⟨⟨y.rg.lo,emB,y.rg.op⟩,y.set⟩:Pc),<-hLL,jZ o y _ [] _ (by rw[hLL];omega)])
        have HY2:Hid (((o++[(⟨⟨y.rg.lo,emB,y.rg.op⟩,y.set⟩:Pc)]).map pcP)[((L.length:Int)-1).toNat]?=some (pcP ⟨⟨y.rg.lo,emB,y.rg.op⟩,y.set⟩)):=Lib.hid (by
         rw[List.getElem?_map,hLi]
         simp)
        have HS2:Hid (((o++[(⟨⟨y.rg.lo,emB,y.rg.op⟩,y.set⟩:Pc)]).map pcP).set ((L.length:Int)-1).toNat (cN (pcP ⟨⟨y.rg.lo,emB,y.rg.op⟩,y.set⟩) 2 [ai (.bool true)])=(o++[(⟨⟨y.rg.lo,emB,true⟩,y.set⟩:Pc)]).map pcP):=Lib.hid (by rw[show((o++[(⟨⟨y.rg.lo,emB,y.rg.op⟩,y.set⟩:Pc)]).map pcP).set ((L.length:Int)-1).toNat (cN (pcP ⟨⟨y.rg.lo,emB,y.rg.op⟩,y.set⟩) 2 [ai (.bool true)])=((o++[(⟨⟨y.rg.lo,emB,y.rg.op⟩,y.set⟩:Pc)]).set ((L.length:Int)-1).toNat ⟨⟨y.rg.lo,emB,true⟩,y.set⟩).map pcP from iB pcP (o++[(⟨⟨y.rg.lo,emB,y.rg.op⟩,y.set⟩:Pc)]) _ (⟨⟨y.rg.lo,emB,true⟩,y.set⟩:Pc),jZ o _ _ [] _ ae])
        have hML:(o++[(⟨⟨y.rg.lo,emB,true⟩,y.set⟩:Pc)]).length=L.length:=by rw[<-hLL];simp
        have hML2:(o++[(⟨⟨y.rg.lo,emB,y.rg.op⟩,y.set⟩:Pc)]).length=L.length:=by rw[<-hLL];simp
        rw[hT,co,aao ch,aao d,aae (show(!false&&(true&&true))=true from rfl)]at hm
        rw[aao d]at c3
        clear hT d
        have hmh:=Lib.hid hm
        have hLh:=Lib.hid hLL
        clear hm hLL
        (refine bz (show((i:Nat):Int)+1=((i+1:Nat):Int)by omega) c1 c3 ?_;repeat' first|apply aw|refine ah λhc=>?_|((first|apply aH rfl|apply cB rfl|apply aJ rfl|apply cC rfl);(focus (try apply ag rfl rfl rfl rfl rfl);first|((apply bn 5;(focus rfl);first|exact bV ⟨rfl,rfl,rfl⟩ rfl aS rfl rfl rfl HY.out rfl|exact aD ⟨rfl,rfl,rfl⟩ rfl aS aS rfl rfl rfl HY.out rfl rfl rfl))|((apply bn 6;(focus rfl);first|exact aW ⟨rfl,rfl⟩ rfl aS rfl rfl rfl rfl HY.out rfl (bd rfl rfl rfl) rfl HS1.out|exact aW ⟨rfl,rfl⟩ rfl aS rfl rfl rfl rfl HY2.out rfl (bd rfl rfl rfl) rfl HS2.out)));refine bz (show((i:Nat):Int)+1=((i+1:Nat):Int)by omega) c1 c3 ?_))
        all_goals first
         | (refine⟨(i+1,o++[⟨⟨y.rg.lo,emB,true⟩,y.set⟩]),⟨aL,aL,.inr ⟨o,_,rfl,hy1,hmh.out⟩⟩,aL,?_⟩
            exact ab)
       ·rw[hT,co,aao ch,aap d,aab (show ¬(!false&&(true&&false))=true by decide)]at hm
        rw[aap d]at c3
        clear hT d
        have hmh:=Lib.hid hm
        have hLh:=Lib.hid hLL
        clear hm hLL
        (refine bz (show((i:Nat):Int)+1=((i+1:Nat):Int)by omega) c1 c3 ?_;repeat' first|apply aw|refine ah λhc=>?_|((first|apply aH rfl|apply aJ rfl);(focus (try apply ag rfl rfl rfl rfl rfl);((apply bn 5;(focus rfl);first|exact bV ⟨rfl,rfl,rfl⟩ rfl aS rfl rfl rfl HY.out rfl|exact aD ⟨rfl,rfl,rfl⟩ rfl aS aS rfl rfl rfl HY.out rfl rfl rfl)));refine bz (show((i:Nat):Int)+1=((i+1:Nat):Int)by omega) c1 c3 ?_))
        all_goals first
         | (refine⟨(i+1,L++[⟨⟨E[i],emB,true⟩,F E[i]⟩]),⟨aL,bD,.inr ⟨L,_,rfl,htt,by simp only;rw[<-hLh.out,aal];exact hmh.out⟩⟩,aL,az (aU 700 701) (az (aU 701 700) ?_)⟩
            exact ab)
      ·have hNe:=λq=>ch ((iw _ _).1 q)
       rw[hT,co,aap ch,aa2,abs,aab (show ¬false=true by decide)]at hm
       clear hT
       have hmh:=Lib.hid hm
       have hLh:=Lib.hid hLL
       clear hm hLL
       (refine bz (show((i:Nat):Int)+1=((i+1:Nat):Int)by omega) c1 c3 ?_;repeat' first|apply aw|refine ah λhc=>?_|((first|apply aH rfl|apply aJ rfl);(focus (try apply ag rfl rfl rfl rfl rfl);((apply bn 5;(focus rfl);first|exact bV ⟨rfl,rfl,rfl⟩ rfl aS rfl rfl rfl HY.out rfl|exact aD ⟨rfl,rfl,rfl⟩ rfl aS aS rfl rfl rfl HY.out rfl rfl rfl)));refine bz (show((i:Nat):Int)+1=((i+1:Nat):Int)by omega) c1 c3 ?_))
       all_goals first
        | (refine⟨(i+1,L++[⟨⟨E[i],emB,true⟩,F E[i]⟩]),⟨aL,bD,.inr ⟨L,_,rfl,htt,by simp only;rw[<-hLh.out,aal];exact hmh.out⟩⟩,aL,az (aU 700 701) (az (aU 701 700) ?_)⟩
           exact ab)
     ·have co:y.rg.op=true:=by simpa using co
      rw[hT,co,Bool.not_true,aa2,aab (show ¬false=true by decide)]at hm
      clear hT
      have hmh:=Lib.hid hm
      have hLh:=Lib.hid hLL
      clear hm hLL
      (refine bz (show((i:Nat):Int)+1=((i+1:Nat):Int)by omega) c1 c3 ?_;repeat' first|apply aw|refine ah λhc=>?_|((first|apply aH rfl|apply aJ rfl);(focus (try apply ag rfl rfl rfl rfl rfl);((apply bn 5;(focus rfl);first|exact bV ⟨rfl,rfl,rfl⟩ rfl aS rfl rfl rfl HY.out rfl|exact aD ⟨rfl,rfl,rfl⟩ rfl aS aS rfl rfl rfl HY.out rfl rfl rfl)));refine bz (show((i:Nat):Int)+1=((i+1:Nat):Int)by omega) c1 c3 ?_))
      all_goals first
       | (refine⟨(i+1,L++[⟨⟨E[i],emB,true⟩,F E[i]⟩]),⟨aL,bD,.inr ⟨L,_,rfl,htt,by simp only;rw[<-hLh.out,aal];exact hmh.out⟩⟩,aL,az (aU 700 701) (az (aU 701 700) ?_)⟩
          exact ab)
 ·have g3:out=R:=by
   rw[aay ae]at g2
   rcases g2 with⟨a,b⟩|⟨o,y,a,_,b⟩
   ·rw[a,<-b];rfl
   ·rw[a,<-b];rfl
  clear g2 hat hF
  (refine w0 ?_;refine ah λhc=>?_)
  refine dr ?_
  exact cJ rfl rfl rfl g3
