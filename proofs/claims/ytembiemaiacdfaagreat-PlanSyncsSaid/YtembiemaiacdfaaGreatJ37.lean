/- Texts joined: Rkm. -/
import Derived.Test.YtembiemaiacdfaaGreatJ26
import Derived.Test.YtembiemaiacdfaaGreatJ05
set_option maxRecDepth 10000
set_option maxHeartbeats 8000000
namespace Go.Proofs.YtembiemaiacdfaaGreat
open Go.RowKit
section
theorem s7 (op:Int) (a b:List Pc) (Z:List Rg) (F:ByteArray → List Kn) (ha:a.length ≤ 500000) (hb:b.length ≤ 500000) (hz:Z.length ≤ 400000) (hat:∀ s ∈ gF [emB] (bB a ++ (bB b ++ Z)),Fn Tryz.prog 98 [iC .i64 op,bS a,bS b,dg Z,sC s] (kx (F s))) (hF:∀ s ∈ gF [emB] (bB a ++ (bB b ++ Z)),jB (F s)) :
   Fn Tryz.prog 51 [iC .i64 op,bS a,bS b,dg Z] (k5 (kB F (gF [emB] (bB a ++ (bB b ++ Z))))):=by
 have s1:=sI a (by omega)
 have s2:=sI b (by omega)
 have e1:=CE (bB a) (bB b ++ Z) (by unfold bB;rw [List.length_map];omega) (by unfold bB;rw [List.length_append,List.length_map];omega)
 have hlE:=jC (bB a ++ (bB b ++ Z)) [emB]
 have hla:(bB a).length = a.length:=by unfold bB;rw [List.length_map]
 have hlb:(bB b).length = b.length:=by unfold bB;rw [List.length_map]
 rw [List.length_append,List.length_append,hla,hlb,List.length_singleton] at hlE
 have eE:True:=trivial
 generalize gF [emB] (bB a ++ (bB b ++ Z)) = E at *
 generalize bB a = A at *
 generalize bB b = B at *
 have hl:E.length ≤ 1000000000:=by omega
 have e1:Fn Tryz.prog 97 [dg A,.bor 3 (B.map rgP ++ Z.map rgP)] (.per (Mm E)):=by rw [← List.map_append];exact e1
 clear eE
 generalize hR:kB F E = R
 unfold kB at hR
 refine fi Tryz.func51 Tryz.ntmps51 ?_
 (have ko1:=s2;refine w0 ?_;(repeat' first|refine W2.mk ?_ ?_|refine W1.mk fun hc=>?_);all_goals clear ko1)
 refine js (bz 16 900 82 3 rfl rfl) ?_
 (have ko1:=s1;have kc1:=e1;refine w0 ?_;(repeat' first|refine W2.mk ?_ ?_|refine W1.mk fun hc=>?_);all_goals clear kc1 ko1)
 refine ck (bz 11 700 110 4 rfl rfl) ?_
 clear s1 s2 e1
 refine ah (X:=Nat × List Pc) (fun x=>x.1 ≤ E.length ∧ x.2.length ≤ x.1 ∧ ((x.2 = [] ∧ hY (dQ F (E.drop x.1)) = R) ∨ ∃ o y,x.2 = o ++ [y] ∧ jB y.set ∧ o ++ rM y (dQ F (E.drop x.1)) = R))
   (fun x=>aN [(0,iC .i64 op),(1,bS a),(2,bS b),(3,dg Z),(10,Mn E),(11,.row 700 0),(12,iC .i64 ((x.1:Nat):Int))] [(700,I6 x.2)]) (fun x=>E.length - x.1) (0,[]) ⟨Nat.zero_le _,Nat.le_refl _,.inl ⟨rfl,by simpa using hR⟩⟩ ?_ ?_
 · exact ab
 · rintro ⟨i,out⟩ ⟨g1,g0,g2⟩
   simp only at g1 g0 g2 ⊢
   clear hR
   by_cases hi:i < E.length
   · have c1:=(hat _ (List.getElem_mem hi)).frz
     have htt:=hF _ (List.getElem_mem hi)
     have hseg:=sx F hi
     clear hat hF
     by_cases hi2:i + 1 < E.length
     · rw [wx hi2] at hseg
       by_cases hL:(F E[i]).length = 0
       · rw [if_pos hL,List.nil_append] at hseg
         rw [hseg] at g2
         have g2':(out = [] ∧ hY (dQ F (E.drop (i + 1))) = R) ∨ ∃ o y,out = o ++ [y] ∧ jB y.set ∧ o ++ rM y (dQ F (E.drop (i + 1))) = R:=g2
         clear hseg g2
         (have kc1:=c1;have ke1:=Lib.hid ((show ((i:Nat):Int) + 1 = ((i + 1:Nat):Int) by omega));refine bq ?_;(repeat' first|refine W2.mk ?_ ?_|refine W1.mk fun hc=>?_);all_goals clear ke1 kc1)
         refine ⟨(i + 1,out),⟨by simp only;omega,by simp only;omega,g2'⟩,by simp only;omega,?_⟩
         exact ab
       · have hseg':dQ F (E.drop i) = ⟨⟨E[i],E[i + 1],false⟩,F E[i]⟩ :: dQ F (E.drop (i + 1)):=by rw [hseg,if_neg hL];rfl
         rw [hseg'] at g2
         clear hseg hseg'
         rcases g2 with ⟨ho,hm⟩|⟨o,y,ho,hy1,hm⟩
         · subst ho
           (have kc1:=c1;have ke1:=Lib.hid ((show ((i:Nat):Int) + 1 = ((i + 1:Nat):Int) by omega));refine bq ?_;(repeat' first|refine W2.mk ?_ ?_|refine W1.mk fun hc=>?_);all_goals clear ke1 kc1)
           refine ⟨(i + 1,[⟨⟨E[i],E[i + 1],false⟩,F E[i]⟩]),⟨by simp only;omega,by simp,.inr ⟨[],_,rfl,htt,hm⟩⟩,by simp only;omega,ak (aM 700 701) (ak (aM 701 700) ?_)⟩
           exact ab
         · subst ho
           have c3:=m0 y.set (F E[i]) hy1
           rw [rM] at hm
           simp only at hm
           have hT:rL y ⟨⟨E[i],E[i + 1],false⟩,F E[i]⟩ = (!y.rg.op && (decide (y.rg.hi = E[i]) && decide (y.set = F E[i]))):=rfl
           have hL1:(o ++ [y]).length = o.length + 1:=by simp
           generalize hLL:o ++ [y] = L at *
           have hLi:((L.length:Int) - 1).toNat = o.length:=by omega
           have HY:Hid ((L.map pcP)[((L.length:Int) - 1).toNat]? = some (pcP y)):=Lib.hid (by
             rw [List.getElem?_map,hLi,← hLL]
             simp)
           by_cases co:y.rg.op = false
           · by_cases ch:y.rg.hi = E[i]
             · have hEq:=(gz _ _).2 ch
               by_cases d:y.set = F E[i]
               · have HS1:Hid ((L.map pcP).set ((L.length:Int) - 1).toNat (bI (pcP y) 1 [aq (.string E[i + 1])]) = (o ++ [(⟨⟨y.rg.lo,E[i + 1],y.rg.op⟩,y.set⟩:Pc)]).map pcP):=Lib.hid (by
                   rw [show (L.map pcP).set ((L.length:Int) - 1).toNat (bI (pcP y) 1 [aq (.string E[i + 1])]) = (L.set ((L.length:Int) - 1).toNat ⟨⟨y.rg.lo,E[i + 1],y.rg.op⟩,y.set⟩).map pcP from eS pcP L _ (⟨⟨y.rg.lo,E[i + 1],y.rg.op⟩,y.set⟩:Pc),← hLL,gb o y _ [] _ (by rw [hLL];omega)])
                 have HY2:Hid (((o ++ [(⟨⟨y.rg.lo,E[i + 1],y.rg.op⟩,y.set⟩:Pc)]).map pcP)[((L.length:Int) - 1).toNat]? = some (pcP ⟨⟨y.rg.lo,E[i + 1],y.rg.op⟩,y.set⟩)):=Lib.hid (by
                   rw [List.getElem?_map,hLi]
                   simp)
                 have HS2:Hid (((o ++ [(⟨⟨y.rg.lo,E[i + 1],y.rg.op⟩,y.set⟩:Pc)]).map pcP).set ((L.length:Int) - 1).toNat (bI (pcP ⟨⟨y.rg.lo,E[i + 1],y.rg.op⟩,y.set⟩) 2 [aq (.bool false)]) = (o ++ [(⟨⟨y.rg.lo,E[i + 1],false⟩,y.set⟩:Pc)]).map pcP):=Lib.hid (by
                   rw [show ((o ++ [(⟨⟨y.rg.lo,E[i + 1],y.rg.op⟩,y.set⟩:Pc)]).map pcP).set ((L.length:Int) - 1).toNat (bI (pcP ⟨⟨y.rg.lo,E[i + 1],y.rg.op⟩,y.set⟩) 2 [aq (.bool false)]) = ((o ++ [(⟨⟨y.rg.lo,E[i + 1],y.rg.op⟩,y.set⟩:Pc)]).set ((L.length:Int) - 1).toNat ⟨⟨y.rg.lo,E[i + 1],false⟩,y.set⟩).map pcP from eS pcP (o ++ [(⟨⟨y.rg.lo,E[i + 1],y.rg.op⟩,y.set⟩:Pc)]) _ (⟨⟨y.rg.lo,E[i + 1],false⟩,y.set⟩:Pc),gb o _ _ [] _ (by omega)])
                 have hML:(o ++ [(⟨⟨y.rg.lo,E[i + 1],false⟩,y.set⟩:Pc)]).length = L.length:=by rw [← hLL];simp
                 have hML2:(o ++ [(⟨⟨y.rg.lo,E[i + 1],y.rg.op⟩,y.set⟩:Pc)]).length = L.length:=by rw [← hLL];simp
                 rw [hT,co,decide_eq_true ch,decide_eq_true d,if_pos (show (!false && (true && true)) = true from rfl)] at hm
                 rw [decide_eq_true d] at c3
                 clear hT d
                 have hmh:=Lib.hid hm
                 have hLh:=Lib.hid hLL
                 clear hm hLL
                 (have kc1:=c1;have kc2:=c3;have ke1:=Lib.hid ((show ((i:Nat):Int) + 1 = ((i + 1:Nat):Int) by omega));refine bq ?_;(repeat' (first|refine W2.mk ?_ ?_|refine W1.mk fun hc=>?_|((first|apply aD rfl|apply aF rfl|apply aG rfl|apply aH rfl);(focus (first|((apply az 5;(focus rfl);first|exact aw ⟨rfl,rfl,rfl⟩ rfl inferInstance rfl rfl rfl HY.out rfl|exact ae ⟨rfl,rfl,rfl⟩ rfl inferInstance inferInstance rfl rfl rfl HY.out rfl rfl rfl))|((apply az 6;(focus rfl);first|exact al ⟨rfl,rfl⟩ rfl inferInstance rfl rfl rfl rfl HY.out rfl (aK rfl rfl rfl) rfl HS1.out|exact al ⟨rfl,rfl⟩ rfl inferInstance rfl rfl rfl rfl HY2.out rfl (aK rfl rfl rfl) rfl HS2.out))|(apply bx;(focus rfl);apply ag rfl rfl rfl rfl rfl;first|((apply az 5;(focus rfl);first|exact aw ⟨rfl,rfl,rfl⟩ rfl inferInstance rfl rfl rfl HY.out rfl|exact ae ⟨rfl,rfl,rfl⟩ rfl inferInstance inferInstance rfl rfl rfl HY.out rfl rfl rfl))|((apply az 6;(focus rfl);first|exact al ⟨rfl,rfl⟩ rfl inferInstance rfl rfl rfl rfl HY.out rfl (aK rfl rfl rfl) rfl HS1.out|exact al ⟨rfl,rfl⟩ rfl inferInstance rfl rfl rfl rfl HY2.out rfl (aK rfl rfl rfl) rfl HS2.out)))));refine bq ?_)));all_goals clear ke1 kc2 kc1)
                 all_goals first
                   | (refine ⟨(i + 1,o ++ [⟨⟨y.rg.lo,E[i + 1],false⟩,y.set⟩]),⟨by simp only;omega,by simp only;omega,.inr ⟨o,_,rfl,hy1,hmh.out⟩⟩,by simp only;omega,?_⟩
                      exact ab)
               · rw [hT,co,decide_eq_true ch,decide_eq_false d,if_neg (show ¬ (!false && (true && false)) = true by decide)] at hm
                 rw [decide_eq_false d] at c3
                 clear hT d
                 have hmh:=Lib.hid hm
                 have hLh:=Lib.hid hLL
                 clear hm hLL
                 (have kc1:=c1;have kc2:=c3;have ke1:=Lib.hid ((show ((i:Nat):Int) + 1 = ((i + 1:Nat):Int) by omega));refine bq ?_;(repeat' (first|refine W2.mk ?_ ?_|refine W1.mk fun hc=>?_|((first|apply aD rfl|apply aF rfl|apply aG rfl|apply aH rfl);(focus (first|((apply az 5;(focus rfl);first|exact aw ⟨rfl,rfl,rfl⟩ rfl inferInstance rfl rfl rfl HY.out rfl|exact ae ⟨rfl,rfl,rfl⟩ rfl inferInstance inferInstance rfl rfl rfl HY.out rfl rfl rfl))|(apply bx;(focus rfl);apply ag rfl rfl rfl rfl rfl;first|((apply az 5;(focus rfl);first|exact aw ⟨rfl,rfl,rfl⟩ rfl inferInstance rfl rfl rfl HY.out rfl|exact ae ⟨rfl,rfl,rfl⟩ rfl inferInstance inferInstance rfl rfl rfl HY.out rfl rfl rfl)))));refine bq ?_)));all_goals clear ke1 kc2 kc1)
                 all_goals first
                   | (refine ⟨(i + 1,L ++ [⟨⟨E[i],E[i + 1],false⟩,F E[i]⟩]),⟨by simp only;omega,by simp;omega,.inr ⟨L,_,rfl,htt,by simp only;rw [← hLh.out,List.append_assoc];exact hmh.out⟩⟩,by simp only;omega,ak (aM 700 701) (ak (aM 701 700) ?_)⟩
                      exact ab)
             · have hNe:=fun q=>ch ((gz _ _).1 q)
               rw [hT,co,decide_eq_false ch,Bool.false_and,Bool.and_false,if_neg (show ¬ false = true by decide)] at hm
               clear hT
               have hmh:=Lib.hid hm
               have hLh:=Lib.hid hLL
               clear hm hLL
               (have kc1:=c1;have kc2:=c3;have ke1:=Lib.hid ((show ((i:Nat):Int) + 1 = ((i + 1:Nat):Int) by omega));refine bq ?_;(repeat' (first|refine W2.mk ?_ ?_|refine W1.mk fun hc=>?_|((first|apply aD rfl|apply aF rfl|apply aG rfl|apply aH rfl);(focus (first|((apply az 5;(focus rfl);first|exact aw ⟨rfl,rfl,rfl⟩ rfl inferInstance rfl rfl rfl HY.out rfl|exact ae ⟨rfl,rfl,rfl⟩ rfl inferInstance inferInstance rfl rfl rfl HY.out rfl rfl rfl))|(apply bx;(focus rfl);apply ag rfl rfl rfl rfl rfl;first|((apply az 5;(focus rfl);first|exact aw ⟨rfl,rfl,rfl⟩ rfl inferInstance rfl rfl rfl HY.out rfl|exact ae ⟨rfl,rfl,rfl⟩ rfl inferInstance inferInstance rfl rfl rfl HY.out rfl rfl rfl)))));refine bq ?_)));all_goals clear ke1 kc2 kc1)
               all_goals first
                 | (refine ⟨(i + 1,L ++ [⟨⟨E[i],E[i + 1],false⟩,F E[i]⟩]),⟨by simp only;omega,by simp;omega,.inr ⟨L,_,rfl,htt,by simp only;rw [← hLh.out,List.append_assoc];exact hmh.out⟩⟩,by simp only;omega,ak (aM 700 701) (ak (aM 701 700) ?_)⟩
                    exact ab)
           · have co:y.rg.op = true:=by simpa using co
             rw [hT,co,Bool.not_true,Bool.false_and,if_neg (show ¬ false = true by decide)] at hm
             clear hT
             have hmh:=Lib.hid hm
             have hLh:=Lib.hid hLL
             clear hm hLL
             (have kc1:=c1;have kc2:=c3;have ke1:=Lib.hid ((show ((i:Nat):Int) + 1 = ((i + 1:Nat):Int) by omega));refine bq ?_;(repeat' (first|refine W2.mk ?_ ?_|refine W1.mk fun hc=>?_|((first|apply aD rfl|apply aF rfl|apply aG rfl|apply aH rfl);(focus (first|((apply az 5;(focus rfl);first|exact aw ⟨rfl,rfl,rfl⟩ rfl inferInstance rfl rfl rfl HY.out rfl|exact ae ⟨rfl,rfl,rfl⟩ rfl inferInstance inferInstance rfl rfl rfl HY.out rfl rfl rfl))|(apply bx;(focus rfl);apply ag rfl rfl rfl rfl rfl;first|((apply az 5;(focus rfl);first|exact aw ⟨rfl,rfl,rfl⟩ rfl inferInstance rfl rfl rfl HY.out rfl|exact ae ⟨rfl,rfl,rfl⟩ rfl inferInstance inferInstance rfl rfl rfl HY.out rfl rfl rfl)))));refine bq ?_)));all_goals clear ke1 kc2 kc1)
             all_goals first
               | (refine ⟨(i + 1,L ++ [⟨⟨E[i],E[i + 1],false⟩,F E[i]⟩]),⟨by simp only;omega,by simp;omega,.inr ⟨L,_,rfl,htt,by simp only;rw [← hLh.out,List.append_assoc];exact hmh.out⟩⟩,by simp only;omega,ak (aM 700 701) (ak (aM 701 700) ?_)⟩
                  exact ab)
     · rw [sy hi2] at hseg
       by_cases hL:(F E[i]).length = 0
       · rw [if_pos hL,List.nil_append] at hseg
         rw [hseg] at g2
         have g2':(out = [] ∧ hY (dQ F (E.drop (i + 1))) = R) ∨ ∃ o y,out = o ++ [y] ∧ jB y.set ∧ o ++ rM y (dQ F (E.drop (i + 1))) = R:=g2
         clear hseg g2
         (have kc1:=c1;have ke1:=Lib.hid ((show ((i:Nat):Int) + 1 = ((i + 1:Nat):Int) by omega));refine bq ?_;(repeat' first|refine W2.mk ?_ ?_|refine W1.mk fun hc=>?_);all_goals clear ke1 kc1)
         refine ⟨(i + 1,out),⟨by simp only;omega,by simp only;omega,g2'⟩,by simp only;omega,?_⟩
         exact ab
       · have hseg':dQ F (E.drop i) = ⟨⟨E[i],emB,true⟩,F E[i]⟩ :: dQ F (E.drop (i + 1)):=by rw [hseg,if_neg hL];rfl
         rw [hseg'] at g2
         clear hseg hseg'
         rcases g2 with ⟨ho,hm⟩|⟨o,y,ho,hy1,hm⟩
         · subst ho
           (have kc1:=c1;have ke1:=Lib.hid ((show ((i:Nat):Int) + 1 = ((i + 1:Nat):Int) by omega));refine bq ?_;(repeat' first|refine W2.mk ?_ ?_|refine W1.mk fun hc=>?_);all_goals clear ke1 kc1)
           refine ⟨(i + 1,[⟨⟨E[i],emB,true⟩,F E[i]⟩]),⟨by simp only;omega,by simp,.inr ⟨[],_,rfl,htt,hm⟩⟩,by simp only;omega,ak (aM 700 701) (ak (aM 701 700) ?_)⟩
           exact ab
         · subst ho
           have c3:=m0 y.set (F E[i]) hy1
           rw [rM] at hm
           simp only at hm
           have hT:rL y ⟨⟨E[i],emB,true⟩,F E[i]⟩ = (!y.rg.op && (decide (y.rg.hi = E[i]) && decide (y.set = F E[i]))):=rfl
           have hL1:(o ++ [y]).length = o.length + 1:=by simp
           generalize hLL:o ++ [y] = L at *
           have hLi:((L.length:Int) - 1).toNat = o.length:=by omega
           have HY:Hid ((L.map pcP)[((L.length:Int) - 1).toNat]? = some (pcP y)):=Lib.hid (by
             rw [List.getElem?_map,hLi,← hLL]
             simp)
           by_cases co:y.rg.op = false
           · by_cases ch:y.rg.hi = E[i]
             · have hEq:=(gz _ _).2 ch
               by_cases d:y.set = F E[i]
               · have HS1:Hid ((L.map pcP).set ((L.length:Int) - 1).toNat (bI (pcP y) 1 [aq (.string emB)]) = (o ++ [(⟨⟨y.rg.lo,emB,y.rg.op⟩,y.set⟩:Pc)]).map pcP):=Lib.hid (by
                   rw [show (L.map pcP).set ((L.length:Int) - 1).toNat (bI (pcP y) 1 [aq (.string emB)]) = (L.set ((L.length:Int) - 1).toNat ⟨⟨y.rg.lo,emB,y.rg.op⟩,y.set⟩).map pcP from eS pcP L _ (⟨⟨y.rg.lo,emB,y.rg.op⟩,y.set⟩:Pc),← hLL,gb o y _ [] _ (by rw [hLL];omega)])
                 have HY2:Hid (((o ++ [(⟨⟨y.rg.lo,emB,y.rg.op⟩,y.set⟩:Pc)]).map pcP)[((L.length:Int) - 1).toNat]? = some (pcP ⟨⟨y.rg.lo,emB,y.rg.op⟩,y.set⟩)):=Lib.hid (by
                   rw [List.getElem?_map,hLi]
                   simp)
                 have HS2:Hid (((o ++ [(⟨⟨y.rg.lo,emB,y.rg.op⟩,y.set⟩:Pc)]).map pcP).set ((L.length:Int) - 1).toNat (bI (pcP ⟨⟨y.rg.lo,emB,y.rg.op⟩,y.set⟩) 2 [aq (.bool true)]) = (o ++ [(⟨⟨y.rg.lo,emB,true⟩,y.set⟩:Pc)]).map pcP):=Lib.hid (by
                   rw [show ((o ++ [(⟨⟨y.rg.lo,emB,y.rg.op⟩,y.set⟩:Pc)]).map pcP).set ((L.length:Int) - 1).toNat (bI (pcP ⟨⟨y.rg.lo,emB,y.rg.op⟩,y.set⟩) 2 [aq (.bool true)]) = ((o ++ [(⟨⟨y.rg.lo,emB,y.rg.op⟩,y.set⟩:Pc)]).set ((L.length:Int) - 1).toNat ⟨⟨y.rg.lo,emB,true⟩,y.set⟩).map pcP from eS pcP (o ++ [(⟨⟨y.rg.lo,emB,y.rg.op⟩,y.set⟩:Pc)]) _ (⟨⟨y.rg.lo,emB,true⟩,y.set⟩:Pc),gb o _ _ [] _ (by omega)])
                 have hML:(o ++ [(⟨⟨y.rg.lo,emB,true⟩,y.set⟩:Pc)]).length = L.length:=by rw [← hLL];simp
                 have hML2:(o ++ [(⟨⟨y.rg.lo,emB,y.rg.op⟩,y.set⟩:Pc)]).length = L.length:=by rw [← hLL];simp
                 rw [hT,co,decide_eq_true ch,decide_eq_true d,if_pos (show (!false && (true && true)) = true from rfl)] at hm
                 rw [decide_eq_true d] at c3
                 clear hT d
                 have hmh:=Lib.hid hm
                 have hLh:=Lib.hid hLL
                 clear hm hLL
                 (have kc1:=c1;have kc2:=c3;have ke1:=Lib.hid ((show ((i:Nat):Int) + 1 = ((i + 1:Nat):Int) by omega));refine bq ?_;(repeat' (first|refine W2.mk ?_ ?_|refine W1.mk fun hc=>?_|((first|apply aD rfl|apply aF rfl|apply aG rfl|apply aH rfl);(focus (first|((apply az 5;(focus rfl);first|exact aw ⟨rfl,rfl,rfl⟩ rfl inferInstance rfl rfl rfl HY.out rfl|exact ae ⟨rfl,rfl,rfl⟩ rfl inferInstance inferInstance rfl rfl rfl HY.out rfl rfl rfl))|((apply az 6;(focus rfl);first|exact al ⟨rfl,rfl⟩ rfl inferInstance rfl rfl rfl rfl HY.out rfl (aK rfl rfl rfl) rfl HS1.out|exact al ⟨rfl,rfl⟩ rfl inferInstance rfl rfl rfl rfl HY2.out rfl (aK rfl rfl rfl) rfl HS2.out))|(apply bx;(focus rfl);apply ag rfl rfl rfl rfl rfl;first|((apply az 5;(focus rfl);first|exact aw ⟨rfl,rfl,rfl⟩ rfl inferInstance rfl rfl rfl HY.out rfl|exact ae ⟨rfl,rfl,rfl⟩ rfl inferInstance inferInstance rfl rfl rfl HY.out rfl rfl rfl))|((apply az 6;(focus rfl);first|exact al ⟨rfl,rfl⟩ rfl inferInstance rfl rfl rfl rfl HY.out rfl (aK rfl rfl rfl) rfl HS1.out|exact al ⟨rfl,rfl⟩ rfl inferInstance rfl rfl rfl rfl HY2.out rfl (aK rfl rfl rfl) rfl HS2.out)))));refine bq ?_)));all_goals clear ke1 kc2 kc1)
                 all_goals first
                   | (refine ⟨(i + 1,o ++ [⟨⟨y.rg.lo,emB,true⟩,y.set⟩]),⟨by simp only;omega,by simp only;omega,.inr ⟨o,_,rfl,hy1,hmh.out⟩⟩,by simp only;omega,?_⟩
                      exact ab)
               · rw [hT,co,decide_eq_true ch,decide_eq_false d,if_neg (show ¬ (!false && (true && false)) = true by decide)] at hm
                 rw [decide_eq_false d] at c3
                 clear hT d
                 have hmh:=Lib.hid hm
                 have hLh:=Lib.hid hLL
                 clear hm hLL
                 (have kc1:=c1;have kc2:=c3;have ke1:=Lib.hid ((show ((i:Nat):Int) + 1 = ((i + 1:Nat):Int) by omega));refine bq ?_;(repeat' (first|refine W2.mk ?_ ?_|refine W1.mk fun hc=>?_|((first|apply aD rfl|apply aF rfl|apply aG rfl|apply aH rfl);(focus (first|((apply az 5;(focus rfl);first|exact aw ⟨rfl,rfl,rfl⟩ rfl inferInstance rfl rfl rfl HY.out rfl|exact ae ⟨rfl,rfl,rfl⟩ rfl inferInstance inferInstance rfl rfl rfl HY.out rfl rfl rfl))|(apply bx;(focus rfl);apply ag rfl rfl rfl rfl rfl;first|((apply az 5;(focus rfl);first|exact aw ⟨rfl,rfl,rfl⟩ rfl inferInstance rfl rfl rfl HY.out rfl|exact ae ⟨rfl,rfl,rfl⟩ rfl inferInstance inferInstance rfl rfl rfl HY.out rfl rfl rfl)))));refine bq ?_)));all_goals clear ke1 kc2 kc1)
                 all_goals first
                   | (refine ⟨(i + 1,L ++ [⟨⟨E[i],emB,true⟩,F E[i]⟩]),⟨by simp only;omega,by simp;omega,.inr ⟨L,_,rfl,htt,by simp only;rw [← hLh.out,List.append_assoc];exact hmh.out⟩⟩,by simp only;omega,ak (aM 700 701) (ak (aM 701 700) ?_)⟩
                      exact ab)
             · have hNe:=fun q=>ch ((gz _ _).1 q)
               rw [hT,co,decide_eq_false ch,Bool.false_and,Bool.and_false,if_neg (show ¬ false = true by decide)] at hm
               clear hT
               have hmh:=Lib.hid hm
               have hLh:=Lib.hid hLL
               clear hm hLL
               (have kc1:=c1;have kc2:=c3;have ke1:=Lib.hid ((show ((i:Nat):Int) + 1 = ((i + 1:Nat):Int) by omega));refine bq ?_;(repeat' (first|refine W2.mk ?_ ?_|refine W1.mk fun hc=>?_|((first|apply aD rfl|apply aF rfl|apply aG rfl|apply aH rfl);(focus (first|((apply az 5;(focus rfl);first|exact aw ⟨rfl,rfl,rfl⟩ rfl inferInstance rfl rfl rfl HY.out rfl|exact ae ⟨rfl,rfl,rfl⟩ rfl inferInstance inferInstance rfl rfl rfl HY.out rfl rfl rfl))|(apply bx;(focus rfl);apply ag rfl rfl rfl rfl rfl;first|((apply az 5;(focus rfl);first|exact aw ⟨rfl,rfl,rfl⟩ rfl inferInstance rfl rfl rfl HY.out rfl|exact ae ⟨rfl,rfl,rfl⟩ rfl inferInstance inferInstance rfl rfl rfl HY.out rfl rfl rfl)))));refine bq ?_)));all_goals clear ke1 kc2 kc1)
               all_goals first
                 | (refine ⟨(i + 1,L ++ [⟨⟨E[i],emB,true⟩,F E[i]⟩]),⟨by simp only;omega,by simp;omega,.inr ⟨L,_,rfl,htt,by simp only;rw [← hLh.out,List.append_assoc];exact hmh.out⟩⟩,by simp only;omega,ak (aM 700 701) (ak (aM 701 700) ?_)⟩
                    exact ab)
           · have co:y.rg.op = true:=by simpa using co
             rw [hT,co,Bool.not_true,Bool.false_and,if_neg (show ¬ false = true by decide)] at hm
             clear hT
             have hmh:=Lib.hid hm
             have hLh:=Lib.hid hLL
             clear hm hLL
             (have kc1:=c1;have kc2:=c3;have ke1:=Lib.hid ((show ((i:Nat):Int) + 1 = ((i + 1:Nat):Int) by omega));refine bq ?_;(repeat' (first|refine W2.mk ?_ ?_|refine W1.mk fun hc=>?_|((first|apply aD rfl|apply aF rfl|apply aG rfl|apply aH rfl);(focus (first|((apply az 5;(focus rfl);first|exact aw ⟨rfl,rfl,rfl⟩ rfl inferInstance rfl rfl rfl HY.out rfl|exact ae ⟨rfl,rfl,rfl⟩ rfl inferInstance inferInstance rfl rfl rfl HY.out rfl rfl rfl))|(apply bx;(focus rfl);apply ag rfl rfl rfl rfl rfl;first|((apply az 5;(focus rfl);first|exact aw ⟨rfl,rfl,rfl⟩ rfl inferInstance rfl rfl rfl HY.out rfl|exact ae ⟨rfl,rfl,rfl⟩ rfl inferInstance inferInstance rfl rfl rfl HY.out rfl rfl rfl)))));refine bq ?_)));all_goals clear ke1 kc2 kc1)
             all_goals first
               | (refine ⟨(i + 1,L ++ [⟨⟨E[i],emB,true⟩,F E[i]⟩]),⟨by simp only;omega,by simp;omega,.inr ⟨L,_,rfl,htt,by simp only;rw [← hLh.out,List.append_assoc];exact hmh.out⟩⟩,by simp only;omega,ak (aM 700 701) (ak (aM 701 700) ?_)⟩
                  exact ab)
   · have g3:out = R:=by
       rw [List.drop_of_length_le (by omega)] at g2
       rcases g2 with ⟨a,b⟩|⟨o,y,a,_,b⟩
       · rw [a,← b];rfl
       · rw [a,← b];rfl
     clear g2 hat hF
     (refine w0 ?_;(repeat' first|refine W2.mk ?_ ?_|refine W1.mk fun hc=>?_))
     refine aQ ?_
     exact dq rfl rfl rfl g3
theorem G9 (op:Int) (a b:List Pc) (F:ByteArray → List Kn) (ha:a.length ≤ 500000) (hb:b.length ≤ 500000) (hat:∀ s ∈ fN (a ++ b),Fn Tryz.prog 98 [iC .i64 op,bS a,bS b,KX,sC s] (kx (F s))) (hF:∀ s ∈ fN (a ++ b),jB (F s)) :
   Fn Tryz.prog 51 [iC .i64 op,bS a,bS b,KX] (k5 (kB F (fN (a ++ b)))):=by
 have eE:gF [emB] (bB a ++ (bB b ++ [])) = fN (a ++ b):=by unfold fN bB;rw [List.map_append,List.append_nil]
 have h:=s7 op a b [] F ha hb (by simp) (by rw [eE];exact hat) (by rw [eE];exact hF)
 rw [eE] at h
 exact h
end
end Go.Proofs.YtembiemaiacdfaaGreat
