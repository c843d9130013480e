/- Texts joined: Rkm. -/
import Derived.Test.YtembiemaiacdfaaGreatJ27
import Derived.Test.YtembiemaiacdfaaGreatJ05
set_option maxRecDepth 10000
set_option maxHeartbeats 8000000
namespace Go.Proofs.YtembiemaiacdfaaGreat
open Go.RowKit
section
theorem rkn_MakeL (op:Int) (a b:List Pc) (Z:List Rg) (F:ByteArray → List Kn) (ha:a.length ≤ 500000) (hb:b.length ≤ 500000) (hz:Z.length ≤ 400000) (hat:∀ s ∈ edgT [emB] (rgsOf a ++ (rgsOf b ++ Z)),Fn Tryz.prog 98 [iC .i64 op,pcsB a,pcsB b,rgsB Z,sC s] (ownKn (F s))) (hF:∀ s ∈ edgT [emB] (rgsOf a ++ (rgsOf b ++ Z)),knsSz (F s)) :
   Fn Tryz.prog 51 [iC .i64 op,pcsB a,pcsB b,rgsB Z] (ownPc (bldK F (edgT [emB] (rgsOf a ++ (rgsOf b ++ Z))))):=by
 have s1:=rkn_spans a (by omega)
 have s2:=rkn_spans b (by omega)
 have e1:=rrg_Edges (rgsOf a) (rgsOf b ++ Z) (by unfold rgsOf;rw [List.length_map];omega) (by unfold rgsOf;rw [List.length_append,List.length_map];omega)
 have hlE:=edgT_len (rgsOf a ++ (rgsOf b ++ Z)) [emB]
 have hla:(rgsOf a).length = a.length:=by unfold rgsOf;rw [List.length_map]
 have hlb:(rgsOf b).length = b.length:=by unfold rgsOf;rw [List.length_map]
 rw [List.length_append,List.length_append,hla,hlb,List.length_singleton] at hlE
 have eE:True:=trivial
 generalize edgT [emB] (rgsOf a ++ (rgsOf b ++ Z)) = E at *
 generalize rgsOf a = A at *
 generalize rgsOf b = B at *
 have hl:E.length ≤ 1000000000:=by omega
 have e1:Fn Tryz.prog 97 [rgsB A,.bor 3 (B.map rgP ++ Z.map rgP)] (.per (txP E)):=by rw [← List.map_append];exact e1
 clear eE
 generalize hR:bldK F E = R
 unfold bldK at hR
 refine fi Tryz.func51 Tryz.ntmps51 ?_
 (have ko1:=s2;refine w0 ?_;(repeat' first|refine W2.mk ?_ ?_|refine W1.mk fun hc=>?_);all_goals clear ko1)
 refine AL_le (Le_nil 16 900 82 3 rfl rfl) ?_
 (have ko1:=s1;have kc1:=e1;refine w0 ?_;(repeat' first|refine W2.mk ?_ ?_|refine W1.mk fun hc=>?_);all_goals clear kc1 ko1)
 refine AW_le (Le_nil 11 700 110 4 rfl rfl) ?_
 clear s1 s2 e1
 refine AW_loopP (X:=Nat × List Pc) (fun x=>x.1 ≤ E.length ∧ x.2.length ≤ x.1 ∧ ((x.2 = [] ∧ mergeKn (segT F (E.drop x.1)) = R) ∨ ∃ o y,x.2 = o ++ [y] ∧ knsSz y.set ∧ o ++ mgT y (segT F (E.drop x.1)) = R))
   (fun x=>mkSt [(0,iC .i64 op),(1,pcsB a),(2,pcsB b),(3,rgsB Z),(10,txC E),(11,.row 700 0),(12,iC .i64 ((x.1:Nat):Int))] [(700,pcsW x.2)]) (fun x=>E.length - x.1) (0,[]) ⟨Nat.zero_le _,Nat.le_refl _,.inl ⟨rfl,by simpa using hR⟩⟩ ?_ ?_
 · exact le_auto
 · rintro ⟨i,out⟩ ⟨g1,g0,g2⟩
   simp only at g1 g0 g2 ⊢
   clear hR
   by_cases hi:i < E.length
   · have c1:=(hat _ (List.getElem_mem hi)).frz
     have htt:=hF _ (List.getElem_mem hi)
     have hseg:=segT_step F hi
     clear hat hF
     by_cases hi2:i + 1 < E.length
     · rw [nextR_in hi2] at hseg
       by_cases hL:(F E[i]).length = 0
       · rw [if_pos hL,List.nil_append] at hseg
         rw [hseg] at g2
         have g2':(out = [] ∧ mergeKn (segT F (E.drop (i + 1))) = R) ∨ ∃ o y,out = o ++ [y] ∧ knsSz y.set ∧ o ++ mgT y (segT F (E.drop (i + 1))) = R:=g2
         clear hseg g2
         (have kc1:=c1;have ke1:=Lib.hid ((show ((i:Nat):Int) + 1 = ((i + 1:Nat):Int) by omega));refine w0e ?_;(repeat' first|refine W2.mk ?_ ?_|refine W1.mk fun hc=>?_);all_goals clear ke1 kc1)
         refine ⟨(i + 1,out),⟨by simp only;omega,by simp only;omega,g2'⟩,by simp only;omega,?_⟩
         exact le_auto
       · have hseg':segT F (E.drop i) = ⟨⟨E[i],E[i + 1],false⟩,F E[i]⟩ :: segT F (E.drop (i + 1)):=by rw [hseg,if_neg hL];rfl
         rw [hseg'] at g2
         clear hseg hseg'
         rcases g2 with ⟨ho,hm⟩|⟨o,y,ho,hy1,hm⟩
         · subst ho
           (have kc1:=c1;have ke1:=Lib.hid ((show ((i:Nat):Int) + 1 = ((i + 1:Nat):Int) by omega));refine w0e ?_;(repeat' first|refine W2.mk ?_ ?_|refine W1.mk fun hc=>?_);all_goals clear ke1 kc1)
           refine ⟨(i + 1,[⟨⟨E[i],E[i + 1],false⟩,F E[i]⟩]),⟨by simp only;omega,by simp,.inr ⟨[],_,rfl,htt,hm⟩⟩,by simp only;omega,Le_trans (Le_mv 700 701) (Le_trans (Le_mv 701 700) ?_)⟩
           exact le_auto
         · subst ho
           have c3:=rvs_Same y.set (F E[i]) hy1
           rw [mgT] at hm
           simp only at hm
           have hT:tchB y ⟨⟨E[i],E[i + 1],false⟩,F E[i]⟩ = (!y.rg.op && (decide (y.rg.hi = E[i]) && decide (y.set = F E[i]))):=rfl
           have hL1:(o ++ [y]).length = o.length + 1:=by simp
           generalize hLL:o ++ [y] = L at *
           have hLi:((L.length:Int) - 1).toNat = o.length:=by omega
           have HY:Hid ((L.map pcP)[((L.length:Int) - 1).toNat]? = some (pcP y)):=Lib.hid (by
             rw [List.getElem?_map,hLi,← hLL]
             simp)
           by_cases co:y.rg.op = false
           · by_cases ch:y.rg.hi = E[i]
             · have hEq:=(toL_inj' _ _).2 ch
               by_cases d:y.set = F E[i]
               · have HS1:Hid ((L.map pcP).set ((L.length:Int) - 1).toNat (setP (pcP y) 1 [rawP (.string E[i + 1])]) = (o ++ [(⟨⟨y.rg.lo,E[i + 1],y.rg.op⟩,y.set⟩:Pc)]).map pcP):=Lib.hid (by
                   rw [show (L.map pcP).set ((L.length:Int) - 1).toNat (setP (pcP y) 1 [rawP (.string E[i + 1])]) = (L.set ((L.length:Int) - 1).toNat ⟨⟨y.rg.lo,E[i + 1],y.rg.op⟩,y.set⟩).map pcP from map_set2 pcP L _ (⟨⟨y.rg.lo,E[i + 1],y.rg.op⟩,y.set⟩:Pc),← hLL,set_at2 o y _ [] _ (by rw [hLL];omega)])
                 have HY2:Hid (((o ++ [(⟨⟨y.rg.lo,E[i + 1],y.rg.op⟩,y.set⟩:Pc)]).map pcP)[((L.length:Int) - 1).toNat]? = some (pcP ⟨⟨y.rg.lo,E[i + 1],y.rg.op⟩,y.set⟩)):=Lib.hid (by
                   rw [List.getElem?_map,hLi]
                   simp)
                 have HS2:Hid (((o ++ [(⟨⟨y.rg.lo,E[i + 1],y.rg.op⟩,y.set⟩:Pc)]).map pcP).set ((L.length:Int) - 1).toNat (setP (pcP ⟨⟨y.rg.lo,E[i + 1],y.rg.op⟩,y.set⟩) 2 [rawP (.bool false)]) = (o ++ [(⟨⟨y.rg.lo,E[i + 1],false⟩,y.set⟩:Pc)]).map pcP):=Lib.hid (by
                   rw [show ((o ++ [(⟨⟨y.rg.lo,E[i + 1],y.rg.op⟩,y.set⟩:Pc)]).map pcP).set ((L.length:Int) - 1).toNat (setP (pcP ⟨⟨y.rg.lo,E[i + 1],y.rg.op⟩,y.set⟩) 2 [rawP (.bool false)]) = ((o ++ [(⟨⟨y.rg.lo,E[i + 1],y.rg.op⟩,y.set⟩:Pc)]).set ((L.length:Int) - 1).toNat ⟨⟨y.rg.lo,E[i + 1],false⟩,y.set⟩).map pcP from map_set2 pcP (o ++ [(⟨⟨y.rg.lo,E[i + 1],y.rg.op⟩,y.set⟩:Pc)]) _ (⟨⟨y.rg.lo,E[i + 1],false⟩,y.set⟩:Pc),set_at2 o _ _ [] _ (by omega)])
                 have hML:(o ++ [(⟨⟨y.rg.lo,E[i + 1],false⟩,y.set⟩:Pc)]).length = L.length:=by rw [← hLL];simp
                 have hML2:(o ++ [(⟨⟨y.rg.lo,E[i + 1],y.rg.op⟩,y.set⟩:Pc)]).length = L.length:=by rw [← hLL];simp
                 rw [hT,co,decide_eq_true ch,decide_eq_true d,if_pos (show (!false && (true && true)) = true from rfl)] at hm
                 rw [decide_eq_true d] at c3
                 clear hT d
                 have hmh:=Lib.hid hm
                 have hLh:=Lib.hid hLL
                 clear hm hLL
                 (have kc1:=c1;have kc2:=c3;have ke1:=Lib.hid ((show ((i:Nat):Int) + 1 = ((i + 1:Nat):Int) by omega));refine w0e ?_;(repeat' (first|refine W2.mk ?_ ?_|refine W1.mk fun hc=>?_|((first|apply AL_t rfl|apply AL_0 rfl|apply AD_t rfl|apply AD_0 rfl);(focus (first|((apply u_k 5;(focus rfl);first|exact u_load_r1 ⟨rfl,rfl,rfl⟩ rfl inferInstance rfl rfl rfl HY.out rfl|exact u_load_rA ⟨rfl,rfl,rfl⟩ rfl inferInstance inferInstance rfl rfl rfl HY.out rfl rfl rfl))|((apply u_k 6;(focus rfl);first|exact u_store_r ⟨rfl,rfl⟩ rfl inferInstance rfl rfl rfl rfl HY.out rfl (part_raw rfl rfl rfl) rfl HS1.out|exact u_store_r ⟨rfl,rfl⟩ rfl inferInstance rfl rfl rfl rfl HY2.out rfl (part_raw rfl rfl rfl) rfl HS2.out))|(apply u_g;(focus rfl);apply op_gyes rfl rfl rfl rfl rfl;first|((apply u_k 5;(focus rfl);first|exact u_load_r1 ⟨rfl,rfl,rfl⟩ rfl inferInstance rfl rfl rfl HY.out rfl|exact u_load_rA ⟨rfl,rfl,rfl⟩ rfl inferInstance inferInstance rfl rfl rfl HY.out rfl rfl rfl))|((apply u_k 6;(focus rfl);first|exact u_store_r ⟨rfl,rfl⟩ rfl inferInstance rfl rfl rfl rfl HY.out rfl (part_raw rfl rfl rfl) rfl HS1.out|exact u_store_r ⟨rfl,rfl⟩ rfl inferInstance rfl rfl rfl rfl HY2.out rfl (part_raw rfl rfl rfl) rfl HS2.out)))));refine w0e ?_)));all_goals clear ke1 kc2 kc1)
                 all_goals first
                   | (refine ⟨(i + 1,o ++ [⟨⟨y.rg.lo,E[i + 1],false⟩,y.set⟩]),⟨by simp only;omega,by simp only;omega,.inr ⟨o,_,rfl,hy1,hmh.out⟩⟩,by simp only;omega,?_⟩
                      exact le_auto)
               · rw [hT,co,decide_eq_true ch,decide_eq_false d,if_neg (show ¬ (!false && (true && false)) = true by decide)] at hm
                 rw [decide_eq_false d] at c3
                 clear hT d
                 have hmh:=Lib.hid hm
                 have hLh:=Lib.hid hLL
                 clear hm hLL
                 (have kc1:=c1;have kc2:=c3;have ke1:=Lib.hid ((show ((i:Nat):Int) + 1 = ((i + 1:Nat):Int) by omega));refine w0e ?_;(repeat' (first|refine W2.mk ?_ ?_|refine W1.mk fun hc=>?_|((first|apply AL_t rfl|apply AL_0 rfl|apply AD_t rfl|apply AD_0 rfl);(focus (first|((apply u_k 5;(focus rfl);first|exact u_load_r1 ⟨rfl,rfl,rfl⟩ rfl inferInstance rfl rfl rfl HY.out rfl|exact u_load_rA ⟨rfl,rfl,rfl⟩ rfl inferInstance inferInstance rfl rfl rfl HY.out rfl rfl rfl))|(apply u_g;(focus rfl);apply op_gyes rfl rfl rfl rfl rfl;first|((apply u_k 5;(focus rfl);first|exact u_load_r1 ⟨rfl,rfl,rfl⟩ rfl inferInstance rfl rfl rfl HY.out rfl|exact u_load_rA ⟨rfl,rfl,rfl⟩ rfl inferInstance inferInstance rfl rfl rfl HY.out rfl rfl rfl)))));refine w0e ?_)));all_goals clear ke1 kc2 kc1)
                 all_goals first
                   | (refine ⟨(i + 1,L ++ [⟨⟨E[i],E[i + 1],false⟩,F E[i]⟩]),⟨by simp only;omega,by simp;omega,.inr ⟨L,_,rfl,htt,by simp only;rw [← hLh.out,List.append_assoc];exact hmh.out⟩⟩,by simp only;omega,Le_trans (Le_mv 700 701) (Le_trans (Le_mv 701 700) ?_)⟩
                      exact le_auto)
             · have hNe:=fun q=>ch ((toL_inj' _ _).1 q)
               rw [hT,co,decide_eq_false ch,Bool.false_and,Bool.and_false,if_neg (show ¬ false = true by decide)] at hm
               clear hT
               have hmh:=Lib.hid hm
               have hLh:=Lib.hid hLL
               clear hm hLL
               (have kc1:=c1;have kc2:=c3;have ke1:=Lib.hid ((show ((i:Nat):Int) + 1 = ((i + 1:Nat):Int) by omega));refine w0e ?_;(repeat' (first|refine W2.mk ?_ ?_|refine W1.mk fun hc=>?_|((first|apply AL_t rfl|apply AL_0 rfl|apply AD_t rfl|apply AD_0 rfl);(focus (first|((apply u_k 5;(focus rfl);first|exact u_load_r1 ⟨rfl,rfl,rfl⟩ rfl inferInstance rfl rfl rfl HY.out rfl|exact u_load_rA ⟨rfl,rfl,rfl⟩ rfl inferInstance inferInstance rfl rfl rfl HY.out rfl rfl rfl))|(apply u_g;(focus rfl);apply op_gyes rfl rfl rfl rfl rfl;first|((apply u_k 5;(focus rfl);first|exact u_load_r1 ⟨rfl,rfl,rfl⟩ rfl inferInstance rfl rfl rfl HY.out rfl|exact u_load_rA ⟨rfl,rfl,rfl⟩ rfl inferInstance inferInstance rfl rfl rfl HY.out rfl rfl rfl)))));refine w0e ?_)));all_goals clear ke1 kc2 kc1)
               all_goals first
                 | (refine ⟨(i + 1,L ++ [⟨⟨E[i],E[i + 1],false⟩,F E[i]⟩]),⟨by simp only;omega,by simp;omega,.inr ⟨L,_,rfl,htt,by simp only;rw [← hLh.out,List.append_assoc];exact hmh.out⟩⟩,by simp only;omega,Le_trans (Le_mv 700 701) (Le_trans (Le_mv 701 700) ?_)⟩
                    exact le_auto)
           · have co:y.rg.op = true:=by simpa using co
             rw [hT,co,Bool.not_true,Bool.false_and,if_neg (show ¬ false = true by decide)] at hm
             clear hT
             have hmh:=Lib.hid hm
             have hLh:=Lib.hid hLL
             clear hm hLL
             (have kc1:=c1;have kc2:=c3;have ke1:=Lib.hid ((show ((i:Nat):Int) + 1 = ((i + 1:Nat):Int) by omega));refine w0e ?_;(repeat' (first|refine W2.mk ?_ ?_|refine W1.mk fun hc=>?_|((first|apply AL_t rfl|apply AL_0 rfl|apply AD_t rfl|apply AD_0 rfl);(focus (first|((apply u_k 5;(focus rfl);first|exact u_load_r1 ⟨rfl,rfl,rfl⟩ rfl inferInstance rfl rfl rfl HY.out rfl|exact u_load_rA ⟨rfl,rfl,rfl⟩ rfl inferInstance inferInstance rfl rfl rfl HY.out rfl rfl rfl))|(apply u_g;(focus rfl);apply op_gyes rfl rfl rfl rfl rfl;first|((apply u_k 5;(focus rfl);first|exact u_load_r1 ⟨rfl,rfl,rfl⟩ rfl inferInstance rfl rfl rfl HY.out rfl|exact u_load_rA ⟨rfl,rfl,rfl⟩ rfl inferInstance inferInstance rfl rfl rfl HY.out rfl rfl rfl)))));refine w0e ?_)));all_goals clear ke1 kc2 kc1)
             all_goals first
               | (refine ⟨(i + 1,L ++ [⟨⟨E[i],E[i + 1],false⟩,F E[i]⟩]),⟨by simp only;omega,by simp;omega,.inr ⟨L,_,rfl,htt,by simp only;rw [← hLh.out,List.append_assoc];exact hmh.out⟩⟩,by simp only;omega,Le_trans (Le_mv 700 701) (Le_trans (Le_mv 701 700) ?_)⟩
                  exact le_auto)
     · rw [nextR_out hi2] at hseg
       by_cases hL:(F E[i]).length = 0
       · rw [if_pos hL,List.nil_append] at hseg
         rw [hseg] at g2
         have g2':(out = [] ∧ mergeKn (segT F (E.drop (i + 1))) = R) ∨ ∃ o y,out = o ++ [y] ∧ knsSz y.set ∧ o ++ mgT y (segT F (E.drop (i + 1))) = R:=g2
         clear hseg g2
         (have kc1:=c1;have ke1:=Lib.hid ((show ((i:Nat):Int) + 1 = ((i + 1:Nat):Int) by omega));refine w0e ?_;(repeat' first|refine W2.mk ?_ ?_|refine W1.mk fun hc=>?_);all_goals clear ke1 kc1)
         refine ⟨(i + 1,out),⟨by simp only;omega,by simp only;omega,g2'⟩,by simp only;omega,?_⟩
         exact le_auto
       · have hseg':segT F (E.drop i) = ⟨⟨E[i],emB,true⟩,F E[i]⟩ :: segT F (E.drop (i + 1)):=by rw [hseg,if_neg hL];rfl
         rw [hseg'] at g2
         clear hseg hseg'
         rcases g2 with ⟨ho,hm⟩|⟨o,y,ho,hy1,hm⟩
         · subst ho
           (have kc1:=c1;have ke1:=Lib.hid ((show ((i:Nat):Int) + 1 = ((i + 1:Nat):Int) by omega));refine w0e ?_;(repeat' first|refine W2.mk ?_ ?_|refine W1.mk fun hc=>?_);all_goals clear ke1 kc1)
           refine ⟨(i + 1,[⟨⟨E[i],emB,true⟩,F E[i]⟩]),⟨by simp only;omega,by simp,.inr ⟨[],_,rfl,htt,hm⟩⟩,by simp only;omega,Le_trans (Le_mv 700 701) (Le_trans (Le_mv 701 700) ?_)⟩
           exact le_auto
         · subst ho
           have c3:=rvs_Same y.set (F E[i]) hy1
           rw [mgT] at hm
           simp only at hm
           have hT:tchB y ⟨⟨E[i],emB,true⟩,F E[i]⟩ = (!y.rg.op && (decide (y.rg.hi = E[i]) && decide (y.set = F E[i]))):=rfl
           have hL1:(o ++ [y]).length = o.length + 1:=by simp
           generalize hLL:o ++ [y] = L at *
           have hLi:((L.length:Int) - 1).toNat = o.length:=by omega
           have HY:Hid ((L.map pcP)[((L.length:Int) - 1).toNat]? = some (pcP y)):=Lib.hid (by
             rw [List.getElem?_map,hLi,← hLL]
             simp)
           by_cases co:y.rg.op = false
           · by_cases ch:y.rg.hi = E[i]
             · have hEq:=(toL_inj' _ _).2 ch
               by_cases d:y.set = F E[i]
               · have HS1:Hid ((L.map pcP).set ((L.length:Int) - 1).toNat (setP (pcP y) 1 [rawP (.string emB)]) = (o ++ [(⟨⟨y.rg.lo,emB,y.rg.op⟩,y.set⟩:Pc)]).map pcP):=Lib.hid (by
                   rw [show (L.map pcP).set ((L.length:Int) - 1).toNat (setP (pcP y) 1 [rawP (.string emB)]) = (L.set ((L.length:Int) - 1).toNat ⟨⟨y.rg.lo,emB,y.rg.op⟩,y.set⟩).map pcP from map_set2 pcP L _ (⟨⟨y.rg.lo,emB,y.rg.op⟩,y.set⟩:Pc),← hLL,set_at2 o y _ [] _ (by rw [hLL];omega)])
                 have HY2:Hid (((o ++ [(⟨⟨y.rg.lo,emB,y.rg.op⟩,y.set⟩:Pc)]).map pcP)[((L.length:Int) - 1).toNat]? = some (pcP ⟨⟨y.rg.lo,emB,y.rg.op⟩,y.set⟩)):=Lib.hid (by
                   rw [List.getElem?_map,hLi]
                   simp)
                 have HS2:Hid (((o ++ [(⟨⟨y.rg.lo,emB,y.rg.op⟩,y.set⟩:Pc)]).map pcP).set ((L.length:Int) - 1).toNat (setP (pcP ⟨⟨y.rg.lo,emB,y.rg.op⟩,y.set⟩) 2 [rawP (.bool true)]) = (o ++ [(⟨⟨y.rg.lo,emB,true⟩,y.set⟩:Pc)]).map pcP):=Lib.hid (by
                   rw [show ((o ++ [(⟨⟨y.rg.lo,emB,y.rg.op⟩,y.set⟩:Pc)]).map pcP).set ((L.length:Int) - 1).toNat (setP (pcP ⟨⟨y.rg.lo,emB,y.rg.op⟩,y.set⟩) 2 [rawP (.bool true)]) = ((o ++ [(⟨⟨y.rg.lo,emB,y.rg.op⟩,y.set⟩:Pc)]).set ((L.length:Int) - 1).toNat ⟨⟨y.rg.lo,emB,true⟩,y.set⟩).map pcP from map_set2 pcP (o ++ [(⟨⟨y.rg.lo,emB,y.rg.op⟩,y.set⟩:Pc)]) _ (⟨⟨y.rg.lo,emB,true⟩,y.set⟩:Pc),set_at2 o _ _ [] _ (by omega)])
                 have hML:(o ++ [(⟨⟨y.rg.lo,emB,true⟩,y.set⟩:Pc)]).length = L.length:=by rw [← hLL];simp
                 have hML2:(o ++ [(⟨⟨y.rg.lo,emB,y.rg.op⟩,y.set⟩:Pc)]).length = L.length:=by rw [← hLL];simp
                 rw [hT,co,decide_eq_true ch,decide_eq_true d,if_pos (show (!false && (true && true)) = true from rfl)] at hm
                 rw [decide_eq_true d] at c3
                 clear hT d
                 have hmh:=Lib.hid hm
                 have hLh:=Lib.hid hLL
                 clear hm hLL
                 (have kc1:=c1;have kc2:=c3;have ke1:=Lib.hid ((show ((i:Nat):Int) + 1 = ((i + 1:Nat):Int) by omega));refine w0e ?_;(repeat' (first|refine W2.mk ?_ ?_|refine W1.mk fun hc=>?_|((first|apply AL_t rfl|apply AL_0 rfl|apply AD_t rfl|apply AD_0 rfl);(focus (first|((apply u_k 5;(focus rfl);first|exact u_load_r1 ⟨rfl,rfl,rfl⟩ rfl inferInstance rfl rfl rfl HY.out rfl|exact u_load_rA ⟨rfl,rfl,rfl⟩ rfl inferInstance inferInstance rfl rfl rfl HY.out rfl rfl rfl))|((apply u_k 6;(focus rfl);first|exact u_store_r ⟨rfl,rfl⟩ rfl inferInstance rfl rfl rfl rfl HY.out rfl (part_raw rfl rfl rfl) rfl HS1.out|exact u_store_r ⟨rfl,rfl⟩ rfl inferInstance rfl rfl rfl rfl HY2.out rfl (part_raw rfl rfl rfl) rfl HS2.out))|(apply u_g;(focus rfl);apply op_gyes rfl rfl rfl rfl rfl;first|((apply u_k 5;(focus rfl);first|exact u_load_r1 ⟨rfl,rfl,rfl⟩ rfl inferInstance rfl rfl rfl HY.out rfl|exact u_load_rA ⟨rfl,rfl,rfl⟩ rfl inferInstance inferInstance rfl rfl rfl HY.out rfl rfl rfl))|((apply u_k 6;(focus rfl);first|exact u_store_r ⟨rfl,rfl⟩ rfl inferInstance rfl rfl rfl rfl HY.out rfl (part_raw rfl rfl rfl) rfl HS1.out|exact u_store_r ⟨rfl,rfl⟩ rfl inferInstance rfl rfl rfl rfl HY2.out rfl (part_raw rfl rfl rfl) rfl HS2.out)))));refine w0e ?_)));all_goals clear ke1 kc2 kc1)
                 all_goals first
                   | (refine ⟨(i + 1,o ++ [⟨⟨y.rg.lo,emB,true⟩,y.set⟩]),⟨by simp only;omega,by simp only;omega,.inr ⟨o,_,rfl,hy1,hmh.out⟩⟩,by simp only;omega,?_⟩
                      exact le_auto)
               · rw [hT,co,decide_eq_true ch,decide_eq_false d,if_neg (show ¬ (!false && (true && false)) = true by decide)] at hm
                 rw [decide_eq_false d] at c3
                 clear hT d
                 have hmh:=Lib.hid hm
                 have hLh:=Lib.hid hLL
                 clear hm hLL
                 (have kc1:=c1;have kc2:=c3;have ke1:=Lib.hid ((show ((i:Nat):Int) + 1 = ((i + 1:Nat):Int) by omega));refine w0e ?_;(repeat' (first|refine W2.mk ?_ ?_|refine W1.mk fun hc=>?_|((first|apply AL_t rfl|apply AL_0 rfl|apply AD_t rfl|apply AD_0 rfl);(focus (first|((apply u_k 5;(focus rfl);first|exact u_load_r1 ⟨rfl,rfl,rfl⟩ rfl inferInstance rfl rfl rfl HY.out rfl|exact u_load_rA ⟨rfl,rfl,rfl⟩ rfl inferInstance inferInstance rfl rfl rfl HY.out rfl rfl rfl))|(apply u_g;(focus rfl);apply op_gyes rfl rfl rfl rfl rfl;first|((apply u_k 5;(focus rfl);first|exact u_load_r1 ⟨rfl,rfl,rfl⟩ rfl inferInstance rfl rfl rfl HY.out rfl|exact u_load_rA ⟨rfl,rfl,rfl⟩ rfl inferInstance inferInstance rfl rfl rfl HY.out rfl rfl rfl)))));refine w0e ?_)));all_goals clear ke1 kc2 kc1)
                 all_goals first
                   | (refine ⟨(i + 1,L ++ [⟨⟨E[i],emB,true⟩,F E[i]⟩]),⟨by simp only;omega,by simp;omega,.inr ⟨L,_,rfl,htt,by simp only;rw [← hLh.out,List.append_assoc];exact hmh.out⟩⟩,by simp only;omega,Le_trans (Le_mv 700 701) (Le_trans (Le_mv 701 700) ?_)⟩
                      exact le_auto)
             · have hNe:=fun q=>ch ((toL_inj' _ _).1 q)
               rw [hT,co,decide_eq_false ch,Bool.false_and,Bool.and_false,if_neg (show ¬ false = true by decide)] at hm
               clear hT
               have hmh:=Lib.hid hm
               have hLh:=Lib.hid hLL
               clear hm hLL
               (have kc1:=c1;have kc2:=c3;have ke1:=Lib.hid ((show ((i:Nat):Int) + 1 = ((i + 1:Nat):Int) by omega));refine w0e ?_;(repeat' (first|refine W2.mk ?_ ?_|refine W1.mk fun hc=>?_|((first|apply AL_t rfl|apply AL_0 rfl|apply AD_t rfl|apply AD_0 rfl);(focus (first|((apply u_k 5;(focus rfl);first|exact u_load_r1 ⟨rfl,rfl,rfl⟩ rfl inferInstance rfl rfl rfl HY.out rfl|exact u_load_rA ⟨rfl,rfl,rfl⟩ rfl inferInstance inferInstance rfl rfl rfl HY.out rfl rfl rfl))|(apply u_g;(focus rfl);apply op_gyes rfl rfl rfl rfl rfl;first|((apply u_k 5;(focus rfl);first|exact u_load_r1 ⟨rfl,rfl,rfl⟩ rfl inferInstance rfl rfl rfl HY.out rfl|exact u_load_rA ⟨rfl,rfl,rfl⟩ rfl inferInstance inferInstance rfl rfl rfl HY.out rfl rfl rfl)))));refine w0e ?_)));all_goals clear ke1 kc2 kc1)
               all_goals first
                 | (refine ⟨(i + 1,L ++ [⟨⟨E[i],emB,true⟩,F E[i]⟩]),⟨by simp only;omega,by simp;omega,.inr ⟨L,_,rfl,htt,by simp only;rw [← hLh.out,List.append_assoc];exact hmh.out⟩⟩,by simp only;omega,Le_trans (Le_mv 700 701) (Le_trans (Le_mv 701 700) ?_)⟩
                    exact le_auto)
           · have co:y.rg.op = true:=by simpa using co
             rw [hT,co,Bool.not_true,Bool.false_and,if_neg (show ¬ false = true by decide)] at hm
             clear hT
             have hmh:=Lib.hid hm
             have hLh:=Lib.hid hLL
             clear hm hLL
             (have kc1:=c1;have kc2:=c3;have ke1:=Lib.hid ((show ((i:Nat):Int) + 1 = ((i + 1:Nat):Int) by omega));refine w0e ?_;(repeat' (first|refine W2.mk ?_ ?_|refine W1.mk fun hc=>?_|((first|apply AL_t rfl|apply AL_0 rfl|apply AD_t rfl|apply AD_0 rfl);(focus (first|((apply u_k 5;(focus rfl);first|exact u_load_r1 ⟨rfl,rfl,rfl⟩ rfl inferInstance rfl rfl rfl HY.out rfl|exact u_load_rA ⟨rfl,rfl,rfl⟩ rfl inferInstance inferInstance rfl rfl rfl HY.out rfl rfl rfl))|(apply u_g;(focus rfl);apply op_gyes rfl rfl rfl rfl rfl;first|((apply u_k 5;(focus rfl);first|exact u_load_r1 ⟨rfl,rfl,rfl⟩ rfl inferInstance rfl rfl rfl HY.out rfl|exact u_load_rA ⟨rfl,rfl,rfl⟩ rfl inferInstance inferInstance rfl rfl rfl HY.out rfl rfl rfl)))));refine w0e ?_)));all_goals clear ke1 kc2 kc1)
             all_goals first
               | (refine ⟨(i + 1,L ++ [⟨⟨E[i],emB,true⟩,F E[i]⟩]),⟨by simp only;omega,by simp;omega,.inr ⟨L,_,rfl,htt,by simp only;rw [← hLh.out,List.append_assoc];exact hmh.out⟩⟩,by simp only;omega,Le_trans (Le_mv 700 701) (Le_trans (Le_mv 701 700) ?_)⟩
                  exact le_auto)
   · have g3:out = R:=by
       rw [List.drop_of_length_le (by omega)] at g2
       rcases g2 with ⟨a,b⟩|⟨o,y,a,_,b⟩
       · rw [a,← b];rfl
       · rw [a,← b];rfl
     clear g2 hat hF
     (refine w0 ?_;(repeat' first|refine W2.mk ?_ ?_|refine W1.mk fun hc=>?_))
     refine rt1 ?_
     exact rv_ownM rfl rfl rfl g3
theorem rkn_Make (op:Int) (a b:List Pc) (F:ByteArray → List Kn) (ha:a.length ≤ 500000) (hb:b.length ≤ 500000) (hat:∀ s ∈ edgK (a ++ b),Fn Tryz.prog 98 [iC .i64 op,pcsB a,pcsB b,noRg,sC s] (ownKn (F s))) (hF:∀ s ∈ edgK (a ++ b),knsSz (F s)) :
   Fn Tryz.prog 51 [iC .i64 op,pcsB a,pcsB b,noRg] (ownPc (bldK F (edgK (a ++ b)))):=by
 have eE:edgT [emB] (rgsOf a ++ (rgsOf b ++ [])) = edgK (a ++ b):=by unfold edgK rgsOf;rw [List.map_append,List.append_nil]
 have h:=rkn_MakeL op a b [] F ha hb (by simp) (by rw [eE];exact hat) (by rw [eE];exact hF)
 rw [eE] at h
 exact h
end
end Go.Proofs.YtembiemaiacdfaaGreat
