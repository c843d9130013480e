/- Texts joined: KnB. -/
import Derived.Test.YtembiemaiacdfaaGreatJ16
import Derived.Test.YtembiemaiacdfaaGreatJ17
import Derived.Test.YtembiemaiacdfaaGreatJ05
set_option maxRecDepth 10000
set_option maxHeartbeats 8000000
namespace Go.Proofs.YtembiemaiacdfaaGreat
open Go.RowKit
abbrev I6 (l:List Pc):Blk:=.row 110 4 (l.map pcP)
abbrev k5 (l:List Pc):Ret:=.own 110 4 (l.map pcP)
theorem sx (F:ByteArray → List Kn) {E:List ByteArray} {i:Nat} (h:i < E.length):dQ F (E.drop i) = (if (F E[i]).length = 0 then [] else [⟨l6 E[i] (E.drop (i + 1)),F E[i]⟩]) ++ dQ F (E.drop (i + 1)):=by
 rw [List.drop_eq_getElem_cons h,dQ]
theorem wx {E:List ByteArray} {i:Nat} (h:i + 1 < E.length) (s:ByteArray):l6 s (E.drop (i + 1)) = ⟨s,E[i + 1],false⟩:=by
 rw [List.drop_eq_getElem_cons h];rfl
theorem sy {E:List ByteArray} {i:Nat} (h:¬ i + 1 < E.length) (s:ByteArray):l6 s (E.drop (i + 1)) = ⟨s,emB,true⟩:=by
 rw [List.drop_of_length_le (by omega)];rfl
section
theorem wy (f:FuncId) (As:List PV) (F:ByteArray → List Kn) (E:List ByteArray) (hl:E.length ≤ 1000000000) (hat:∀ s ∈ E,el Tryz.prog f (sC s :: As.map Cnt.per) [] (.per (B4 (F s))) []) (hF:∀ s ∈ E,bK (F s)) (hTt:∀ s ∈ E,cD (F s)) :
   Fn Tryz.prog 92 [.bor 1 (E.map strP),.per (Cg f As)] (k5 (kB F E)):=by
 generalize hR:kB F E = R
 unfold kB at hR
 refine fi Tryz.func92 Tryz.ntmps92 ?_
 (refine w0 ?_;(repeat' first|refine W2.mk ?_ ?_|refine W1.mk fun hc=>?_))
 refine ck (bz 5 700 110 4 rfl rfl) ?_
 refine ah (X:=Nat × List Pc) (fun x=>x.1 ≤ E.length ∧ x.2.length ≤ x.1 ∧ ((x.2 = [] ∧ hY (dQ F (E.drop x.1)) = R) ∨ ∃ o y,x.2 = o ++ [y] ∧ bK y.set ∧ cD y.set ∧ o ++ rM y (dQ F (E.drop x.1)) = R))
   (fun x=>aN [(0,.bor 1 (E.map strP)),(1,.per (Cg f As)),(5,.row 700 0),(11,.bor 1 (E.map strP)),(12,iC .i64 (E.length:Nat)),(13,iC .i64 ((x.1:Nat):Int))] [(700,I6 x.2)]) (fun x=>E.length - x.1) (0,[]) ⟨Nat.zero_le _,Nat.le_refl _,.inl ⟨rfl,by simpa using hR⟩⟩ ?_ ?_
 · exact ab
 · rintro ⟨i,out⟩ ⟨g1,g0,g2⟩
   simp only at g1 g0 g2 ⊢
   clear hR
   by_cases hi:i < E.length
   · have c1:=hat _ (List.getElem_mem hi)
     have hok:=hF _ (List.getElem_mem hi)
     have htt:=hTt _ (List.getElem_mem hi)
     have hseg:=sx F hi
     clear hat hF hTt
     by_cases hi2:i + 1 < E.length
     · rw [wx hi2] at hseg
       by_cases hL:(F E[i]).length = 0
       · rw [if_pos hL,List.nil_append] at hseg
         rw [hseg] at g2
         have g2':(out = [] ∧ hY (dQ F (E.drop (i + 1))) = R) ∨ ∃ o y,out = o ++ [y] ∧ bK y.set ∧ cD y.set ∧ o ++ rM y (dQ F (E.drop (i + 1))) = R:=g2
         clear hseg g2
         (have ke1:=Lib.hid ((show ((i:Nat):Int) + 1 = ((i + 1:Nat):Int) by omega));refine bq ?_;(repeat' (first|refine W2.mk ?_ ?_|refine W1.mk fun hc=>?_|((first|apply aD rfl|apply aF rfl|apply aG rfl|apply aH rfl);(focus (first|(exact jF [sC E[i]] c1)|(apply bx;(focus rfl);apply ag rfl rfl rfl rfl rfl;first|(exact jF [sC E[i]] c1))));refine bq ?_)));all_goals clear ke1)
         refine ⟨(i + 1,out),⟨by simp only;omega,by simp only;omega,g2'⟩,by simp only;omega,?_⟩
         exact ab
       · have hseg':dQ F (E.drop i) = ⟨⟨E[i],E[i + 1],false⟩,F E[i]⟩ :: dQ F (E.drop (i + 1)):=by rw [hseg,if_neg hL];rfl
         rw [hseg'] at g2
         clear hseg hseg'
         rcases g2 with ⟨ho,hm⟩|⟨o,y,ho,hy1,hy2,hm⟩
         · subst ho
           (have ke1:=Lib.hid ((show ((i:Nat):Int) + 1 = ((i + 1:Nat):Int) by omega));refine bq ?_;(repeat' (first|refine W2.mk ?_ ?_|refine W1.mk fun hc=>?_|((first|apply aD rfl|apply aF rfl|apply aG rfl|apply aH rfl);(focus (first|(exact jF [sC E[i]] c1)|(apply bx;(focus rfl);apply ag rfl rfl rfl rfl rfl;first|(exact jF [sC E[i]] c1))));refine bq ?_)));all_goals clear ke1)
           refine ⟨(i + 1,[⟨⟨E[i],E[i + 1],false⟩,F E[i]⟩]),⟨by simp only;omega,by simp,.inr ⟨[],_,rfl,hok,htt,hm⟩⟩,by simp only;omega,ak (aM 700 701) (ak (aM 701 700) ?_)⟩
           exact ab
         · subst ho
           have c2:=mr y.rg ⟨E[i],E[i + 1],false⟩
           have c3:=mn y.set (F E[i]) hy2 htt hy1 hok
           rw [rM] at hm
           simp only at hm
           have hT:rL y ⟨⟨E[i],E[i + 1],false⟩,F E[i]⟩ = (fG y.rg ⟨E[i],E[i + 1],false⟩ && decide (y.set = F E[i])):=by
             unfold rL fG
             rw [Bool.and_assoc]
           have hL1:(o ++ [y]).length = o.length + 1:=by simp
           generalize hLL:o ++ [y] = L at *
           have hLi:((L.length:Int) - 1).toNat = o.length:=by omega
           have HY:(L.map pcP)[((L.length:Int) - 1).toNat]? = some (pcP y):=by
             rw [List.getElem?_map,hLi,← hLL]
             simp
           by_cases c:fG y.rg ⟨E[i],E[i + 1],false⟩ = true
           · by_cases d:y.set = F E[i]
             · have HS1:(L.map pcP).set ((L.length:Int) - 1).toNat (bI (pcP y) 1 [aq (.string E[i + 1])]) = (o ++ [(⟨⟨y.rg.lo,E[i + 1],y.rg.op⟩,y.set⟩:Pc)]).map pcP:=by
                 rw [show (L.map pcP).set ((L.length:Int) - 1).toNat (bI (pcP y) 1 [aq (.string E[i + 1])]) = (L.set ((L.length:Int) - 1).toNat ⟨⟨y.rg.lo,E[i + 1],y.rg.op⟩,y.set⟩).map pcP from eS pcP L _ (⟨⟨y.rg.lo,E[i + 1],y.rg.op⟩,y.set⟩:Pc),← hLL,gb o y _ [] _ (by rw [hLL];omega)]
               have HY2:((o ++ [(⟨⟨y.rg.lo,E[i + 1],y.rg.op⟩,y.set⟩:Pc)]).map pcP)[((L.length:Int) - 1).toNat]? = some (pcP ⟨⟨y.rg.lo,E[i + 1],y.rg.op⟩,y.set⟩):=by
                 rw [List.getElem?_map,hLi]
                 simp
               have HS2:((o ++ [(⟨⟨y.rg.lo,E[i + 1],y.rg.op⟩,y.set⟩:Pc)]).map pcP).set ((L.length:Int) - 1).toNat (bI (pcP ⟨⟨y.rg.lo,E[i + 1],y.rg.op⟩,y.set⟩) 2 [aq (.bool false)]) = (o ++ [(⟨⟨y.rg.lo,E[i + 1],false⟩,y.set⟩:Pc)]).map pcP:=by
                 rw [show ((o ++ [(⟨⟨y.rg.lo,E[i + 1],y.rg.op⟩,y.set⟩:Pc)]).map pcP).set ((L.length:Int) - 1).toNat (bI (pcP ⟨⟨y.rg.lo,E[i + 1],y.rg.op⟩,y.set⟩) 2 [aq (.bool false)]) = ((o ++ [(⟨⟨y.rg.lo,E[i + 1],y.rg.op⟩,y.set⟩:Pc)]).set ((L.length:Int) - 1).toNat ⟨⟨y.rg.lo,E[i + 1],false⟩,y.set⟩).map pcP from eS pcP (o ++ [(⟨⟨y.rg.lo,E[i + 1],y.rg.op⟩,y.set⟩:Pc)]) _ (⟨⟨y.rg.lo,E[i + 1],false⟩,y.set⟩:Pc),gb o _ _ [] _ (by omega)]
               have hML:(o ++ [(⟨⟨y.rg.lo,E[i + 1],false⟩,y.set⟩:Pc)]).length = L.length:=by rw [← hLL];simp
               have hML2:(o ++ [(⟨⟨y.rg.lo,E[i + 1],y.rg.op⟩,y.set⟩:Pc)]).length = L.length:=by rw [← hLL];simp
               rw [hT,c,decide_eq_true d,if_pos (show (true && true) = true from rfl)] at hm
               rw [c] at c2
               rw [decide_eq_true d] at c3
               clear hT
               (have kc1:=c2;have kc2:=c3;have ke1:=Lib.hid ((show ((i:Nat):Int) + 1 = ((i + 1:Nat):Int) by omega));refine bq ?_;(repeat' (first|refine W2.mk ?_ ?_|refine W1.mk fun hc=>?_|((first|apply aD rfl|apply aF rfl|apply aG rfl|apply aH rfl);(focus (first|(exact jF [sC E[i]] c1)|((apply az 5;(focus rfl);first|exact aw ⟨rfl,rfl,rfl⟩ rfl inferInstance rfl rfl rfl HY rfl|exact ae ⟨rfl,rfl,rfl⟩ rfl inferInstance inferInstance rfl rfl rfl HY rfl rfl rfl))|((apply az 6;(focus rfl);first|exact al ⟨rfl,rfl⟩ rfl inferInstance rfl rfl rfl rfl HY rfl (aK rfl rfl rfl) rfl HS1|exact al ⟨rfl,rfl⟩ rfl inferInstance rfl rfl rfl rfl HY2 rfl (aK rfl rfl rfl) rfl HS2))|(apply bx;(focus rfl);apply ag rfl rfl rfl rfl rfl;first|(exact jF [sC E[i]] c1)|((apply az 5;(focus rfl);first|exact aw ⟨rfl,rfl,rfl⟩ rfl inferInstance rfl rfl rfl HY rfl|exact ae ⟨rfl,rfl,rfl⟩ rfl inferInstance inferInstance rfl rfl rfl HY rfl rfl rfl))|((apply az 6;(focus rfl);first|exact al ⟨rfl,rfl⟩ rfl inferInstance rfl rfl rfl rfl HY rfl (aK rfl rfl rfl) rfl HS1|exact al ⟨rfl,rfl⟩ rfl inferInstance rfl rfl rfl rfl HY2 rfl (aK rfl rfl rfl) rfl HS2)))));refine bq ?_)));all_goals clear ke1 kc2 kc1)
               refine ⟨(i + 1,o ++ [⟨⟨y.rg.lo,E[i + 1],false⟩,y.set⟩]),⟨by simp only;omega,by simp only;omega,.inr ⟨o,_,rfl,hy1,hy2,hm⟩⟩,by simp only;omega,?_⟩
               exact ab
             · rw [hT,c,decide_eq_false d,if_neg (show ¬ (true && false) = true by decide)] at hm
               rw [c] at c2
               rw [decide_eq_false d] at c3
               clear hT
               (have kc1:=c2;have kc2:=c3;have ke1:=Lib.hid ((show ((i:Nat):Int) + 1 = ((i + 1:Nat):Int) by omega));refine bq ?_;(repeat' (first|refine W2.mk ?_ ?_|refine W1.mk fun hc=>?_|((first|apply aD rfl|apply aF rfl|apply aG rfl|apply aH rfl);(focus (first|(exact jF [sC E[i]] c1)|((apply az 5;(focus rfl);first|exact aw ⟨rfl,rfl,rfl⟩ rfl inferInstance rfl rfl rfl HY rfl|exact ae ⟨rfl,rfl,rfl⟩ rfl inferInstance inferInstance rfl rfl rfl HY rfl rfl rfl))|(apply bx;(focus rfl);apply ag rfl rfl rfl rfl rfl;first|(exact jF [sC E[i]] c1)|((apply az 5;(focus rfl);first|exact aw ⟨rfl,rfl,rfl⟩ rfl inferInstance rfl rfl rfl HY rfl|exact ae ⟨rfl,rfl,rfl⟩ rfl inferInstance inferInstance rfl rfl rfl HY rfl rfl rfl)))));refine bq ?_)));all_goals clear ke1 kc2 kc1)
               refine ⟨(i + 1,L ++ [⟨⟨E[i],E[i + 1],false⟩,F E[i]⟩]),⟨by simp only;omega,by simp;omega,.inr ⟨L,_,rfl,hok,htt,by simp only;rw [← hLL,List.append_assoc];exact hm⟩⟩,by simp only;omega,ak (aM 700 701) (ak (aM 701 700) ?_)⟩
               exact ab
           · have c:fG y.rg ⟨E[i],E[i + 1],false⟩ = false:=by simpa using c
             rw [hT,c,Bool.false_and,if_neg (show ¬ false = true by decide)] at hm
             rw [c] at c2
             clear hT c3
             (have kc1:=c2;have ke1:=Lib.hid ((show ((i:Nat):Int) + 1 = ((i + 1:Nat):Int) by omega));refine bq ?_;(repeat' (first|refine W2.mk ?_ ?_|refine W1.mk fun hc=>?_|((first|apply aD rfl|apply aF rfl|apply aG rfl|apply aH rfl);(focus (first|(exact jF [sC E[i]] c1)|((apply az 5;(focus rfl);first|exact aw ⟨rfl,rfl,rfl⟩ rfl inferInstance rfl rfl rfl HY rfl|exact ae ⟨rfl,rfl,rfl⟩ rfl inferInstance inferInstance rfl rfl rfl HY rfl rfl rfl))|(apply bx;(focus rfl);apply ag rfl rfl rfl rfl rfl;first|(exact jF [sC E[i]] c1)|((apply az 5;(focus rfl);first|exact aw ⟨rfl,rfl,rfl⟩ rfl inferInstance rfl rfl rfl HY rfl|exact ae ⟨rfl,rfl,rfl⟩ rfl inferInstance inferInstance rfl rfl rfl HY rfl rfl rfl)))));refine bq ?_)));all_goals clear ke1 kc1)
             refine ⟨(i + 1,L ++ [⟨⟨E[i],E[i + 1],false⟩,F E[i]⟩]),⟨by simp only;omega,by simp;omega,.inr ⟨L,_,rfl,hok,htt,by simp only;rw [← hLL,List.append_assoc];exact hm⟩⟩,by simp only;omega,ak (aM 700 701) (ak (aM 701 700) ?_)⟩
             exact ab
     · rw [sy hi2] at hseg
       by_cases hL:(F E[i]).length = 0
       · rw [if_pos hL,List.nil_append] at hseg
         rw [hseg] at g2
         have g2':(out = [] ∧ hY (dQ F (E.drop (i + 1))) = R) ∨ ∃ o y,out = o ++ [y] ∧ bK y.set ∧ cD y.set ∧ o ++ rM y (dQ F (E.drop (i + 1))) = R:=g2
         clear hseg g2
         (refine w0 ?_;(repeat' (first|refine W2.mk ?_ ?_|refine W1.mk fun hc=>?_|((first|apply aD rfl|apply aF rfl|apply aG rfl|apply aH rfl);(focus (first|(exact jF [sC E[i]] c1)|(apply bx;(focus rfl);apply ag rfl rfl rfl rfl rfl;first|(exact jF [sC E[i]] c1))));refine w0 ?_))))
         refine ⟨(i + 1,out),⟨by simp only;omega,by simp only;omega,g2'⟩,by simp only;omega,?_⟩
         exact ab
       · have hseg':dQ F (E.drop i) = ⟨⟨E[i],emB,true⟩,F E[i]⟩ :: dQ F (E.drop (i + 1)):=by rw [hseg,if_neg hL];rfl
         rw [hseg'] at g2
         clear hseg hseg'
         rcases g2 with ⟨ho,hm⟩|⟨o,y,ho,hy1,hy2,hm⟩
         · subst ho
           (refine w0 ?_;(repeat' (first|refine W2.mk ?_ ?_|refine W1.mk fun hc=>?_|((first|apply aD rfl|apply aF rfl|apply aG rfl|apply aH rfl);(focus (first|(exact jF [sC E[i]] c1)|(apply bx;(focus rfl);apply ag rfl rfl rfl rfl rfl;first|(exact jF [sC E[i]] c1))));refine w0 ?_))))
           refine ⟨(i + 1,[⟨⟨E[i],emB,true⟩,F E[i]⟩]),⟨by simp only;omega,by simp,.inr ⟨[],_,rfl,hok,htt,hm⟩⟩,by simp only;omega,ak (aM 700 701) (ak (aM 701 700) ?_)⟩
           exact ab
         · subst ho
           have c2:=mr y.rg ⟨E[i],emB,true⟩
           have c3:=mn y.set (F E[i]) hy2 htt hy1 hok
           rw [rM] at hm
           simp only at hm
           have hT:rL y ⟨⟨E[i],emB,true⟩,F E[i]⟩ = (fG y.rg ⟨E[i],emB,true⟩ && decide (y.set = F E[i])):=by
             unfold rL fG
             rw [Bool.and_assoc]
           have hL1:(o ++ [y]).length = o.length + 1:=by simp
           generalize hLL:o ++ [y] = L at *
           have hLi:((L.length:Int) - 1).toNat = o.length:=by omega
           have HY:(L.map pcP)[((L.length:Int) - 1).toNat]? = some (pcP y):=by
             rw [List.getElem?_map,hLi,← hLL]
             simp
           by_cases c:fG y.rg ⟨E[i],emB,true⟩ = true
           · by_cases d:y.set = F E[i]
             · have HS1:(L.map pcP).set ((L.length:Int) - 1).toNat (bI (pcP y) 1 [aq (.string emB)]) = (o ++ [(⟨⟨y.rg.lo,emB,y.rg.op⟩,y.set⟩:Pc)]).map pcP:=by
                 rw [show (L.map pcP).set ((L.length:Int) - 1).toNat (bI (pcP y) 1 [aq (.string emB)]) = (L.set ((L.length:Int) - 1).toNat ⟨⟨y.rg.lo,emB,y.rg.op⟩,y.set⟩).map pcP from eS pcP L _ (⟨⟨y.rg.lo,emB,y.rg.op⟩,y.set⟩:Pc),← hLL,gb o y _ [] _ (by rw [hLL];omega)]
               have HY2:((o ++ [(⟨⟨y.rg.lo,emB,y.rg.op⟩,y.set⟩:Pc)]).map pcP)[((L.length:Int) - 1).toNat]? = some (pcP ⟨⟨y.rg.lo,emB,y.rg.op⟩,y.set⟩):=by
                 rw [List.getElem?_map,hLi]
                 simp
               have HS2:((o ++ [(⟨⟨y.rg.lo,emB,y.rg.op⟩,y.set⟩:Pc)]).map pcP).set ((L.length:Int) - 1).toNat (bI (pcP ⟨⟨y.rg.lo,emB,y.rg.op⟩,y.set⟩) 2 [aq (.bool true)]) = (o ++ [(⟨⟨y.rg.lo,emB,true⟩,y.set⟩:Pc)]).map pcP:=by
                 rw [show ((o ++ [(⟨⟨y.rg.lo,emB,y.rg.op⟩,y.set⟩:Pc)]).map pcP).set ((L.length:Int) - 1).toNat (bI (pcP ⟨⟨y.rg.lo,emB,y.rg.op⟩,y.set⟩) 2 [aq (.bool true)]) = ((o ++ [(⟨⟨y.rg.lo,emB,y.rg.op⟩,y.set⟩:Pc)]).set ((L.length:Int) - 1).toNat ⟨⟨y.rg.lo,emB,true⟩,y.set⟩).map pcP from eS pcP (o ++ [(⟨⟨y.rg.lo,emB,y.rg.op⟩,y.set⟩:Pc)]) _ (⟨⟨y.rg.lo,emB,true⟩,y.set⟩:Pc),gb o _ _ [] _ (by omega)]
               have hML:(o ++ [(⟨⟨y.rg.lo,emB,true⟩,y.set⟩:Pc)]).length = L.length:=by rw [← hLL];simp
               have hML2:(o ++ [(⟨⟨y.rg.lo,emB,y.rg.op⟩,y.set⟩:Pc)]).length = L.length:=by rw [← hLL];simp
               rw [hT,c,decide_eq_true d,if_pos (show (true && true) = true from rfl)] at hm
               rw [c] at c2
               rw [decide_eq_true d] at c3
               clear hT
               (have kc1:=c2;have kc2:=c3;refine w0 ?_;(repeat' (first|refine W2.mk ?_ ?_|refine W1.mk fun hc=>?_|((first|apply aD rfl|apply aF rfl|apply aG rfl|apply aH rfl);(focus (first|(exact jF [sC E[i]] c1)|((apply az 5;(focus rfl);first|exact aw ⟨rfl,rfl,rfl⟩ rfl inferInstance rfl rfl rfl HY rfl|exact ae ⟨rfl,rfl,rfl⟩ rfl inferInstance inferInstance rfl rfl rfl HY rfl rfl rfl))|((apply az 6;(focus rfl);first|exact al ⟨rfl,rfl⟩ rfl inferInstance rfl rfl rfl rfl HY rfl (aK rfl rfl rfl) rfl HS1|exact al ⟨rfl,rfl⟩ rfl inferInstance rfl rfl rfl rfl HY2 rfl (aK rfl rfl rfl) rfl HS2))|(apply bx;(focus rfl);apply ag rfl rfl rfl rfl rfl;first|(exact jF [sC E[i]] c1)|((apply az 5;(focus rfl);first|exact aw ⟨rfl,rfl,rfl⟩ rfl inferInstance rfl rfl rfl HY rfl|exact ae ⟨rfl,rfl,rfl⟩ rfl inferInstance inferInstance rfl rfl rfl HY rfl rfl rfl))|((apply az 6;(focus rfl);first|exact al ⟨rfl,rfl⟩ rfl inferInstance rfl rfl rfl rfl HY rfl (aK rfl rfl rfl) rfl HS1|exact al ⟨rfl,rfl⟩ rfl inferInstance rfl rfl rfl rfl HY2 rfl (aK rfl rfl rfl) rfl HS2)))));refine w0 ?_)));all_goals clear kc2 kc1)
               refine ⟨(i + 1,o ++ [⟨⟨y.rg.lo,emB,true⟩,y.set⟩]),⟨by simp only;omega,by simp only;omega,.inr ⟨o,_,rfl,hy1,hy2,hm⟩⟩,by simp only;omega,?_⟩
               exact ab
             · rw [hT,c,decide_eq_false d,if_neg (show ¬ (true && false) = true by decide)] at hm
               rw [c] at c2
               rw [decide_eq_false d] at c3
               clear hT
               (have kc1:=c2;have kc2:=c3;refine w0 ?_;(repeat' (first|refine W2.mk ?_ ?_|refine W1.mk fun hc=>?_|((first|apply aD rfl|apply aF rfl|apply aG rfl|apply aH rfl);(focus (first|(exact jF [sC E[i]] c1)|((apply az 5;(focus rfl);first|exact aw ⟨rfl,rfl,rfl⟩ rfl inferInstance rfl rfl rfl HY rfl|exact ae ⟨rfl,rfl,rfl⟩ rfl inferInstance inferInstance rfl rfl rfl HY rfl rfl rfl))|(apply bx;(focus rfl);apply ag rfl rfl rfl rfl rfl;first|(exact jF [sC E[i]] c1)|((apply az 5;(focus rfl);first|exact aw ⟨rfl,rfl,rfl⟩ rfl inferInstance rfl rfl rfl HY rfl|exact ae ⟨rfl,rfl,rfl⟩ rfl inferInstance inferInstance rfl rfl rfl HY rfl rfl rfl)))));refine w0 ?_)));all_goals clear kc2 kc1)
               refine ⟨(i + 1,L ++ [⟨⟨E[i],emB,true⟩,F E[i]⟩]),⟨by simp only;omega,by simp;omega,.inr ⟨L,_,rfl,hok,htt,by simp only;rw [← hLL,List.append_assoc];exact hm⟩⟩,by simp only;omega,ak (aM 700 701) (ak (aM 701 700) ?_)⟩
               exact ab
           · have c:fG y.rg ⟨E[i],emB,true⟩ = false:=by simpa using c
             rw [hT,c,Bool.false_and,if_neg (show ¬ false = true by decide)] at hm
             rw [c] at c2
             clear hT c3
             (have kc1:=c2;refine w0 ?_;(repeat' (first|refine W2.mk ?_ ?_|refine W1.mk fun hc=>?_|((first|apply aD rfl|apply aF rfl|apply aG rfl|apply aH rfl);(focus (first|(exact jF [sC E[i]] c1)|((apply az 5;(focus rfl);first|exact aw ⟨rfl,rfl,rfl⟩ rfl inferInstance rfl rfl rfl HY rfl|exact ae ⟨rfl,rfl,rfl⟩ rfl inferInstance inferInstance rfl rfl rfl HY rfl rfl rfl))|(apply bx;(focus rfl);apply ag rfl rfl rfl rfl rfl;first|(exact jF [sC E[i]] c1)|((apply az 5;(focus rfl);first|exact aw ⟨rfl,rfl,rfl⟩ rfl inferInstance rfl rfl rfl HY rfl|exact ae ⟨rfl,rfl,rfl⟩ rfl inferInstance inferInstance rfl rfl rfl HY rfl rfl rfl)))));refine w0 ?_)));all_goals clear kc1)
             refine ⟨(i + 1,L ++ [⟨⟨E[i],emB,true⟩,F E[i]⟩]),⟨by simp only;omega,by simp;omega,.inr ⟨L,_,rfl,hok,htt,by simp only;rw [← hLL,List.append_assoc];exact hm⟩⟩,by simp only;omega,ak (aM 700 701) (ak (aM 701 700) ?_)⟩
             exact ab
   · have g3:out = R:=by
       rw [List.drop_of_length_le (by omega)] at g2
       rcases g2 with ⟨a,b⟩|⟨o,y,a,_,_,b⟩
       · rw [a,← b];rfl
       · rw [a,← b];rfl
     clear g2 hat hF hTt
     (refine w0 ?_;(repeat' first|refine W2.mk ?_ ?_|refine W1.mk fun hc=>?_))
     refine aQ ?_
     exact dq rfl rfl rfl g3
end
end Go.Proofs.YtembiemaiacdfaaGreat
