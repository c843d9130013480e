/- Texts joined: KnB. -/
import Derived.Test.YtembiemaiacdfaaGreatJ16
import Derived.Test.YtembiemaiacdfaaGreatJ17
import Derived.Test.YtembiemaiacdfaaGreatJ05
set_option maxRecDepth 10000
set_option maxHeartbeats 8000000
namespace Go.Proofs.YtembiemaiacdfaaGreat
open Go.RowKit
abbrev Iu (l:List Pc):Blk:=.row 110 4 (l.map pcP)
abbrev m0 (l:List Pc):Ret:=.own 110 4 (l.map pcP)
theorem se (F:ByteArray → List Kn) {E:List ByteArray} {i:Nat} (h:i < E.length):dJ F (E.drop i) = (if (F E[i]).length = 0 then [] else [⟨lH E[i] (E.drop (i + 1)),F E[i]⟩]) ++ dJ F (E.drop (i + 1)):=by
 rw [List.drop_eq_getElem_cons h,dJ]
theorem vX {E:List ByteArray} {i:Nat} (h:i + 1 < E.length) (s:ByteArray):lH s (E.drop (i + 1)) = ⟨s,E[i + 1],false⟩:=by
 rw [List.drop_eq_getElem_cons h];rfl
theorem sh {E:List ByteArray} {i:Nat} (h:¬ i + 1 < E.length) (s:ByteArray):lH s (E.drop (i + 1)) = ⟨s,emB,true⟩:=by
 rw [List.drop_of_length_le (by omega)];rfl
section
theorem vY (f:FuncId) (As:List PV) (F:ByteArray → List Kn) (E:List ByteArray) (hl:E.length ≤ 1000000000) (hat:∀ s ∈ E,dY Tryz.prog f (sC s :: As.map Cnt.per) [] (.per (J4 (F s))) []) (hF:∀ s ∈ E,bX (F s)) (hTt:∀ s ∈ E,cC (F s)) :
   Fn Tryz.prog 92 [.bor 1 (E.map strP),.per (Bd f As)] (m0 (l5 F E)):=by
 generalize hR:l5 F E = R
 unfold l5 at hR
 refine fi Tryz.func92 Tryz.ntmps92 ?_
 (refine w0 ?_;(repeat' first|refine W2.mk ?_ ?_|refine W1.mk fun hc=>?_))
 refine cc (bv 5 700 110 4 rfl rfl) ?_
 refine ah (X:=Nat × List Pc) (fun x=>x.1 ≤ E.length ∧ x.2.length ≤ x.1 ∧ ((x.2 = [] ∧ gS (dJ F (E.drop x.1)) = R) ∨ ∃ o y,x.2 = o ++ [y] ∧ bX y.set ∧ cC y.set ∧ o ++ ry y (dJ F (E.drop x.1)) = R))
   (fun x=>aJ [(0,.bor 1 (E.map strP)),(1,.per (Bd f As)),(5,.row 700 0),(11,.bor 1 (E.map strP)),(12,iC .i64 (E.length:Nat)),(13,iC .i64 ((x.1:Nat):Int))] [(700,Iu x.2)]) (fun x=>E.length - x.1) (0,[]) ⟨Nat.zero_le _,Nat.le_refl _,.inl ⟨rfl,by simpa using hR⟩⟩ ?_ ?_
 · exact ab
 · rintro ⟨i,out⟩ ⟨g1,g0,g2⟩
   simp only at g1 g0 g2 ⊢
   clear hR
   by_cases hi:i < E.length
   · have c1:=hat _ (List.getElem_mem hi)
     have hok:=hF _ (List.getElem_mem hi)
     have htt:=hTt _ (List.getElem_mem hi)
     have hseg:=se F hi
     clear hat hF hTt
     by_cases hi2:i + 1 < E.length
     · rw [vX hi2] at hseg
       by_cases hL:(F E[i]).length = 0
       · rw [if_pos hL,List.nil_append] at hseg
         rw [hseg] at g2
         have g2':(out = [] ∧ gS (dJ F (E.drop (i + 1))) = R) ∨ ∃ o y,out = o ++ [y] ∧ bX y.set ∧ cC y.set ∧ o ++ ry y (dJ F (E.drop (i + 1))) = R:=g2
         clear hseg g2
         (have ke1:=Lib.hid ((show ((i:Nat):Int) + 1 = ((i + 1:Nat):Int) by omega));refine bm ?_;(repeat' (first|refine W2.mk ?_ ?_|refine W1.mk fun hc=>?_|((first|apply aB rfl|apply aC rfl|apply aD rfl|apply aF rfl);(focus (first|(exact jt [sC E[i]] c1)|(apply bt;(focus rfl);apply ag rfl rfl rfl rfl rfl;first|(exact jt [sC E[i]] c1))));refine bm ?_)));all_goals clear ke1)
         refine ⟨(i + 1,out),⟨by simp only;omega,by simp only;omega,g2'⟩,by simp only;omega,?_⟩
         exact ab
       · have hseg':dJ F (E.drop i) = ⟨⟨E[i],E[i + 1],false⟩,F E[i]⟩ :: dJ F (E.drop (i + 1)):=by rw [hseg,if_neg hL];rfl
         rw [hseg'] at g2
         clear hseg hseg'
         rcases g2 with ⟨ho,hm⟩|⟨o,y,ho,hy1,hy2,hm⟩
         · subst ho
           (have ke1:=Lib.hid ((show ((i:Nat):Int) + 1 = ((i + 1:Nat):Int) by omega));refine bm ?_;(repeat' (first|refine W2.mk ?_ ?_|refine W1.mk fun hc=>?_|((first|apply aB rfl|apply aC rfl|apply aD rfl|apply aF rfl);(focus (first|(exact jt [sC E[i]] c1)|(apply bt;(focus rfl);apply ag rfl rfl rfl rfl rfl;first|(exact jt [sC E[i]] c1))));refine bm ?_)));all_goals clear ke1)
           refine ⟨(i + 1,[⟨⟨E[i],E[i + 1],false⟩,F E[i]⟩]),⟨by simp only;omega,by simp,.inr ⟨[],_,rfl,hok,htt,hm⟩⟩,by simp only;omega,an (aM 700 701) (an (aM 701 700) ?_)⟩
           exact ab
         · subst ho
           have c2:=ma y.rg ⟨E[i],E[i + 1],false⟩
           have c3:=l6 y.set (F E[i]) hy2 htt hy1 hok
           rw [ry] at hm
           simp only at hm
           have hT:rx y ⟨⟨E[i],E[i + 1],false⟩,F E[i]⟩ = (ft y.rg ⟨E[i],E[i + 1],false⟩ && decide (y.set = F E[i])):=by
             unfold rx ft
             rw [Bool.and_assoc]
           have hL1:(o ++ [y]).length = o.length + 1:=by simp
           generalize hLL:o ++ [y] = L at *
           have hLi:((L.length:Int) - 1).toNat = o.length:=by omega
           have HY:(L.map pcP)[((L.length:Int) - 1).toNat]? = some (pcP y):=by
             rw [List.getElem?_map,hLi,← hLL]
             simp
           by_cases c:ft y.rg ⟨E[i],E[i + 1],false⟩ = true
           · by_cases d:y.set = F E[i]
             · have HS1:(L.map pcP).set ((L.length:Int) - 1).toNat (bL (pcP y) 1 [ao (.string E[i + 1])]) = (o ++ [(⟨⟨y.rg.lo,E[i + 1],y.rg.op⟩,y.set⟩:Pc)]).map pcP:=by
                 rw [show (L.map pcP).set ((L.length:Int) - 1).toNat (bL (pcP y) 1 [ao (.string E[i + 1])]) = (L.set ((L.length:Int) - 1).toNat ⟨⟨y.rg.lo,E[i + 1],y.rg.op⟩,y.set⟩).map pcP from ey pcP L _ (⟨⟨y.rg.lo,E[i + 1],y.rg.op⟩,y.set⟩:Pc),← hLL,fW o y _ [] _ (by rw [hLL];omega)]
               have HY2:((o ++ [(⟨⟨y.rg.lo,E[i + 1],y.rg.op⟩,y.set⟩:Pc)]).map pcP)[((L.length:Int) - 1).toNat]? = some (pcP ⟨⟨y.rg.lo,E[i + 1],y.rg.op⟩,y.set⟩):=by
                 rw [List.getElem?_map,hLi]
                 simp
               have HS2:((o ++ [(⟨⟨y.rg.lo,E[i + 1],y.rg.op⟩,y.set⟩:Pc)]).map pcP).set ((L.length:Int) - 1).toNat (bL (pcP ⟨⟨y.rg.lo,E[i + 1],y.rg.op⟩,y.set⟩) 2 [ao (.bool false)]) = (o ++ [(⟨⟨y.rg.lo,E[i + 1],false⟩,y.set⟩:Pc)]).map pcP:=by
                 rw [show ((o ++ [(⟨⟨y.rg.lo,E[i + 1],y.rg.op⟩,y.set⟩:Pc)]).map pcP).set ((L.length:Int) - 1).toNat (bL (pcP ⟨⟨y.rg.lo,E[i + 1],y.rg.op⟩,y.set⟩) 2 [ao (.bool false)]) = ((o ++ [(⟨⟨y.rg.lo,E[i + 1],y.rg.op⟩,y.set⟩:Pc)]).set ((L.length:Int) - 1).toNat ⟨⟨y.rg.lo,E[i + 1],false⟩,y.set⟩).map pcP from ey pcP (o ++ [(⟨⟨y.rg.lo,E[i + 1],y.rg.op⟩,y.set⟩:Pc)]) _ (⟨⟨y.rg.lo,E[i + 1],false⟩,y.set⟩:Pc),fW o _ _ [] _ (by omega)]
               have hML:(o ++ [(⟨⟨y.rg.lo,E[i + 1],false⟩,y.set⟩:Pc)]).length = L.length:=by rw [← hLL];simp
               have hML2:(o ++ [(⟨⟨y.rg.lo,E[i + 1],y.rg.op⟩,y.set⟩:Pc)]).length = L.length:=by rw [← hLL];simp
               rw [hT,c,decide_eq_true d,if_pos (show (true && true) = true from rfl)] at hm
               rw [c] at c2
               rw [decide_eq_true d] at c3
               clear hT
               (have kc1:=c2;have kc2:=c3;have ke1:=Lib.hid ((show ((i:Nat):Int) + 1 = ((i + 1:Nat):Int) by omega));refine bm ?_;(repeat' (first|refine W2.mk ?_ ?_|refine W1.mk fun hc=>?_|((first|apply aB rfl|apply aC rfl|apply aD rfl|apply aF rfl);(focus (first|(exact jt [sC E[i]] c1)|((apply ax 5;(focus rfl);first|exact ay ⟨rfl,rfl,rfl⟩ rfl inferInstance rfl rfl rfl HY rfl|exact ae ⟨rfl,rfl,rfl⟩ rfl inferInstance inferInstance rfl rfl rfl HY rfl rfl rfl))|((apply ax 6;(focus rfl);first|exact al ⟨rfl,rfl⟩ rfl inferInstance rfl rfl rfl rfl HY rfl (aG rfl rfl rfl) rfl HS1|exact al ⟨rfl,rfl⟩ rfl inferInstance rfl rfl rfl rfl HY2 rfl (aG rfl rfl rfl) rfl HS2))|(apply bt;(focus rfl);apply ag rfl rfl rfl rfl rfl;first|(exact jt [sC E[i]] c1)|((apply ax 5;(focus rfl);first|exact ay ⟨rfl,rfl,rfl⟩ rfl inferInstance rfl rfl rfl HY rfl|exact ae ⟨rfl,rfl,rfl⟩ rfl inferInstance inferInstance rfl rfl rfl HY rfl rfl rfl))|((apply ax 6;(focus rfl);first|exact al ⟨rfl,rfl⟩ rfl inferInstance rfl rfl rfl rfl HY rfl (aG rfl rfl rfl) rfl HS1|exact al ⟨rfl,rfl⟩ rfl inferInstance rfl rfl rfl rfl HY2 rfl (aG rfl rfl rfl) rfl HS2)))));refine bm ?_)));all_goals clear ke1 kc2 kc1)
               refine ⟨(i + 1,o ++ [⟨⟨y.rg.lo,E[i + 1],false⟩,y.set⟩]),⟨by simp only;omega,by simp only;omega,.inr ⟨o,_,rfl,hy1,hy2,hm⟩⟩,by simp only;omega,?_⟩
               exact ab
             · rw [hT,c,decide_eq_false d,if_neg (show ¬ (true && false) = true by decide)] at hm
               rw [c] at c2
               rw [decide_eq_false d] at c3
               clear hT
               (have kc1:=c2;have kc2:=c3;have ke1:=Lib.hid ((show ((i:Nat):Int) + 1 = ((i + 1:Nat):Int) by omega));refine bm ?_;(repeat' (first|refine W2.mk ?_ ?_|refine W1.mk fun hc=>?_|((first|apply aB rfl|apply aC rfl|apply aD rfl|apply aF rfl);(focus (first|(exact jt [sC E[i]] c1)|((apply ax 5;(focus rfl);first|exact ay ⟨rfl,rfl,rfl⟩ rfl inferInstance rfl rfl rfl HY rfl|exact ae ⟨rfl,rfl,rfl⟩ rfl inferInstance inferInstance rfl rfl rfl HY rfl rfl rfl))|(apply bt;(focus rfl);apply ag rfl rfl rfl rfl rfl;first|(exact jt [sC E[i]] c1)|((apply ax 5;(focus rfl);first|exact ay ⟨rfl,rfl,rfl⟩ rfl inferInstance rfl rfl rfl HY rfl|exact ae ⟨rfl,rfl,rfl⟩ rfl inferInstance inferInstance rfl rfl rfl HY rfl rfl rfl)))));refine bm ?_)));all_goals clear ke1 kc2 kc1)
               refine ⟨(i + 1,L ++ [⟨⟨E[i],E[i + 1],false⟩,F E[i]⟩]),⟨by simp only;omega,by simp;omega,.inr ⟨L,_,rfl,hok,htt,by simp only;rw [← hLL,List.append_assoc];exact hm⟩⟩,by simp only;omega,an (aM 700 701) (an (aM 701 700) ?_)⟩
               exact ab
           · have c:ft y.rg ⟨E[i],E[i + 1],false⟩ = false:=by simpa using c
             rw [hT,c,Bool.false_and,if_neg (show ¬ false = true by decide)] at hm
             rw [c] at c2
             clear hT c3
             (have kc1:=c2;have ke1:=Lib.hid ((show ((i:Nat):Int) + 1 = ((i + 1:Nat):Int) by omega));refine bm ?_;(repeat' (first|refine W2.mk ?_ ?_|refine W1.mk fun hc=>?_|((first|apply aB rfl|apply aC rfl|apply aD rfl|apply aF rfl);(focus (first|(exact jt [sC E[i]] c1)|((apply ax 5;(focus rfl);first|exact ay ⟨rfl,rfl,rfl⟩ rfl inferInstance rfl rfl rfl HY rfl|exact ae ⟨rfl,rfl,rfl⟩ rfl inferInstance inferInstance rfl rfl rfl HY rfl rfl rfl))|(apply bt;(focus rfl);apply ag rfl rfl rfl rfl rfl;first|(exact jt [sC E[i]] c1)|((apply ax 5;(focus rfl);first|exact ay ⟨rfl,rfl,rfl⟩ rfl inferInstance rfl rfl rfl HY rfl|exact ae ⟨rfl,rfl,rfl⟩ rfl inferInstance inferInstance rfl rfl rfl HY rfl rfl rfl)))));refine bm ?_)));all_goals clear ke1 kc1)
             refine ⟨(i + 1,L ++ [⟨⟨E[i],E[i + 1],false⟩,F E[i]⟩]),⟨by simp only;omega,by simp;omega,.inr ⟨L,_,rfl,hok,htt,by simp only;rw [← hLL,List.append_assoc];exact hm⟩⟩,by simp only;omega,an (aM 700 701) (an (aM 701 700) ?_)⟩
             exact ab
     · rw [sh hi2] at hseg
       by_cases hL:(F E[i]).length = 0
       · rw [if_pos hL,List.nil_append] at hseg
         rw [hseg] at g2
         have g2':(out = [] ∧ gS (dJ F (E.drop (i + 1))) = R) ∨ ∃ o y,out = o ++ [y] ∧ bX y.set ∧ cC y.set ∧ o ++ ry y (dJ F (E.drop (i + 1))) = R:=g2
         clear hseg g2
         (refine w0 ?_;(repeat' (first|refine W2.mk ?_ ?_|refine W1.mk fun hc=>?_|((first|apply aB rfl|apply aC rfl|apply aD rfl|apply aF rfl);(focus (first|(exact jt [sC E[i]] c1)|(apply bt;(focus rfl);apply ag rfl rfl rfl rfl rfl;first|(exact jt [sC E[i]] c1))));refine w0 ?_))))
         refine ⟨(i + 1,out),⟨by simp only;omega,by simp only;omega,g2'⟩,by simp only;omega,?_⟩
         exact ab
       · have hseg':dJ F (E.drop i) = ⟨⟨E[i],emB,true⟩,F E[i]⟩ :: dJ F (E.drop (i + 1)):=by rw [hseg,if_neg hL];rfl
         rw [hseg'] at g2
         clear hseg hseg'
         rcases g2 with ⟨ho,hm⟩|⟨o,y,ho,hy1,hy2,hm⟩
         · subst ho
           (refine w0 ?_;(repeat' (first|refine W2.mk ?_ ?_|refine W1.mk fun hc=>?_|((first|apply aB rfl|apply aC rfl|apply aD rfl|apply aF rfl);(focus (first|(exact jt [sC E[i]] c1)|(apply bt;(focus rfl);apply ag rfl rfl rfl rfl rfl;first|(exact jt [sC E[i]] c1))));refine w0 ?_))))
           refine ⟨(i + 1,[⟨⟨E[i],emB,true⟩,F E[i]⟩]),⟨by simp only;omega,by simp,.inr ⟨[],_,rfl,hok,htt,hm⟩⟩,by simp only;omega,an (aM 700 701) (an (aM 701 700) ?_)⟩
           exact ab
         · subst ho
           have c2:=ma y.rg ⟨E[i],emB,true⟩
           have c3:=l6 y.set (F E[i]) hy2 htt hy1 hok
           rw [ry] at hm
           simp only at hm
           have hT:rx y ⟨⟨E[i],emB,true⟩,F E[i]⟩ = (ft y.rg ⟨E[i],emB,true⟩ && decide (y.set = F E[i])):=by
             unfold rx ft
             rw [Bool.and_assoc]
           have hL1:(o ++ [y]).length = o.length + 1:=by simp
           generalize hLL:o ++ [y] = L at *
           have hLi:((L.length:Int) - 1).toNat = o.length:=by omega
           have HY:(L.map pcP)[((L.length:Int) - 1).toNat]? = some (pcP y):=by
             rw [List.getElem?_map,hLi,← hLL]
             simp
           by_cases c:ft y.rg ⟨E[i],emB,true⟩ = true
           · by_cases d:y.set = F E[i]
             · have HS1:(L.map pcP).set ((L.length:Int) - 1).toNat (bL (pcP y) 1 [ao (.string emB)]) = (o ++ [(⟨⟨y.rg.lo,emB,y.rg.op⟩,y.set⟩:Pc)]).map pcP:=by
                 rw [show (L.map pcP).set ((L.length:Int) - 1).toNat (bL (pcP y) 1 [ao (.string emB)]) = (L.set ((L.length:Int) - 1).toNat ⟨⟨y.rg.lo,emB,y.rg.op⟩,y.set⟩).map pcP from ey pcP L _ (⟨⟨y.rg.lo,emB,y.rg.op⟩,y.set⟩:Pc),← hLL,fW o y _ [] _ (by rw [hLL];omega)]
               have HY2:((o ++ [(⟨⟨y.rg.lo,emB,y.rg.op⟩,y.set⟩:Pc)]).map pcP)[((L.length:Int) - 1).toNat]? = some (pcP ⟨⟨y.rg.lo,emB,y.rg.op⟩,y.set⟩):=by
                 rw [List.getElem?_map,hLi]
                 simp
               have HS2:((o ++ [(⟨⟨y.rg.lo,emB,y.rg.op⟩,y.set⟩:Pc)]).map pcP).set ((L.length:Int) - 1).toNat (bL (pcP ⟨⟨y.rg.lo,emB,y.rg.op⟩,y.set⟩) 2 [ao (.bool true)]) = (o ++ [(⟨⟨y.rg.lo,emB,true⟩,y.set⟩:Pc)]).map pcP:=by
                 rw [show ((o ++ [(⟨⟨y.rg.lo,emB,y.rg.op⟩,y.set⟩:Pc)]).map pcP).set ((L.length:Int) - 1).toNat (bL (pcP ⟨⟨y.rg.lo,emB,y.rg.op⟩,y.set⟩) 2 [ao (.bool true)]) = ((o ++ [(⟨⟨y.rg.lo,emB,y.rg.op⟩,y.set⟩:Pc)]).set ((L.length:Int) - 1).toNat ⟨⟨y.rg.lo,emB,true⟩,y.set⟩).map pcP from ey pcP (o ++ [(⟨⟨y.rg.lo,emB,y.rg.op⟩,y.set⟩:Pc)]) _ (⟨⟨y.rg.lo,emB,true⟩,y.set⟩:Pc),fW o _ _ [] _ (by omega)]
               have hML:(o ++ [(⟨⟨y.rg.lo,emB,true⟩,y.set⟩:Pc)]).length = L.length:=by rw [← hLL];simp
               have hML2:(o ++ [(⟨⟨y.rg.lo,emB,y.rg.op⟩,y.set⟩:Pc)]).length = L.length:=by rw [← hLL];simp
               rw [hT,c,decide_eq_true d,if_pos (show (true && true) = true from rfl)] at hm
               rw [c] at c2
               rw [decide_eq_true d] at c3
               clear hT
               (have kc1:=c2;have kc2:=c3;refine w0 ?_;(repeat' (first|refine W2.mk ?_ ?_|refine W1.mk fun hc=>?_|((first|apply aB rfl|apply aC rfl|apply aD rfl|apply aF rfl);(focus (first|(exact jt [sC E[i]] c1)|((apply ax 5;(focus rfl);first|exact ay ⟨rfl,rfl,rfl⟩ rfl inferInstance rfl rfl rfl HY rfl|exact ae ⟨rfl,rfl,rfl⟩ rfl inferInstance inferInstance rfl rfl rfl HY rfl rfl rfl))|((apply ax 6;(focus rfl);first|exact al ⟨rfl,rfl⟩ rfl inferInstance rfl rfl rfl rfl HY rfl (aG rfl rfl rfl) rfl HS1|exact al ⟨rfl,rfl⟩ rfl inferInstance rfl rfl rfl rfl HY2 rfl (aG rfl rfl rfl) rfl HS2))|(apply bt;(focus rfl);apply ag rfl rfl rfl rfl rfl;first|(exact jt [sC E[i]] c1)|((apply ax 5;(focus rfl);first|exact ay ⟨rfl,rfl,rfl⟩ rfl inferInstance rfl rfl rfl HY rfl|exact ae ⟨rfl,rfl,rfl⟩ rfl inferInstance inferInstance rfl rfl rfl HY rfl rfl rfl))|((apply ax 6;(focus rfl);first|exact al ⟨rfl,rfl⟩ rfl inferInstance rfl rfl rfl rfl HY rfl (aG rfl rfl rfl) rfl HS1|exact al ⟨rfl,rfl⟩ rfl inferInstance rfl rfl rfl rfl HY2 rfl (aG rfl rfl rfl) rfl HS2)))));refine w0 ?_)));all_goals clear kc2 kc1)
               refine ⟨(i + 1,o ++ [⟨⟨y.rg.lo,emB,true⟩,y.set⟩]),⟨by simp only;omega,by simp only;omega,.inr ⟨o,_,rfl,hy1,hy2,hm⟩⟩,by simp only;omega,?_⟩
               exact ab
             · rw [hT,c,decide_eq_false d,if_neg (show ¬ (true && false) = true by decide)] at hm
               rw [c] at c2
               rw [decide_eq_false d] at c3
               clear hT
               (have kc1:=c2;have kc2:=c3;refine w0 ?_;(repeat' (first|refine W2.mk ?_ ?_|refine W1.mk fun hc=>?_|((first|apply aB rfl|apply aC rfl|apply aD rfl|apply aF rfl);(focus (first|(exact jt [sC E[i]] c1)|((apply ax 5;(focus rfl);first|exact ay ⟨rfl,rfl,rfl⟩ rfl inferInstance rfl rfl rfl HY rfl|exact ae ⟨rfl,rfl,rfl⟩ rfl inferInstance inferInstance rfl rfl rfl HY rfl rfl rfl))|(apply bt;(focus rfl);apply ag rfl rfl rfl rfl rfl;first|(exact jt [sC E[i]] c1)|((apply ax 5;(focus rfl);first|exact ay ⟨rfl,rfl,rfl⟩ rfl inferInstance rfl rfl rfl HY rfl|exact ae ⟨rfl,rfl,rfl⟩ rfl inferInstance inferInstance rfl rfl rfl HY rfl rfl rfl)))));refine w0 ?_)));all_goals clear kc2 kc1)
               refine ⟨(i + 1,L ++ [⟨⟨E[i],emB,true⟩,F E[i]⟩]),⟨by simp only;omega,by simp;omega,.inr ⟨L,_,rfl,hok,htt,by simp only;rw [← hLL,List.append_assoc];exact hm⟩⟩,by simp only;omega,an (aM 700 701) (an (aM 701 700) ?_)⟩
               exact ab
           · have c:ft y.rg ⟨E[i],emB,true⟩ = false:=by simpa using c
             rw [hT,c,Bool.false_and,if_neg (show ¬ false = true by decide)] at hm
             rw [c] at c2
             clear hT c3
             (have kc1:=c2;refine w0 ?_;(repeat' (first|refine W2.mk ?_ ?_|refine W1.mk fun hc=>?_|((first|apply aB rfl|apply aC rfl|apply aD rfl|apply aF rfl);(focus (first|(exact jt [sC E[i]] c1)|((apply ax 5;(focus rfl);first|exact ay ⟨rfl,rfl,rfl⟩ rfl inferInstance rfl rfl rfl HY rfl|exact ae ⟨rfl,rfl,rfl⟩ rfl inferInstance inferInstance rfl rfl rfl HY rfl rfl rfl))|(apply bt;(focus rfl);apply ag rfl rfl rfl rfl rfl;first|(exact jt [sC E[i]] c1)|((apply ax 5;(focus rfl);first|exact ay ⟨rfl,rfl,rfl⟩ rfl inferInstance rfl rfl rfl HY rfl|exact ae ⟨rfl,rfl,rfl⟩ rfl inferInstance inferInstance rfl rfl rfl HY rfl rfl rfl)))));refine w0 ?_)));all_goals clear kc1)
             refine ⟨(i + 1,L ++ [⟨⟨E[i],emB,true⟩,F E[i]⟩]),⟨by simp only;omega,by simp;omega,.inr ⟨L,_,rfl,hok,htt,by simp only;rw [← hLL,List.append_assoc];exact hm⟩⟩,by simp only;omega,an (aM 700 701) (an (aM 701 700) ?_)⟩
             exact ab
   · have g3:out = R:=by
       rw [List.drop_of_length_le (by omega)] at g2
       rcases g2 with ⟨a,b⟩|⟨o,y,a,_,_,b⟩
       · rw [a,← b];rfl
       · rw [a,← b];rfl
     clear g2 hat hF hTt
     (refine w0 ?_;(repeat' first|refine W2.mk ?_ ?_|refine W1.mk fun hc=>?_))
     refine aO ?_
     exact dx rfl rfl rfl g3
end
end Go.Proofs.YtembiemaiacdfaaGreat
