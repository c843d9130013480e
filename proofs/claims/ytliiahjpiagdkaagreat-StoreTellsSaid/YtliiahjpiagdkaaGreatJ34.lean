/- Texts joined: Rkm. -/
import Derived.Test.YtliiahjpiagdkaaGreatJ29
import Derived.Test.YtliiahjpiagdkaaGreatJ05
set_option maxRecDepth 10000
set_option maxHeartbeats 8000000
namespace Go.Proofs.YtliiahjpiagdkaaGreat
open Go.RowKit
section
theorem va (op:Int) (a b:List Pc) (Z:List Rg) (F:ByteArray → List Kn) (ha:a.length ≤ 500000) (hb:b.length ≤ 500000) (hz:Z.length ≤ 400000) (hat:∀ s ∈ iw [emB] (bB a ++ (bB b ++ Z)),Fn Tryz.prog 148 [iC .i64 op,bV a,bV b,dS Z,sC s] (k9 (F s))) (hF:∀ s ∈ iw [emB] (bB a ++ (bB b ++ Z)),jX (F s)) :
 Fn Tryz.prog 99 [iC .i64 op,bV a,bV b,dS Z] (l8 (kL F (iw [emB] (bB a ++ (bB b ++ Z))))):=by
 have s1:=uZ a (by omega)
 have s2:=uZ b (by omega)
 have e1:=EZ (bB a) (bB b ++ Z) (by unfold bB;rw [List.length_map];omega) (by unfold bB;rw [List.length_append,List.length_map];omega)
 have hlE:=jY (bB a ++ (bB b ++ Z)) [emB]
 have hla:(bB a).length = a.length:=by unfold bB;rw [List.length_map]
 have hlb:(bB b).length = b.length:=by unfold bB;rw [List.length_map]
 rw [List.length_append,List.length_append,hla,hlb,List.length_singleton] at hlE
 have eE:True:=trivial
 generalize iw [emB] (bB a ++ (bB b ++ Z)) = E at *
 generalize bB a = A at *
 generalize bB b = B at *
 have hl:E.length ≤ 1000000000:=by omega
 have e1:Fn Tryz.prog 147 [dS A,.bor 3 (B.map rgP ++ Z.map rgP)] (.per (PR E)):=by rw [← List.map_append];exact e1
 clear eE
 generalize hR:kL F E = R
 unfold kL at hR
 refine fi Tryz.func99 Tryz.ntmps99 ?_
 (refine M0 s2 ?_;repeat' first|apply ai|refine aj fun hc=>?_)
 refine jx (b7 16 900 50 3 rfl rfl) ?_
 (refine x8 e1 s1 ?_;repeat' first|apply ai|refine aj fun hc=>?_)
 refine bZ (b7 11 700 66 4 rfl rfl) ?_
 clear s1 s2 e1
 refine an (X:=Nat × List Pc) (fun x=>x.1 ≤ E.length ∧ x.2.length ≤ x.1 ∧ ((x.2 = [] ∧ gZ (dZ F (E.drop x.1)) = R) ∨ ∃ o y,x.2 = o ++ [y] ∧ jX y.set ∧ o ++ sr y (dZ F (E.drop x.1)) = R))
  (fun x=>ba [(0,iC .i64 op),(1,bV a),(2,bV b),(3,dS Z),(10,PS E),(11,.row 700 0),(12,iC .i64 ((x.1:Nat):Int))] [(700,LL x.2)]) (fun x=>E.length - x.1) (0,[]) ⟨Nat.zero_le _,Nat.le_refl _,.inl ⟨rfl,by simpa using hR⟩⟩ ?_ ?_
 ·exact ae
 ·rintro ⟨i,out⟩ ⟨g1,g0,g2⟩
  simp only at g1 g0 g2 ⊢
  clear hR
  by_cases hi:i < E.length
  ·have c1:=(hat _ (List.getElem_mem hi)).frz
   have htt:=hF _ (List.getElem_mem hi)
   have hseg:=uJ F hi
   clear hat hF
   by_cases hi2:i + 1 < E.length
   ·rw [yJ hi2] at hseg
    by_cases hL:(F E[i]).length = 0
    ·rw [if_pos hL,List.nil_append] at hseg
     rw [hseg] at g2
     have g2':(out = [] ∧ gZ (dZ F (E.drop (i + 1))) = R) ∨ ∃ o y,out = o ++ [y] ∧ jX y.set ∧ o ++ sr y (dZ F (E.drop (i + 1))) = R:=g2
     clear hseg g2
     (refine bU (show ((i:Nat):Int) + 1 = ((i + 1:Nat):Int) by omega) c1 ?_;repeat' first|apply ai|refine aj fun hc=>?_)
     refine ⟨(i + 1,out),⟨by simp only;omega,by simp only;omega,g2'⟩,by simp only;omega,?_⟩
     exact ae
    ·have hseg':dZ F (E.drop i) = ⟨⟨E[i],E[i + 1],false⟩,F E[i]⟩ :: dZ F (E.drop (i + 1)):=by rw [hseg,if_neg hL];rfl
     rw [hseg'] at g2
     clear hseg hseg'
     rcases g2 with ⟨ho,hm⟩|⟨o,y,ho,hy1,hm⟩
     ·subst ho
      (refine bU (show ((i:Nat):Int) + 1 = ((i + 1:Nat):Int) by omega) c1 ?_;repeat' first|apply ai|refine aj fun hc=>?_)
      refine ⟨(i + 1,[⟨⟨E[i],E[i + 1],false⟩,F E[i]⟩]),⟨by simp only;omega,by simp,.inr ⟨[],_,rfl,htt,hm⟩⟩,by simp only;omega,ay (aN 700 701) (ay (aN 701 700) ?_)⟩
      exact ae
     ·subst ho
      have c3:=oJ y.set (F E[i]) hy1
      rw [sr] at hm
      simp only at hm
      have hT:tT y ⟨⟨E[i],E[i + 1],false⟩,F E[i]⟩ = (!y.rg.op && (decide (y.rg.hi = E[i]) && decide (y.set = F E[i]))):=rfl
      have hL1:(o ++ [y]).length = o.length + 1:=by simp
      generalize hLL:o ++ [y] = L at *
      have hLi:((L.length:Int) - 1).toNat = o.length:=by omega
      have HY:Hid ((L.map pcP)[((L.length:Int) - 1).toNat]? = some (pcP y)):=Lib.hid (by
       rw [List.getElem?_map,hLi,← hLL]
       simp)
      by_cases co:y.rg.op = false
      ·by_cases ch:y.rg.hi = E[i]
       ·have hEq:=(ip _ _).2 ch
        by_cases d:y.set = F E[i]
        ·have HS1:Hid ((L.map pcP).set ((L.length:Int) - 1).toNat (cG (pcP y) 1 [av (.string E[i + 1])]) = (o ++ [(⟨⟨y.rg.lo,E[i + 1],y.rg.op⟩,y.set⟩:Pc)]).map pcP):=Lib.hid (by
          rw [show (L.map pcP).set ((L.length:Int) - 1).toNat (cG (pcP y) 1 [av (.string E[i + 1])]) = (L.set ((L.length:Int) - 1).toNat ⟨⟨y.rg.lo,E[i + 1],y.rg.op⟩,y.set⟩).map pcP from fD pcP L _ (⟨⟨y.rg.lo,E[i + 1],y.rg.op⟩,y.set⟩:Pc),← hLL,gY o y _ [] _ (by rw [hLL];omega)])
         have HY2:Hid (((o ++ [(⟨⟨y.rg.lo,E[i + 1],y.rg.op⟩,y.set⟩:Pc)]).map pcP)[((L.length:Int) - 1).toNat]? = some (pcP ⟨⟨y.rg.lo,E[i + 1],y.rg.op⟩,y.set⟩)):=Lib.hid (by
          rw [List.getElem?_map,hLi]
          simp)
         have HS2:Hid (((o ++ [(⟨⟨y.rg.lo,E[i + 1],y.rg.op⟩,y.set⟩:Pc)]).map pcP).set ((L.length:Int) - 1).toNat (cG (pcP ⟨⟨y.rg.lo,E[i + 1],y.rg.op⟩,y.set⟩) 2 [av (.bool false)]) = (o ++ [(⟨⟨y.rg.lo,E[i + 1],false⟩,y.set⟩:Pc)]).map pcP):=Lib.hid (by
          rw [show ((o ++ [(⟨⟨y.rg.lo,E[i + 1],y.rg.op⟩,y.set⟩:Pc)]).map pcP).set ((L.length:Int) - 1).toNat (cG (pcP ⟨⟨y.rg.lo,E[i + 1],y.rg.op⟩,y.set⟩) 2 [av (.bool false)]) = ((o ++ [(⟨⟨y.rg.lo,E[i + 1],y.rg.op⟩,y.set⟩:Pc)]).set ((L.length:Int) - 1).toNat ⟨⟨y.rg.lo,E[i + 1],false⟩,y.set⟩).map pcP from fD pcP (o ++ [(⟨⟨y.rg.lo,E[i + 1],y.rg.op⟩,y.set⟩:Pc)]) _ (⟨⟨y.rg.lo,E[i + 1],false⟩,y.set⟩:Pc),gY o _ _ [] _ (by omega)])
         have hML:(o ++ [(⟨⟨y.rg.lo,E[i + 1],false⟩,y.set⟩:Pc)]).length = L.length:=by rw [← hLL];simp
         have hML2:(o ++ [(⟨⟨y.rg.lo,E[i + 1],y.rg.op⟩,y.set⟩:Pc)]).length = L.length:=by rw [← hLL];simp
         rw [hT,co,decide_eq_true ch,decide_eq_true d,if_pos (show (!false && (true && true)) = true from rfl)] at hm
         rw [decide_eq_true d] at c3
         clear hT d
         have hmh:=Lib.hid hm
         have hLh:=Lib.hid hLL
         clear hm hLL
         (refine bi (show ((i:Nat):Int) + 1 = ((i + 1:Nat):Int) by omega) c1 c3 ?_;repeat' first|apply ai|refine aj fun hc=>?_|((first|apply aO rfl|apply aP rfl|apply aQ rfl|apply aR rfl);(focus ((try (apply b8;(focus rfl);apply ah rfl rfl rfl rfl rfl));first|((apply bn 5;(focus rfl);first|exact bm ⟨rfl,rfl,rfl⟩ rfl inferInstance rfl rfl rfl HY.out rfl|exact aB ⟨rfl,rfl,rfl⟩ rfl inferInstance inferInstance rfl rfl rfl HY.out rfl rfl rfl))|((apply bn 6;(focus rfl);first|exact aX ⟨rfl,rfl⟩ rfl inferInstance rfl rfl rfl rfl HY.out rfl (bx rfl rfl rfl) rfl HS1.out|exact aX ⟨rfl,rfl⟩ rfl inferInstance rfl rfl rfl rfl HY2.out rfl (bx rfl rfl rfl) rfl HS2.out))));refine bi (show ((i:Nat):Int) + 1 = ((i + 1:Nat):Int) by omega) c1 c3 ?_))
         all_goals first
          | (refine ⟨(i + 1,o ++ [⟨⟨y.rg.lo,E[i + 1],false⟩,y.set⟩]),⟨by simp only;omega,by simp only;omega,.inr ⟨o,_,rfl,hy1,hmh.out⟩⟩,by simp only;omega,?_⟩
             exact ae)
        ·rw [hT,co,decide_eq_true ch,decide_eq_false d,if_neg (show ¬ (!false && (true && false)) = true by decide)] at hm
         rw [decide_eq_false d] at c3
         clear hT d
         have hmh:=Lib.hid hm
         have hLh:=Lib.hid hLL
         clear hm hLL
         (refine bi (show ((i:Nat):Int) + 1 = ((i + 1:Nat):Int) by omega) c1 c3 ?_;repeat' first|apply ai|refine aj fun hc=>?_|((first|apply aO rfl|apply aP rfl|apply aQ rfl|apply aR rfl);(focus ((try (apply b8;(focus rfl);apply ah rfl rfl rfl rfl rfl));first|((apply bn 5;(focus rfl);first|exact bm ⟨rfl,rfl,rfl⟩ rfl inferInstance rfl rfl rfl HY.out rfl|exact aB ⟨rfl,rfl,rfl⟩ rfl inferInstance inferInstance rfl rfl rfl HY.out rfl rfl rfl))));refine bi (show ((i:Nat):Int) + 1 = ((i + 1:Nat):Int) by omega) c1 c3 ?_))
         all_goals first
          | (refine ⟨(i + 1,L ++ [⟨⟨E[i],E[i + 1],false⟩,F E[i]⟩]),⟨by simp only;omega,by simp;omega,.inr ⟨L,_,rfl,htt,by simp only;rw [← hLh.out,List.append_assoc];exact hmh.out⟩⟩,by simp only;omega,ay (aN 700 701) (ay (aN 701 700) ?_)⟩
             exact ae)
       ·have hNe:=fun q=>ch ((ip _ _).1 q)
        rw [hT,co,decide_eq_false ch,Bool.false_and,Bool.and_false,if_neg (show ¬ false = true by decide)] at hm
        clear hT
        have hmh:=Lib.hid hm
        have hLh:=Lib.hid hLL
        clear hm hLL
        (refine bi (show ((i:Nat):Int) + 1 = ((i + 1:Nat):Int) by omega) c1 c3 ?_;repeat' first|apply ai|refine aj fun hc=>?_|((first|apply aO rfl|apply aP rfl|apply aQ rfl|apply aR rfl);(focus ((try (apply b8;(focus rfl);apply ah rfl rfl rfl rfl rfl));first|((apply bn 5;(focus rfl);first|exact bm ⟨rfl,rfl,rfl⟩ rfl inferInstance rfl rfl rfl HY.out rfl|exact aB ⟨rfl,rfl,rfl⟩ rfl inferInstance inferInstance rfl rfl rfl HY.out rfl rfl rfl))));refine bi (show ((i:Nat):Int) + 1 = ((i + 1:Nat):Int) by omega) c1 c3 ?_))
        all_goals first
         | (refine ⟨(i + 1,L ++ [⟨⟨E[i],E[i + 1],false⟩,F E[i]⟩]),⟨by simp only;omega,by simp;omega,.inr ⟨L,_,rfl,htt,by simp only;rw [← hLh.out,List.append_assoc];exact hmh.out⟩⟩,by simp only;omega,ay (aN 700 701) (ay (aN 701 700) ?_)⟩
            exact ae)
      ·have co:y.rg.op = true:=by simpa using co
       rw [hT,co,Bool.not_true,Bool.false_and,if_neg (show ¬ false = true by decide)] at hm
       clear hT
       have hmh:=Lib.hid hm
       have hLh:=Lib.hid hLL
       clear hm hLL
       (refine bi (show ((i:Nat):Int) + 1 = ((i + 1:Nat):Int) by omega) c1 c3 ?_;repeat' first|apply ai|refine aj fun hc=>?_|((first|apply aO rfl|apply aP rfl|apply aQ rfl|apply aR rfl);(focus ((try (apply b8;(focus rfl);apply ah rfl rfl rfl rfl rfl));first|((apply bn 5;(focus rfl);first|exact bm ⟨rfl,rfl,rfl⟩ rfl inferInstance rfl rfl rfl HY.out rfl|exact aB ⟨rfl,rfl,rfl⟩ rfl inferInstance inferInstance rfl rfl rfl HY.out rfl rfl rfl))));refine bi (show ((i:Nat):Int) + 1 = ((i + 1:Nat):Int) by omega) c1 c3 ?_))
       all_goals first
        | (refine ⟨(i + 1,L ++ [⟨⟨E[i],E[i + 1],false⟩,F E[i]⟩]),⟨by simp only;omega,by simp;omega,.inr ⟨L,_,rfl,htt,by simp only;rw [← hLh.out,List.append_assoc];exact hmh.out⟩⟩,by simp only;omega,ay (aN 700 701) (ay (aN 701 700) ?_)⟩
           exact ae)
   ·rw [uK hi2] at hseg
    by_cases hL:(F E[i]).length = 0
    ·rw [if_pos hL,List.nil_append] at hseg
     rw [hseg] at g2
     have g2':(out = [] ∧ gZ (dZ F (E.drop (i + 1))) = R) ∨ ∃ o y,out = o ++ [y] ∧ jX y.set ∧ o ++ sr y (dZ F (E.drop (i + 1))) = R:=g2
     clear hseg g2
     (refine bU (show ((i:Nat):Int) + 1 = ((i + 1:Nat):Int) by omega) c1 ?_;repeat' first|apply ai|refine aj fun hc=>?_)
     refine ⟨(i + 1,out),⟨by simp only;omega,by simp only;omega,g2'⟩,by simp only;omega,?_⟩
     exact ae
    ·have hseg':dZ F (E.drop i) = ⟨⟨E[i],emB,true⟩,F E[i]⟩ :: dZ F (E.drop (i + 1)):=by rw [hseg,if_neg hL];rfl
     rw [hseg'] at g2
     clear hseg hseg'
     rcases g2 with ⟨ho,hm⟩|⟨o,y,ho,hy1,hm⟩
     ·subst ho
      (refine bU (show ((i:Nat):Int) + 1 = ((i + 1:Nat):Int) by omega) c1 ?_;repeat' first|apply ai|refine aj fun hc=>?_)
      refine ⟨(i + 1,[⟨⟨E[i],emB,true⟩,F E[i]⟩]),⟨by simp only;omega,by simp,.inr ⟨[],_,rfl,htt,hm⟩⟩,by simp only;omega,ay (aN 700 701) (ay (aN 701 700) ?_)⟩
      exact ae
     ·subst ho
      have c3:=oJ y.set (F E[i]) hy1
      rw [sr] at hm
      simp only at hm
      have hT:tT y ⟨⟨E[i],emB,true⟩,F E[i]⟩ = (!y.rg.op && (decide (y.rg.hi = E[i]) && decide (y.set = F E[i]))):=rfl
      have hL1:(o ++ [y]).length = o.length + 1:=by simp
      generalize hLL:o ++ [y] = L at *
      have hLi:((L.length:Int) - 1).toNat = o.length:=by omega
      have HY:Hid ((L.map pcP)[((L.length:Int) - 1).toNat]? = some (pcP y)):=Lib.hid (by
       rw [List.getElem?_map,hLi,← hLL]
       simp)
      by_cases co:y.rg.op = false
      ·by_cases ch:y.rg.hi = E[i]
       ·have hEq:=(ip _ _).2 ch
        by_cases d:y.set = F E[i]
        ·have HS1:Hid ((L.map pcP).set ((L.length:Int) - 1).toNat (cG (pcP y) 1 [av (.string emB)]) = (o ++ [(⟨⟨y.rg.lo,emB,y.rg.op⟩,y.set⟩:Pc)]).map pcP):=Lib.hid (by
          rw [show (L.map pcP).set ((L.length:Int) - 1).toNat (cG (pcP y) 1 [av (.string emB)]) = (L.set ((L.length:Int) - 1).toNat ⟨⟨y.rg.lo,emB,y.rg.op⟩,y.set⟩).map pcP from fD pcP L _ (⟨⟨y.rg.lo,emB,y.rg.op⟩,y.set⟩:Pc),← hLL,gY o y _ [] _ (by rw [hLL];omega)])
         have HY2:Hid (((o ++ [(⟨⟨y.rg.lo,emB,y.rg.op⟩,y.set⟩:Pc)]).map pcP)[((L.length:Int) - 1).toNat]? = some (pcP ⟨⟨y.rg.lo,emB,y.rg.op⟩,y.set⟩)):=Lib.hid (by
          rw [List.getElem?_map,hLi]
          simp)
         have HS2:Hid (((o ++ [(⟨⟨y.rg.lo,emB,y.rg.op⟩,y.set⟩:Pc)]).map pcP).set ((L.length:Int) - 1).toNat (cG (pcP ⟨⟨y.rg.lo,emB,y.rg.op⟩,y.set⟩) 2 [av (.bool true)]) = (o ++ [(⟨⟨y.rg.lo,emB,true⟩,y.set⟩:Pc)]).map pcP):=Lib.hid (by
          rw [show ((o ++ [(⟨⟨y.rg.lo,emB,y.rg.op⟩,y.set⟩:Pc)]).map pcP).set ((L.length:Int) - 1).toNat (cG (pcP ⟨⟨y.rg.lo,emB,y.rg.op⟩,y.set⟩) 2 [av (.bool true)]) = ((o ++ [(⟨⟨y.rg.lo,emB,y.rg.op⟩,y.set⟩:Pc)]).set ((L.length:Int) - 1).toNat ⟨⟨y.rg.lo,emB,true⟩,y.set⟩).map pcP from fD pcP (o ++ [(⟨⟨y.rg.lo,emB,y.rg.op⟩,y.set⟩:Pc)]) _ (⟨⟨y.rg.lo,emB,true⟩,y.set⟩:Pc),gY o _ _ [] _ (by omega)])
         have hML:(o ++ [(⟨⟨y.rg.lo,emB,true⟩,y.set⟩:Pc)]).length = L.length:=by rw [← hLL];simp
         have hML2:(o ++ [(⟨⟨y.rg.lo,emB,y.rg.op⟩,y.set⟩:Pc)]).length = L.length:=by rw [← hLL];simp
         rw [hT,co,decide_eq_true ch,decide_eq_true d,if_pos (show (!false && (true && true)) = true from rfl)] at hm
         rw [decide_eq_true d] at c3
         clear hT d
         have hmh:=Lib.hid hm
         have hLh:=Lib.hid hLL
         clear hm hLL
         (refine bi (show ((i:Nat):Int) + 1 = ((i + 1:Nat):Int) by omega) c1 c3 ?_;repeat' first|apply ai|refine aj fun hc=>?_|((first|apply aO rfl|apply aP rfl|apply aQ rfl|apply aR rfl);(focus ((try (apply b8;(focus rfl);apply ah rfl rfl rfl rfl rfl));first|((apply bn 5;(focus rfl);first|exact bm ⟨rfl,rfl,rfl⟩ rfl inferInstance rfl rfl rfl HY.out rfl|exact aB ⟨rfl,rfl,rfl⟩ rfl inferInstance inferInstance rfl rfl rfl HY.out rfl rfl rfl))|((apply bn 6;(focus rfl);first|exact aX ⟨rfl,rfl⟩ rfl inferInstance rfl rfl rfl rfl HY.out rfl (bx rfl rfl rfl) rfl HS1.out|exact aX ⟨rfl,rfl⟩ rfl inferInstance rfl rfl rfl rfl HY2.out rfl (bx rfl rfl rfl) rfl HS2.out))));refine bi (show ((i:Nat):Int) + 1 = ((i + 1:Nat):Int) by omega) c1 c3 ?_))
         all_goals first
          | (refine ⟨(i + 1,o ++ [⟨⟨y.rg.lo,emB,true⟩,y.set⟩]),⟨by simp only;omega,by simp only;omega,.inr ⟨o,_,rfl,hy1,hmh.out⟩⟩,by simp only;omega,?_⟩
             exact ae)
        ·rw [hT,co,decide_eq_true ch,decide_eq_false d,if_neg (show ¬ (!false && (true && false)) = true by decide)] at hm
         rw [decide_eq_false d] at c3
         clear hT d
         have hmh:=Lib.hid hm
         have hLh:=Lib.hid hLL
         clear hm hLL
         (refine bi (show ((i:Nat):Int) + 1 = ((i + 1:Nat):Int) by omega) c1 c3 ?_;repeat' first|apply ai|refine aj fun hc=>?_|((first|apply aO rfl|apply aP rfl|apply aQ rfl|apply aR rfl);(focus ((try (apply b8;(focus rfl);apply ah rfl rfl rfl rfl rfl));first|((apply bn 5;(focus rfl);first|exact bm ⟨rfl,rfl,rfl⟩ rfl inferInstance rfl rfl rfl HY.out rfl|exact aB ⟨rfl,rfl,rfl⟩ rfl inferInstance inferInstance rfl rfl rfl HY.out rfl rfl rfl))));refine bi (show ((i:Nat):Int) + 1 = ((i + 1:Nat):Int) by omega) c1 c3 ?_))
         all_goals first
          | (refine ⟨(i + 1,L ++ [⟨⟨E[i],emB,true⟩,F E[i]⟩]),⟨by simp only;omega,by simp;omega,.inr ⟨L,_,rfl,htt,by simp only;rw [← hLh.out,List.append_assoc];exact hmh.out⟩⟩,by simp only;omega,ay (aN 700 701) (ay (aN 701 700) ?_)⟩
             exact ae)
       ·have hNe:=fun q=>ch ((ip _ _).1 q)
        rw [hT,co,decide_eq_false ch,Bool.false_and,Bool.and_false,if_neg (show ¬ false = true by decide)] at hm
        clear hT
        have hmh:=Lib.hid hm
        have hLh:=Lib.hid hLL
        clear hm hLL
        (refine bi (show ((i:Nat):Int) + 1 = ((i + 1:Nat):Int) by omega) c1 c3 ?_;repeat' first|apply ai|refine aj fun hc=>?_|((first|apply aO rfl|apply aP rfl|apply aQ rfl|apply aR rfl);(focus ((try (apply b8;(focus rfl);apply ah rfl rfl rfl rfl rfl));first|((apply bn 5;(focus rfl);first|exact bm ⟨rfl,rfl,rfl⟩ rfl inferInstance rfl rfl rfl HY.out rfl|exact aB ⟨rfl,rfl,rfl⟩ rfl inferInstance inferInstance rfl rfl rfl HY.out rfl rfl rfl))));refine bi (show ((i:Nat):Int) + 1 = ((i + 1:Nat):Int) by omega) c1 c3 ?_))
        all_goals first
         | (refine ⟨(i + 1,L ++ [⟨⟨E[i],emB,true⟩,F E[i]⟩]),⟨by simp only;omega,by simp;omega,.inr ⟨L,_,rfl,htt,by simp only;rw [← hLh.out,List.append_assoc];exact hmh.out⟩⟩,by simp only;omega,ay (aN 700 701) (ay (aN 701 700) ?_)⟩
            exact ae)
      ·have co:y.rg.op = true:=by simpa using co
       rw [hT,co,Bool.not_true,Bool.false_and,if_neg (show ¬ false = true by decide)] at hm
       clear hT
       have hmh:=Lib.hid hm
       have hLh:=Lib.hid hLL
       clear hm hLL
       (refine bi (show ((i:Nat):Int) + 1 = ((i + 1:Nat):Int) by omega) c1 c3 ?_;repeat' first|apply ai|refine aj fun hc=>?_|((first|apply aO rfl|apply aP rfl|apply aQ rfl|apply aR rfl);(focus ((try (apply b8;(focus rfl);apply ah rfl rfl rfl rfl rfl));first|((apply bn 5;(focus rfl);first|exact bm ⟨rfl,rfl,rfl⟩ rfl inferInstance rfl rfl rfl HY.out rfl|exact aB ⟨rfl,rfl,rfl⟩ rfl inferInstance inferInstance rfl rfl rfl HY.out rfl rfl rfl))));refine bi (show ((i:Nat):Int) + 1 = ((i + 1:Nat):Int) by omega) c1 c3 ?_))
       all_goals first
        | (refine ⟨(i + 1,L ++ [⟨⟨E[i],emB,true⟩,F E[i]⟩]),⟨by simp only;omega,by simp;omega,.inr ⟨L,_,rfl,htt,by simp only;rw [← hLh.out,List.append_assoc];exact hmh.out⟩⟩,by simp only;omega,ay (aN 700 701) (ay (aN 701 700) ?_)⟩
           exact ae)
  ·have g3:out = R:=by
    rw [List.drop_of_length_le (by omega)] at g2
    rcases g2 with ⟨a,b⟩|⟨o,y,a,_,b⟩
    ·rw [a,← b];rfl
    ·rw [a,← b];rfl
   clear g2 hat hF
   (refine w0 ?_;repeat' first|apply ai|refine aj fun hc=>?_)
   refine aU ?_
   exact fN rfl rfl rfl g3
theorem J8 (op:Int) (a b:List Pc) (F:ByteArray → List Kn) (ha:a.length ≤ 500000) (hb:b.length ≤ 500000) (hat:∀ s ∈ gP (a ++ b),Fn Tryz.prog 148 [iC .i64 op,bV a,bV b,Oj,sC s] (k9 (F s))) (hF:∀ s ∈ gP (a ++ b),jX (F s)) :
 Fn Tryz.prog 99 [iC .i64 op,bV a,bV b,Oj] (l8 (kL F (gP (a ++ b)))):=by
 have eE:iw [emB] (bB a ++ (bB b ++ [])) = gP (a ++ b):=by unfold gP bB;rw [List.map_append,List.append_nil]
 have h:=va op a b [] F ha hb (by simp) (by rw [eE];exact hat) (by rw [eE];exact hF)
 rw [eE] at h
 exact h
end
end Go.Proofs.YtliiahjpiagdkaaGreat
