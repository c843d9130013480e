/- Texts joined: KnB. -/
import Derived.Test.YtliiahjpiagdkaaGreatJ15
import Derived.Test.YtliiahjpiagdkaaGreatJ05
set_option maxRecDepth 10000
set_option maxHeartbeats 8000000
namespace Go.Proofs.YtliiahjpiagdkaaGreat
open Go.RowKit
abbrev LL (l:List Pc):Blk:=.row 66 4 (l.map pcP)
abbrev l8 (l:List Pc):Ret:=.own 66 4 (l.map pcP)
theorem uJ (F:ByteArray → List Kn) {E:List ByteArray} {i:Nat} (h:i < E.length):dZ F (E.drop i) = (if (F E[i]).length = 0 then [] else [⟨lY E[i] (E.drop (i + 1)),F E[i]⟩]) ++ dZ F (E.drop (i + 1)):=by
 rw [List.drop_eq_getElem_cons h,dZ]
theorem yJ {E:List ByteArray} {i:Nat} (h:i + 1 < E.length) (s:ByteArray):lY s (E.drop (i + 1)) = ⟨s,E[i + 1],false⟩:=by
 rw [List.drop_eq_getElem_cons h];rfl
theorem uK {E:List ByteArray} {i:Nat} (h:¬ i + 1 < E.length) (s:ByteArray):lY s (E.drop (i + 1)) = ⟨s,emB,true⟩:=by
 rw [List.drop_of_length_le (by omega)];rfl
section
theorem yK (f:FuncId) (As:List PV) (F:ByteArray → List Kn) (E:List ByteArray) (hl:E.length ≤ 1000000000) (hat:∀ s ∈ E,de Tryz.prog f (sC s :: As.map Cnt.per) [] (.per (Ec (F s))) []) (hF:∀ s ∈ E,cg (F s)) (hTt:∀ s ∈ E,cR (F s)) :
 Fn Tryz.prog 127 [.bor 1 (E.map strP),.per (Ep f As)] (l8 (kL F E)):=by
 generalize hR:kL F E = R
 unfold kL at hR
 refine fi Tryz.func127 Tryz.ntmps127 ?_
 (refine w0 ?_;repeat' first|apply ai|refine aj fun hc=>?_)
 refine bZ (b7 5 700 66 4 rfl rfl) ?_
 refine an (X:=Nat × List Pc) (fun x=>x.1 ≤ E.length ∧ x.2.length ≤ x.1 ∧ ((x.2 = [] ∧ gZ (dZ F (E.drop x.1)) = R) ∨ ∃ o y,x.2 = o ++ [y] ∧ cg y.set ∧ cR y.set ∧ o ++ sr y (dZ F (E.drop x.1)) = R))
  (fun x=>ba [(0,.bor 1 (E.map strP)),(1,.per (Ep f As)),(5,.row 700 0),(11,.bor 1 (E.map strP)),(12,iC .i64 (E.length:Nat)),(13,iC .i64 ((x.1:Nat):Int))] [(700,LL x.2)]) (fun x=>E.length - x.1) (0,[]) ⟨Nat.zero_le _,Nat.le_refl _,.inl ⟨rfl,by simpa using hR⟩⟩ ?_ ?_
 ·exact ae
 ·rintro ⟨i,out⟩ ⟨g1,g0,g2⟩
  simp only at g1 g0 g2 ⊢
  clear hR
  by_cases hi:i < E.length
  ·have c1:=hat _ (List.getElem_mem hi)
   have hok:=hF _ (List.getElem_mem hi)
   have htt:=hTt _ (List.getElem_mem hi)
   have hseg:=uJ F hi
   clear hat hF hTt
   by_cases hi2:i + 1 < E.length
   ·rw [yJ hi2] at hseg
    by_cases hL:(F E[i]).length = 0
    ·rw [if_pos hL,List.nil_append] at hseg
     rw [hseg] at g2
     have g2':(out = [] ∧ gZ (dZ F (E.drop (i + 1))) = R) ∨ ∃ o y,out = o ++ [y] ∧ cg y.set ∧ cR y.set ∧ o ++ sr y (dZ F (E.drop (i + 1))) = R:=g2
     clear hseg g2
     (refine eL (show ((i:Nat):Int) + 1 = ((i + 1:Nat):Int) by omega) ?_;repeat' first|apply ai|refine aj fun hc=>?_|((first|apply aO rfl|apply aP rfl|apply aQ rfl|apply aR rfl);(focus ((try (apply b8;(focus rfl);apply ah rfl rfl rfl rfl rfl));first|(exact tU [sC E[i]] c1)));refine eL (show ((i:Nat):Int) + 1 = ((i + 1:Nat):Int) by omega) ?_))
     refine ⟨(i + 1,out),⟨by simp only;omega,by simp only;omega,g2'⟩,by simp only;omega,?_⟩
     exact ae
    ·have hseg':dZ F (E.drop i) = ⟨⟨E[i],E[i + 1],false⟩,F E[i]⟩ :: dZ F (E.drop (i + 1)):=by rw [hseg,if_neg hL];rfl
     rw [hseg'] at g2
     clear hseg hseg'
     rcases g2 with ⟨ho,hm⟩|⟨o,y,ho,hy1,hy2,hm⟩
     ·subst ho
      (refine eL (show ((i:Nat):Int) + 1 = ((i + 1:Nat):Int) by omega) ?_;repeat' first|apply ai|refine aj fun hc=>?_|((first|apply aO rfl|apply aP rfl|apply aQ rfl|apply aR rfl);(focus ((try (apply b8;(focus rfl);apply ah rfl rfl rfl rfl rfl));first|(exact tU [sC E[i]] c1)));refine eL (show ((i:Nat):Int) + 1 = ((i + 1:Nat):Int) by omega) ?_))
      refine ⟨(i + 1,[⟨⟨E[i],E[i + 1],false⟩,F E[i]⟩]),⟨by simp only;omega,by simp,.inr ⟨[],_,rfl,hok,htt,hm⟩⟩,by simp only;omega,ay (aN 700 701) (ay (aN 701 700) ?_)⟩
      exact ae
     ·subst ho
      have c2:=nL y.rg ⟨E[i],E[i + 1],false⟩
      have c3:=nI y.set (F E[i]) hy2 htt hy1 hok
      rw [sr] at hm
      simp only at hm
      have hT:tT y ⟨⟨E[i],E[i + 1],false⟩,F E[i]⟩ = (gu y.rg ⟨E[i],E[i + 1],false⟩ && decide (y.set = F E[i])):=by
       unfold tT gu
       rw [Bool.and_assoc]
      have hL1:(o ++ [y]).length = o.length + 1:=by simp
      generalize hLL:o ++ [y] = L at *
      have hLi:((L.length:Int) - 1).toNat = o.length:=by omega
      have HY:(L.map pcP)[((L.length:Int) - 1).toNat]? = some (pcP y):=by
       rw [List.getElem?_map,hLi,← hLL]
       simp
      by_cases c:gu y.rg ⟨E[i],E[i + 1],false⟩ = true
      ·by_cases d:y.set = F E[i]
       ·have HS1:(L.map pcP).set ((L.length:Int) - 1).toNat (cG (pcP y) 1 [av (.string E[i + 1])]) = (o ++ [(⟨⟨y.rg.lo,E[i + 1],y.rg.op⟩,y.set⟩:Pc)]).map pcP:=by
         rw [show (L.map pcP).set ((L.length:Int) - 1).toNat (cG (pcP y) 1 [av (.string E[i + 1])]) = (L.set ((L.length:Int) - 1).toNat ⟨⟨y.rg.lo,E[i + 1],y.rg.op⟩,y.set⟩).map pcP from fD pcP L _ (⟨⟨y.rg.lo,E[i + 1],y.rg.op⟩,y.set⟩:Pc),← hLL,gY o y _ [] _ (by rw [hLL];omega)]
        have HY2:((o ++ [(⟨⟨y.rg.lo,E[i + 1],y.rg.op⟩,y.set⟩:Pc)]).map pcP)[((L.length:Int) - 1).toNat]? = some (pcP ⟨⟨y.rg.lo,E[i + 1],y.rg.op⟩,y.set⟩):=by
         rw [List.getElem?_map,hLi]
         simp
        have HS2:((o ++ [(⟨⟨y.rg.lo,E[i + 1],y.rg.op⟩,y.set⟩:Pc)]).map pcP).set ((L.length:Int) - 1).toNat (cG (pcP ⟨⟨y.rg.lo,E[i + 1],y.rg.op⟩,y.set⟩) 2 [av (.bool false)]) = (o ++ [(⟨⟨y.rg.lo,E[i + 1],false⟩,y.set⟩:Pc)]).map pcP:=by
         rw [show ((o ++ [(⟨⟨y.rg.lo,E[i + 1],y.rg.op⟩,y.set⟩:Pc)]).map pcP).set ((L.length:Int) - 1).toNat (cG (pcP ⟨⟨y.rg.lo,E[i + 1],y.rg.op⟩,y.set⟩) 2 [av (.bool false)]) = ((o ++ [(⟨⟨y.rg.lo,E[i + 1],y.rg.op⟩,y.set⟩:Pc)]).set ((L.length:Int) - 1).toNat ⟨⟨y.rg.lo,E[i + 1],false⟩,y.set⟩).map pcP from fD pcP (o ++ [(⟨⟨y.rg.lo,E[i + 1],y.rg.op⟩,y.set⟩:Pc)]) _ (⟨⟨y.rg.lo,E[i + 1],false⟩,y.set⟩:Pc),gY o _ _ [] _ (by omega)]
        have hML:(o ++ [(⟨⟨y.rg.lo,E[i + 1],false⟩,y.set⟩:Pc)]).length = L.length:=by rw [← hLL];simp
        have hML2:(o ++ [(⟨⟨y.rg.lo,E[i + 1],y.rg.op⟩,y.set⟩:Pc)]).length = L.length:=by rw [← hLL];simp
        rw [hT,c,decide_eq_true d,if_pos (show (true && true) = true from rfl)] at hm
        rw [c] at c2
        rw [decide_eq_true d] at c3
        clear hT
        (refine bi (show ((i:Nat):Int) + 1 = ((i + 1:Nat):Int) by omega) c2 c3 ?_;repeat' first|apply ai|refine aj fun hc=>?_|((first|apply aO rfl|apply aP rfl|apply aQ rfl|apply aR rfl);(focus ((try (apply b8;(focus rfl);apply ah rfl rfl rfl rfl rfl));first|(exact tU [sC E[i]] c1)|((apply bn 5;(focus rfl);first|exact bm ⟨rfl,rfl,rfl⟩ rfl inferInstance rfl rfl rfl HY rfl|exact aB ⟨rfl,rfl,rfl⟩ rfl inferInstance inferInstance rfl rfl rfl HY rfl rfl rfl))|((apply bn 6;(focus rfl);first|exact aX ⟨rfl,rfl⟩ rfl inferInstance rfl rfl rfl rfl HY rfl (bx rfl rfl rfl) rfl HS1|exact aX ⟨rfl,rfl⟩ rfl inferInstance rfl rfl rfl rfl HY2 rfl (bx rfl rfl rfl) rfl HS2))));refine bi (show ((i:Nat):Int) + 1 = ((i + 1:Nat):Int) by omega) c2 c3 ?_))
        refine ⟨(i + 1,o ++ [⟨⟨y.rg.lo,E[i + 1],false⟩,y.set⟩]),⟨by simp only;omega,by simp only;omega,.inr ⟨o,_,rfl,hy1,hy2,hm⟩⟩,by simp only;omega,?_⟩
        exact ae
       ·rw [hT,c,decide_eq_false d,if_neg (show ¬ (true && false) = true by decide)] at hm
        rw [c] at c2
        rw [decide_eq_false d] at c3
        clear hT
        (refine bi (show ((i:Nat):Int) + 1 = ((i + 1:Nat):Int) by omega) c2 c3 ?_;repeat' first|apply ai|refine aj fun hc=>?_|((first|apply aO rfl|apply aP rfl|apply aQ rfl|apply aR rfl);(focus ((try (apply b8;(focus rfl);apply ah rfl rfl rfl rfl rfl));first|(exact tU [sC E[i]] c1)|((apply bn 5;(focus rfl);first|exact bm ⟨rfl,rfl,rfl⟩ rfl inferInstance rfl rfl rfl HY rfl|exact aB ⟨rfl,rfl,rfl⟩ rfl inferInstance inferInstance rfl rfl rfl HY rfl rfl rfl))));refine bi (show ((i:Nat):Int) + 1 = ((i + 1:Nat):Int) by omega) c2 c3 ?_))
        refine ⟨(i + 1,L ++ [⟨⟨E[i],E[i + 1],false⟩,F E[i]⟩]),⟨by simp only;omega,by simp;omega,.inr ⟨L,_,rfl,hok,htt,by simp only;rw [← hLL,List.append_assoc];exact hm⟩⟩,by simp only;omega,ay (aN 700 701) (ay (aN 701 700) ?_)⟩
        exact ae
      ·have c:gu y.rg ⟨E[i],E[i + 1],false⟩ = false:=by simpa using c
       rw [hT,c,Bool.false_and,if_neg (show ¬ false = true by decide)] at hm
       rw [c] at c2
       clear hT c3
       (refine bU (show ((i:Nat):Int) + 1 = ((i + 1:Nat):Int) by omega) c2 ?_;repeat' first|apply ai|refine aj fun hc=>?_|((first|apply aO rfl|apply aP rfl|apply aQ rfl|apply aR rfl);(focus ((try (apply b8;(focus rfl);apply ah rfl rfl rfl rfl rfl));first|(exact tU [sC E[i]] c1)|((apply bn 5;(focus rfl);first|exact bm ⟨rfl,rfl,rfl⟩ rfl inferInstance rfl rfl rfl HY rfl|exact aB ⟨rfl,rfl,rfl⟩ rfl inferInstance inferInstance rfl rfl rfl HY rfl rfl rfl))));refine bU (show ((i:Nat):Int) + 1 = ((i + 1:Nat):Int) by omega) c2 ?_))
       refine ⟨(i + 1,L ++ [⟨⟨E[i],E[i + 1],false⟩,F E[i]⟩]),⟨by simp only;omega,by simp;omega,.inr ⟨L,_,rfl,hok,htt,by simp only;rw [← hLL,List.append_assoc];exact hm⟩⟩,by simp only;omega,ay (aN 700 701) (ay (aN 701 700) ?_)⟩
       exact ae
   ·rw [uK hi2] at hseg
    by_cases hL:(F E[i]).length = 0
    ·rw [if_pos hL,List.nil_append] at hseg
     rw [hseg] at g2
     have g2':(out = [] ∧ gZ (dZ F (E.drop (i + 1))) = R) ∨ ∃ o y,out = o ++ [y] ∧ cg y.set ∧ cR y.set ∧ o ++ sr y (dZ F (E.drop (i + 1))) = R:=g2
     clear hseg g2
     (refine w0 ?_;repeat' first|apply ai|refine aj fun hc=>?_|((first|apply aO rfl|apply aP rfl|apply aQ rfl|apply aR rfl);(focus ((try (apply b8;(focus rfl);apply ah rfl rfl rfl rfl rfl));first|(exact tU [sC E[i]] c1)));refine w0 ?_))
     refine ⟨(i + 1,out),⟨by simp only;omega,by simp only;omega,g2'⟩,by simp only;omega,?_⟩
     exact ae
    ·have hseg':dZ F (E.drop i) = ⟨⟨E[i],emB,true⟩,F E[i]⟩ :: dZ F (E.drop (i + 1)):=by rw [hseg,if_neg hL];rfl
     rw [hseg'] at g2
     clear hseg hseg'
     rcases g2 with ⟨ho,hm⟩|⟨o,y,ho,hy1,hy2,hm⟩
     ·subst ho
      (refine w0 ?_;repeat' first|apply ai|refine aj fun hc=>?_|((first|apply aO rfl|apply aP rfl|apply aQ rfl|apply aR rfl);(focus ((try (apply b8;(focus rfl);apply ah rfl rfl rfl rfl rfl));first|(exact tU [sC E[i]] c1)));refine w0 ?_))
      refine ⟨(i + 1,[⟨⟨E[i],emB,true⟩,F E[i]⟩]),⟨by simp only;omega,by simp,.inr ⟨[],_,rfl,hok,htt,hm⟩⟩,by simp only;omega,ay (aN 700 701) (ay (aN 701 700) ?_)⟩
      exact ae
     ·subst ho
      have c2:=nL y.rg ⟨E[i],emB,true⟩
      have c3:=nI y.set (F E[i]) hy2 htt hy1 hok
      rw [sr] at hm
      simp only at hm
      have hT:tT y ⟨⟨E[i],emB,true⟩,F E[i]⟩ = (gu y.rg ⟨E[i],emB,true⟩ && decide (y.set = F E[i])):=by
       unfold tT gu
       rw [Bool.and_assoc]
      have hL1:(o ++ [y]).length = o.length + 1:=by simp
      generalize hLL:o ++ [y] = L at *
      have hLi:((L.length:Int) - 1).toNat = o.length:=by omega
      have HY:(L.map pcP)[((L.length:Int) - 1).toNat]? = some (pcP y):=by
       rw [List.getElem?_map,hLi,← hLL]
       simp
      by_cases c:gu y.rg ⟨E[i],emB,true⟩ = true
      ·by_cases d:y.set = F E[i]
       ·have HS1:(L.map pcP).set ((L.length:Int) - 1).toNat (cG (pcP y) 1 [av (.string emB)]) = (o ++ [(⟨⟨y.rg.lo,emB,y.rg.op⟩,y.set⟩:Pc)]).map pcP:=by
         rw [show (L.map pcP).set ((L.length:Int) - 1).toNat (cG (pcP y) 1 [av (.string emB)]) = (L.set ((L.length:Int) - 1).toNat ⟨⟨y.rg.lo,emB,y.rg.op⟩,y.set⟩).map pcP from fD pcP L _ (⟨⟨y.rg.lo,emB,y.rg.op⟩,y.set⟩:Pc),← hLL,gY o y _ [] _ (by rw [hLL];omega)]
        have HY2:((o ++ [(⟨⟨y.rg.lo,emB,y.rg.op⟩,y.set⟩:Pc)]).map pcP)[((L.length:Int) - 1).toNat]? = some (pcP ⟨⟨y.rg.lo,emB,y.rg.op⟩,y.set⟩):=by
         rw [List.getElem?_map,hLi]
         simp
        have HS2:((o ++ [(⟨⟨y.rg.lo,emB,y.rg.op⟩,y.set⟩:Pc)]).map pcP).set ((L.length:Int) - 1).toNat (cG (pcP ⟨⟨y.rg.lo,emB,y.rg.op⟩,y.set⟩) 2 [av (.bool true)]) = (o ++ [(⟨⟨y.rg.lo,emB,true⟩,y.set⟩:Pc)]).map pcP:=by
         rw [show ((o ++ [(⟨⟨y.rg.lo,emB,y.rg.op⟩,y.set⟩:Pc)]).map pcP).set ((L.length:Int) - 1).toNat (cG (pcP ⟨⟨y.rg.lo,emB,y.rg.op⟩,y.set⟩) 2 [av (.bool true)]) = ((o ++ [(⟨⟨y.rg.lo,emB,y.rg.op⟩,y.set⟩:Pc)]).set ((L.length:Int) - 1).toNat ⟨⟨y.rg.lo,emB,true⟩,y.set⟩).map pcP from fD pcP (o ++ [(⟨⟨y.rg.lo,emB,y.rg.op⟩,y.set⟩:Pc)]) _ (⟨⟨y.rg.lo,emB,true⟩,y.set⟩:Pc),gY o _ _ [] _ (by omega)]
        have hML:(o ++ [(⟨⟨y.rg.lo,emB,true⟩,y.set⟩:Pc)]).length = L.length:=by rw [← hLL];simp
        have hML2:(o ++ [(⟨⟨y.rg.lo,emB,y.rg.op⟩,y.set⟩:Pc)]).length = L.length:=by rw [← hLL];simp
        rw [hT,c,decide_eq_true d,if_pos (show (true && true) = true from rfl)] at hm
        rw [c] at c2
        rw [decide_eq_true d] at c3
        clear hT
        (refine aL c2 c3 ?_;repeat' first|apply ai|refine aj fun hc=>?_|((first|apply aO rfl|apply aP rfl|apply aQ rfl|apply aR rfl);(focus ((try (apply b8;(focus rfl);apply ah rfl rfl rfl rfl rfl));first|(exact tU [sC E[i]] c1)|((apply bn 5;(focus rfl);first|exact bm ⟨rfl,rfl,rfl⟩ rfl inferInstance rfl rfl rfl HY rfl|exact aB ⟨rfl,rfl,rfl⟩ rfl inferInstance inferInstance rfl rfl rfl HY rfl rfl rfl))|((apply bn 6;(focus rfl);first|exact aX ⟨rfl,rfl⟩ rfl inferInstance rfl rfl rfl rfl HY rfl (bx rfl rfl rfl) rfl HS1|exact aX ⟨rfl,rfl⟩ rfl inferInstance rfl rfl rfl rfl HY2 rfl (bx rfl rfl rfl) rfl HS2))));refine aL c2 c3 ?_))
        refine ⟨(i + 1,o ++ [⟨⟨y.rg.lo,emB,true⟩,y.set⟩]),⟨by simp only;omega,by simp only;omega,.inr ⟨o,_,rfl,hy1,hy2,hm⟩⟩,by simp only;omega,?_⟩
        exact ae
       ·rw [hT,c,decide_eq_false d,if_neg (show ¬ (true && false) = true by decide)] at hm
        rw [c] at c2
        rw [decide_eq_false d] at c3
        clear hT
        (refine aL c2 c3 ?_;repeat' first|apply ai|refine aj fun hc=>?_|((first|apply aO rfl|apply aP rfl|apply aQ rfl|apply aR rfl);(focus ((try (apply b8;(focus rfl);apply ah rfl rfl rfl rfl rfl));first|(exact tU [sC E[i]] c1)|((apply bn 5;(focus rfl);first|exact bm ⟨rfl,rfl,rfl⟩ rfl inferInstance rfl rfl rfl HY rfl|exact aB ⟨rfl,rfl,rfl⟩ rfl inferInstance inferInstance rfl rfl rfl HY rfl rfl rfl))));refine aL c2 c3 ?_))
        refine ⟨(i + 1,L ++ [⟨⟨E[i],emB,true⟩,F E[i]⟩]),⟨by simp only;omega,by simp;omega,.inr ⟨L,_,rfl,hok,htt,by simp only;rw [← hLL,List.append_assoc];exact hm⟩⟩,by simp only;omega,ay (aN 700 701) (ay (aN 701 700) ?_)⟩
        exact ae
      ·have c:gu y.rg ⟨E[i],emB,true⟩ = false:=by simpa using c
       rw [hT,c,Bool.false_and,if_neg (show ¬ false = true by decide)] at hm
       rw [c] at c2
       clear hT c3
       (refine az c2 ?_;repeat' first|apply ai|refine aj fun hc=>?_|((first|apply aO rfl|apply aP rfl|apply aQ rfl|apply aR rfl);(focus ((try (apply b8;(focus rfl);apply ah rfl rfl rfl rfl rfl));first|(exact tU [sC E[i]] c1)|((apply bn 5;(focus rfl);first|exact bm ⟨rfl,rfl,rfl⟩ rfl inferInstance rfl rfl rfl HY rfl|exact aB ⟨rfl,rfl,rfl⟩ rfl inferInstance inferInstance rfl rfl rfl HY rfl rfl rfl))));refine az c2 ?_))
       refine ⟨(i + 1,L ++ [⟨⟨E[i],emB,true⟩,F E[i]⟩]),⟨by simp only;omega,by simp;omega,.inr ⟨L,_,rfl,hok,htt,by simp only;rw [← hLL,List.append_assoc];exact hm⟩⟩,by simp only;omega,ay (aN 700 701) (ay (aN 701 700) ?_)⟩
       exact ae
  ·have g3:out = R:=by
    rw [List.drop_of_length_le (by omega)] at g2
    rcases g2 with ⟨a,b⟩|⟨o,y,a,_,_,b⟩
    ·rw [a,← b];rfl
    ·rw [a,← b];rfl
   clear g2 hat hF hTt
   (refine w0 ?_;repeat' first|apply ai|refine aj fun hc=>?_)
   refine aU ?_
   exact fN rfl rfl rfl g3
end
end Go.Proofs.YtliiahjpiagdkaaGreat
