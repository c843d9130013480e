/- Texts joined: Rcm Rset StH OpenIt. -/
import Derived.Test.YtliiahjpiagdkaaGreatJ26
import Derived.Test.YtliiahjpiagdkaaGreatJ05
import Derived.Test.YtliiahjpiagdkaaGreatJ14
import Derived.Test.YtliiahjpiagdkaaGreatJ15
import Derived.Test.YtliiahjpiagdkaaGreatJ17
import Derived.Test.YtliiahjpiagdkaaGreatJ19
import Derived.Test.YtliiahjpiagdkaaGreatJ01
import Derived.ProofKit
import Derived.OpenShut
import Derived.ShutString
import Derived.ChangeOld
import Derived.Deep.Slices
import Derived.Test.YtliiahjpiagdkaaGreatJ08
import Derived.Test.YtliiahjpiagdkaaGreatRows
set_option maxRecDepth 10000
set_option maxHeartbeats 8000000
namespace Go.Proofs.YtliiahjpiagdkaaGreat
open Go.RowKit
theorem EX (f:Int → Bool) {E:List Int} {i:Nat} (h:i + 1 < E.length):iu f (E.drop i) = (if f E[i] then [⟨E[i],E[i + 1] - 1⟩] else []) ++ iu f (E.drop (i + 1)):=by
 rw [List.drop_eq_getElem_cons (show i < E.length by omega),List.drop_eq_getElem_cons h,iu]
theorem Jy (f:Int → Bool) {E:List Int} {i:Nat} (h:¬ i + 1 < E.length):iu f (E.drop i) = []:=by
 by_cases c:i < E.length
 ·rw [List.drop_eq_getElem_cons c,List.drop_of_length_le (by omega)];rfl
 ·rw [List.drop_of_length_le (by omega)];rfl
def Pm (x y:Bool):Bool:=x || y
section
theorem nX (a b:List Rn) (ha:a.length ≤ 100000000) (hb:b.length ≤ 100000000) :
 Fn Tryz.prog 194 [iC .i64 1,fd a,fd b] (yw (Ly (tS Pm a b) a b)):=by
 have hE:=BH a b ha hb
 have hup:Hz (ez (ez [] a) b):=qY _ _ (qY _ _ List.Pairwise.nil)
 have hrg:∀ m ∈ ez (ez [] a) b,1 ≤ m ∧ m ≤ 1099511627777:=fun m hm=>CG hm
 have hln:=oM b (ez [] a)
 have hln2:=oM a []
 simp only [List.length_nil,Nat.zero_add] at hln2
 have hbE:(ez (ez [] a) b).length ≤ 400000000:=by omega
 clear hln hln2
 unfold Ly
 have hf:∀ n,tS Pm a b n = Pm (cH a n) (cH b n):=fun _=>rfl
 generalize tS Pm a b = f at *
 generalize ez (ez [] a) b = E at *
 generalize hR:jI (iu f E) = R
 refine fi Tryz.func194 Tryz.ntmps194 ?_
 (refine az hE ?_;repeat' first|apply ai|refine aj fun hc=>?_)
 clear hE
 refine bZ (b7 8 700 147 2 rfl rfl) ?_
 refine an (X:=Nat × List Rn) (fun x=>x.1 ≤ E.length ∧ x.2.length ≤ x.1 ∧ ((x.2 = [] ∧ jI (iu f (E.drop x.1)) = R) ∨ ∃ o y,x.2 = o ++ [y] ∧ gM y = true ∧ (∀ h:x.1 < E.length,y.to + 1 ≤ E[x.1]) ∧ o ++ yn y (iu f (E.drop x.1)) = R))
  (fun x=>ba [(0,iC .i64 1),(1,fd a),(2,fd b),(7,zh E),(8,.row 700 0),(9,iC .i64 ((x.1:Nat):Int))] [(700,Hy x.2)]) (fun x=>E.length - x.1) (0,[]) ⟨Nat.zero_le _,Nat.le_refl _,.inl ⟨rfl,by simpa using hR⟩⟩ ?_ ?_
 ·exact ae
 ·rintro ⟨i,out⟩ ⟨g1,g0,g2⟩
  simp only at g1 g0 g2 ⊢
  clear hR
  by_cases hk:i + 1 < E.length
  ·have hi:i < E.length:=by omega
   have b1:=hrg _ (List.getElem_mem hi)
   have b2:=hrg _ (List.getElem_mem hk)
   have b3:=List.pairwise_iff_getElem.1 hup i (i + 1) hi hk (by omega)
   have hst:=EX f hk
   rw [hf] at hst
   have c1:=tc a E[i] (by omega)
   have c2:=tc b E[i] (by omega)
   clear hrg hup hf
   have hnr:gM ⟨E[i],E[i + 1] - 1⟩ = true:=(bK _).2 (by simp only;omega)
   have hnt:∀ h:i + 1 < E.length,(⟨E[i],E[i + 1] - 1⟩:Rn).to + 1 ≤ E[i + 1]:=fun _=>by simp only;omega
   generalize iu f (E.drop i) = T0 at *
   generalize cH a E[i] = x at *
   generalize cH b E[i] = y at *
   obtain ⟨K,hK⟩:∃ K,K = Pm x y:=⟨_,rfl⟩
   rw [← hK] at hst
   cases x <;> cases y <;> first
    | (have hK2:K = false:=hK
       subst hK2
       rw [if_neg Bool.false_ne_true,List.nil_append] at hst
       subst hst
       have g2':(out = [] ∧ jI (iu f (E.drop (i + 1))) = R) ∨ ∃ o y,out = o ++ [y] ∧ gM y = true ∧ (∀ h:i + 1 < E.length,y.to + 1 ≤ E[i + 1]) ∧ o ++ yn y (iu f (E.drop (i + 1))) = R:=by
        rcases g2 with g2|⟨o,y,h1,h2,h3,h4⟩
        ·exact .inl g2
        ·exact .inr ⟨o,y,h1,h2,fun h=>by have:=h3 hi;omega,h4⟩
       clear g2 hK
       (refine i5 (show ((i:Nat):Int) + 1 = ((i + 1:Nat):Int) by omega) c1 c2 ?_;repeat' first|apply ai|refine aj fun hc=>?_)
       refine ⟨(i + 1,out),⟨by simp only;omega,by simp only;omega,g2'⟩,by simp only;omega,?_⟩
       exact ae)
    | (have hK2:K = true:=hK
       subst hK2
       rw [if_pos rfl] at hst
       subst hst
       clear hK
       rcases g2 with ⟨ho,hm⟩|⟨o,z,ho,hz,hb,hm⟩
       ·subst ho
        (refine i5 (show ((i:Nat):Int) + 1 = ((i + 1:Nat):Int) by omega) c1 c2 ?_;repeat' first|apply ai|refine aj fun hc=>?_)
        refine ⟨(i + 1,[⟨E[i],E[i + 1] - 1⟩]),⟨by simp only;omega,by simp,.inr ⟨[],_,rfl,hnr,hnt,hm⟩⟩,by simp only;omega,ay (aN 700 701) (ay (aN 701 700) ?_)⟩
        exact ae
       ·subst ho
        have hzi:=(bK z).1 hz
        have hbz:=hb hi
        rw [show ([(⟨E[i],E[i + 1] - 1⟩:Rn)] ++ iu f (E.drop (i + 1))) = (⟨E[i],E[i + 1] - 1⟩:Rn) :: iu f (E.drop (i + 1)) from rfl,yn] at hm
        simp only at hm
        have hL1:(o ++ [z]).length = o.length + 1:=by simp
        have hM:max z.to (E[i + 1] - 1) = E[i + 1] - 1:=by omega
        have hmr:gM ⟨z.fr,E[i + 1] - 1⟩ = true:=(bK _).2 (by simp only;omega)
        rw [hM] at hm
        generalize hL:o ++ [z] = L at *
        have hLi:((L.length:Int) - 1).toNat = o.length:=by omega
        have HY:(L.map rnP)[((L.length:Int) - 1).toNat]? = some (rnP z):=by
         rw [List.getElem?_map,hLi,← hL]
         simp
        have HS1:(L.map rnP).set ((L.length:Int) - 1).toNat (cG (rnP z) 1 [av (.int .i64 (E[i + 1] - 1))]) = (o ++ [(⟨z.fr,E[i + 1] - 1⟩:Rn)]).map rnP:=by
         rw [show (L.map rnP).set ((L.length:Int) - 1).toNat (cG (rnP z) 1 [av (.int .i64 (E[i + 1] - 1))]) = (L.set ((L.length:Int) - 1).toNat ⟨z.fr,E[i + 1] - 1⟩).map rnP from fD rnP L _ (⟨z.fr,E[i + 1] - 1⟩:Rn),← hL,gY o z _ [] _ (by rw [hL];omega)]
        have hML:(o ++ [(⟨z.fr,E[i + 1] - 1⟩:Rn)]).length = L.length:=by rw [← hL];simp
        by_cases c:z.to = E[i] - 1
        ·rw [if_pos (by omega)] at hm
         (refine i5 (show ((i:Nat):Int) + 1 = ((i + 1:Nat):Int) by omega) c1 c2 ?_;repeat' first|apply ai|refine aj fun hc=>?_|((first|apply aO rfl|apply aP rfl|apply aQ rfl|apply aR rfl);(focus ((try (apply b8;(focus rfl);apply ah rfl rfl rfl rfl rfl));first|((apply bn 5;(focus rfl);exact bm ⟨rfl,rfl,rfl⟩ rfl inferInstance rfl rfl rfl HY rfl))|((apply bn 6;(focus rfl);exact aX ⟨rfl,rfl⟩ rfl inferInstance rfl rfl rfl rfl HY rfl (bx rfl rfl rfl) rfl HS1))));refine i5 (show ((i:Nat):Int) + 1 = ((i + 1:Nat):Int) by omega) c1 c2 ?_))
         refine ⟨(i + 1,_),⟨by simp only;omega,by simp only;omega,.inr ⟨o,_,rfl,hmr,fun _=>by simp only;omega,hm⟩⟩,by simp only;omega,?_⟩
         exact ae
        ·rw [if_neg (by omega)] at hm
         (refine i5 (show ((i:Nat):Int) + 1 = ((i + 1:Nat):Int) by omega) c1 c2 ?_;repeat' first|apply ai|refine aj fun hc=>?_|((first|apply aO rfl|apply aP rfl|apply aQ rfl|apply aR rfl);(focus ((try (apply b8;(focus rfl);apply ah rfl rfl rfl rfl rfl));first|((apply bn 5;(focus rfl);exact bm ⟨rfl,rfl,rfl⟩ rfl inferInstance rfl rfl rfl HY rfl))));refine i5 (show ((i:Nat):Int) + 1 = ((i + 1:Nat):Int) by omega) c1 c2 ?_))
         refine ⟨(i + 1,L ++ [⟨E[i],E[i + 1] - 1⟩]),⟨by simp only;omega,by simp;omega,.inr ⟨L,_,rfl,hnr,hnt,by simp only;rw [← hL,List.append_assoc];exact hm⟩⟩,by simp only;omega,ay (aN 700 701) (ay (aN 701 700) ?_)⟩
         exact ae)
  ·have g3:out = R:=by
    rw [Jy f hk] at g2
    rcases g2 with ⟨a,b⟩|⟨o,y,a,_,_,b⟩
    ·rw [a,← b];rfl
    ·rw [a,← b];rfl
   clear g2 hup hrg hf
   (refine w0 ?_;repeat' first|apply ai|refine aj fun hc=>?_)
   refine aU ?_
   exact fN rfl rfl rfl g3
end
theorem qA (s:List Kn) (r i:Nat) (h:i < s.length):aK (s.take (i + 1)) r = aK (s.take i) r ++ (if s[i].rep = (r:Int) + 1 then s[i].runs else []):=by
 rw [List.take_succ_eq_append_getElem h,kK]
theorem wJ (g:List (List Rn)) (z:Nat) (h:z < g.length):bj id z (g.drop z) = (if g[z].length = 0 then [] else [⟨(z:Int) + 1,g[z]⟩]) ++ bj id (z + 1) (g.drop (z + 1)):=by
 rw [List.drop_eq_getElem_cons h];rfl
section
theorem td (s:List Kn) (r:Nat) (hs:cR s):Fn Tryz.prog 116 [eM s,iC .i64 ((r:Int) + 1)] (yw (aK s r)):=by
 have hl0:=hs.1
 have htot:=hs.2
 refine fi Tryz.func116 Tryz.ntmps116 ?_
 (refine w0 ?_;repeat' first|apply ai|refine aj fun hc=>?_)
 refine bZ (b7 5 700 147 2 rfl rfl) ?_
 refine an (X:=Nat) (fun z=>z ≤ s.length)
  (fun z=>ba [(0,eM s),(1,iC .i64 ((r:Int) + 1)),(5,.row 700 0),(6,iC .i64 ((z:Nat):Int))] [(700,Hy (aK (s.take z) r))]) (fun z=>s.length - z) 0 (Nat.zero_le _) ?_ ?_
 ·exact ae
 ·intro z hz
  by_cases hlt:z < s.length
  ·have hsn:=qA s r z hlt
   have h1:=sb s z r
   have h2:=d6 s r
   have h3:=hs.sz.at hlt
   by_cases c:s[z].rep = (r:Int) + 1
   ·rw [if_pos c] at hsn
    generalize aK (s.take z) r = A at *
    clear hs
    (refine w0 ?_;repeat' first|apply ai|refine aj fun hc=>?_)
    refine ⟨z + 1,hlt,by omega,ay (aN 700 701) (ay (aN 701 700) ?_)⟩
    rw [hsn]
    exact ae
   ·rw [if_neg c,List.append_nil] at hsn
    generalize aK (s.take z) r = A at *
    clear hs
    (refine w0 ?_;repeat' first|apply ai|refine aj fun hc=>?_)
    refine ⟨z + 1,hlt,by omega,?_⟩
    rw [hsn]
    exact ae
  ·rw [List.take_of_length_le (show s.length ≤ z by omega)]
   generalize aK s r = A at *
   (refine w0 ?_;repeat' first|apply ai|refine aj fun hc=>?_)
   refine aU ?_
   exact cI rfl rfl rfl
theorem te (op:Int) (g:List Rn → List Rn → List Rn) (a b:List Kn) (ha:cR a) (hb:cR b) (hM:∀ r,r < 16 → Fn Tryz.prog 194 [iC .i64 op,fd (aK a r),fd (aK b r)] (yw (g (aK a r) (aK b r)))) :
 Fn Tryz.prog 149 [iC .i64 op,eM a,eM b] (k9 (qs g a b)):=by
 have hZ:(List.zipWith g (b6 a) (b6 b)).length = 16:=by rw [List.length_zipWith,bG,bG];rfl
 have hZg:∀ r (h:r < 16),(List.zipWith g (b6 a) (b6 b))[r]? = some (g (aK a r) (aK b r)):=fun r h=>by
  rw [List.getElem?_zipWith,b9 _ h,b9 _ h]
 generalize hQ:qs g a b = Q
 unfold qs at hQ
 generalize List.zipWith g (b6 a) (b6 b) = Z at *
 refine fi Tryz.func149 Tryz.ntmps149 ?_
 (refine w0 ?_;repeat' first|apply ai|refine aj fun hc=>?_)
 refine bZ (b7 7 700 95 2 rfl rfl) ?_
 refine an (X:=Nat × List Kn) (fun z=>z.1 ≤ 16 ∧ z.2.length ≤ z.1 ∧ z.2 ++ bj id z.1 (Z.drop z.1) = Q)
  (fun z=>ba [(0,iC .i64 op),(1,eM a),(2,eM b),(7,.row 700 0),(8,iC .i64 (((z.1:Nat):Int) + 1))] [(700,.row 95 2 (z.2.map CA))]) (fun z=>16 - z.1) (0,[]) ⟨Nat.zero_le _,Nat.le_refl _,by simpa using hQ⟩ ?_ ?_
 ·exact ae
 ·rintro ⟨z,acc⟩ ⟨h1,h2,h3⟩
  simp only at h1 h2 h3 ⊢
  clear hQ
  by_cases hz:z < 16
  ·have r1:=td a z ha
   have r2:=td b z hb
   have m:=(hM z hz).frz
   have hg:=hZg z hz
   obtain ⟨q1,q2⟩:=List.getElem?_eq_some_iff.1 hg
   rw [wJ Z z q1,q2] at h3
   generalize aK a z = ta at *
   generalize aK b z = tb at *
   generalize g ta tb = L at *
   clear hZg hM ha hb hg
   by_cases hL:L.length = 0
   ·rw [if_pos hL,List.nil_append] at h3
    (refine lN m r1 r2 ?_;repeat' first|apply ai|refine aj fun hc=>?_)
    refine ⟨(z + 1,acc),⟨by simp only;omega,by simp only;omega,h3⟩,by simp only;omega,?_⟩
    exact ae
   ·rw [if_neg hL] at h3
    (refine lN m r1 r2 ?_;repeat' first|apply ai|refine aj fun hc=>?_)
    refine ⟨(z + 1,acc ++ [⟨(z:Int) + 1,L⟩]),⟨by simp only;omega,by simp;omega,by simp only;rw [List.append_assoc];exact h3⟩,by simp only;omega,ay (aN 700 701) (ay (aN 701 700) ?_)⟩
    exact ae
  ·have h3':acc = Q:=by rw [← h3,List.drop_of_length_le (by omega)];simp [bj]
   clear hZg hM h3
   (refine w0 ?_;repeat' first|apply ai|refine aj fun hc=>?_)
   refine aU ?_
   exact fN rfl rfl rfl h3'
end
theorem kc (a b:List Rn) (n:Int):cH (a ++ b) n = (cH a n || cH b n):=by unfold cH;rw [List.any_append]
theorem BI {l:List Rn} {k:Nat} (h:k < l.length) (n:Int):cH (l.take (k + 1)) n = (cH (l.take k) n || (gM l[k] && (decide (l[k].fr ≤ n) && decide (n ≤ l[k].to)))):=by
 rw [aJ l k h,kc];simp [cH]
theorem BJ {l:List Rn} {k:Nat} {n:Int} (h:cH (l.take k) n = true):cH l n = true:=by
 rw [← List.take_append_drop k l,kc,h];rfl
theorem BK (a b:List Kn) (r:Nat):aK (a ++ b) r = aK a r ++ aK b r:=by unfold aK;rw [List.flatMap_append]
section
theorem Mo (l:List Rn) (n:Int) (hl:l.length ≤ 1000000000):Fn Tryz.prog 113 [fd l,iC .i64 n] (cw (cH l n)):=by
 refine fi Tryz.func113 Tryz.ntmps113 ?_
 (refine w0 ?_;repeat' first|apply ai|refine aj fun hc=>?_)
 refine an (X:=Nat) (fun k=>k ≤ l.length ∧ cH (l.take k) n = false) (fun k=>ba [(1,iC .i64 n),(7,fd l),(8,iC .i64 (l.length:Nat)),(9,iC .i64 (k:Nat))] []) (fun k=>l.length - k) 0 ⟨Nat.zero_le _,rfl⟩ ?_ ?_
 ·exact ae
 ·rintro k ⟨h1,h2⟩
  by_cases hk:k < l.length
  ·have a1:=vR l[k]
   have hs:=BI hk n
   rw [h2,Bool.false_or] at hs
   cases hr:gM l[k] with
   | false=>
    rw [hr] at a1 hs
    rw [Bool.false_and] at hs
    (refine az a1 ?_;repeat' first|apply ai|refine aj fun hc=>?_)
    refine ⟨k + 1,⟨by omega,hs⟩,by omega,?_⟩
    exact ae
   | true=>
    rw [hr] at a1 hs
    rw [Bool.true_and] at hs
    by_cases c:l[k].fr ≤ n ∧ n ≤ l[k].to
    ·have ht:cH l n = true:=BJ (by rw [hs,decide_eq_true c.1,decide_eq_true c.2];rfl)
     rw [ht]
     clear hs h2
     (refine az a1 ?_;repeat' first|apply ai|refine aj fun hc=>?_)
     refine aU ?_
     exact af rfl rfl
    ·have hs:cH (l.take (k + 1)) n = false:=by
      rw [hs,← Bool.not_eq_true,Bool.and_eq_true,decide_eq_true_eq,decide_eq_true_eq];exact c
     clear h2
     (refine az a1 ?_;repeat' first|apply ai|refine aj fun hc=>?_)
     all_goals
      refine ⟨k + 1,⟨by omega,hs⟩,by omega,?_⟩
      exact ae
  ·rw [List.take_of_length_le (by omega)] at h2
   rw [h2]
   (refine w0 ?_;repeat' first|apply ai|refine aj fun hc=>?_)
   refine aU ?_
   exact af rfl rfl
theorem Jz (s:List Kn) (r c:Int) (hs:cR s):Fn Tryz.prog 70 [eM s,qF r c] (cw (gC s r c)):=by
 have hl0:=hs.1
 have a1:=eH r c
 unfold gC
 cases hv:cC r c with
 | false=>
  rw [hv] at a1
  rw [Bool.false_and]
  clear hs
  refine fi Tryz.func70 Tryz.ntmps70 ?_
  (refine az a1 ?_;repeat' first|apply ai|refine aj fun hc=>?_)
  refine aU ?_
  exact af rfl rfl
 | true=>
  rw [hv] at a1
  rw [Bool.true_and]
  have hr1:1 ≤ r:=by unfold cC at hv;simp at hv;omega
  obtain ⟨q,hq⟩:∃ q:Nat,r = (q:Int) + 1:=⟨(r - 1).toNat,by omega⟩
  have hq2:(r - 1).toNat = q:=by omega
  rw [hq2]
  clear hv
  refine fi Tryz.func70 Tryz.ntmps70 ?_
  (refine az a1 ?_;repeat' first|apply ai|refine aj fun hc=>?_)
  refine an (X:=Nat) (fun k=>k ≤ s.length ∧ cH (aK (s.take k) q) c = false) (fun k=>ba [(3,.ptr 3 0 0),(10,eM s),(11,iC .i64 (s.length:Nat)),(12,iC .i64 (k:Nat))] [(3,.box 39 [iC .i64 r,iC .i64 c])]) (fun k=>s.length - k) 0 ⟨Nat.zero_le _,rfl⟩ ?_ ?_
  ·exact ae
  ·rintro k ⟨h1,h2⟩
   by_cases hk:k < s.length
   ·have hz:=hs.sz.at hk
    have a2:=Mo s[k].runs c (by omega)
    have hsn:=qA s q k hk
    by_cases e:s[k].rep = r
    ·rw [if_pos (by omega)] at hsn
     cases hh:cH s[k].runs c with
     | true=>
      rw [hh] at a2
      have ht:cH (aK s q) c = true:=by
       rw [← List.take_append_drop (k + 1) s,BK,kc,hsn,kc,hh];simp
      rw [ht]
      clear hsn h2 hs hq a1
      (refine az a2 ?_;repeat' first|apply ai|refine aj fun hc=>?_)
      refine aU ?_
      exact af rfl rfl
     | false=>
      rw [hh] at a2
      have h2:cH (aK (s.take (k + 1)) q) c = false:=by rw [hsn,kc,h2,hh];rfl
      clear hsn hs hq a1
      (refine az a2 ?_;repeat' first|apply ai|refine aj fun hc=>?_)
      refine ⟨k + 1,⟨by omega,h2⟩,by omega,?_⟩
      exact ae
    ·rw [if_neg (by omega),List.append_nil] at hsn
     have h2:cH (aK (s.take (k + 1)) q) c = false:=by rw [hsn];exact h2
     clear hsn hs hq a1 a2
     (refine w0 ?_;repeat' first|apply ai|refine aj fun hc=>?_)
     refine ⟨k + 1,⟨by omega,h2⟩,by omega,?_⟩
     exact ae
   ·rw [List.take_of_length_le (by omega)] at h2
    rw [h2]
    clear hs hq a1
    (refine w0 ?_;repeat' first|apply ai|refine aj fun hc=>?_)
    refine aU ?_
    exact af rfl rfl
theorem wK (k:List Pc) (s:ByteArray) (r c:Int) (hk:fH k) (hs:s.size ≤ 1000000000):Fn Tryz.prog 33 [bV k,sC s,qF r c] (cw (bv k s r c)):=by
 have hl0:=hk.1
 refine fi Tryz.func33 Tryz.ntmps33 ?_
 (refine w0 ?_;repeat' first|apply ai|refine aj fun hc=>?_)
 refine an (X:=Nat) (fun i=>i ≤ k.length ∧ bv (k.take i) s r c = false) (fun i=>ba [(1,sC s),(5,.ptr 5 0 0),(9,bV k),(10,iC .i64 (k.length:Nat)),(11,iC .i64 (i:Nat))] [(5,.box 39 [iC .i64 r,iC .i64 c])]) (fun i=>k.length - i) 0 ⟨Nat.zero_le _,rfl⟩ ?_ ?_
 ·exact ae
 ·rintro i ⟨h1,h2⟩
  by_cases hi:i < k.length
  ·have a1:=oV k[i].rg s hs
   have a2:=Jz k[i].set r c (hk.at hi)
   have hsn:bv (k.take (i + 1)) s r c = (aZ k[i].rg s && gC k[i].set r c):=by
    unfold bv at h2 ⊢
    rw [aJ k i hi,List.any_append,h2];simp
   cases hr:aZ k[i].rg s with
   | false=>
    rw [hr] at a1 hsn
    rw [Bool.false_and] at hsn
    clear hk h2
    (refine aL a1 a2 ?_;repeat' first|apply ai|refine aj fun hc=>?_)
    refine ⟨i + 1,⟨by omega,hsn⟩,by omega,?_⟩
    exact ae
   | true=>
    rw [hr] at a1 hsn
    rw [Bool.true_and] at hsn
    cases hh:gC k[i].set r c with
    | false=>
     rw [hh] at a2 hsn
     clear hk h2
     (refine aL a1 a2 ?_;repeat' first|apply ai|refine aj fun hc=>?_)
     refine ⟨i + 1,⟨by omega,hsn⟩,by omega,?_⟩
     exact ae
    | true=>
     rw [hh] at a2 hsn
     have ht:bv k s r c = true:=by
      unfold bv at hsn ⊢
      rw [← List.take_append_drop (i + 1) k,List.any_append,hsn];rfl
     rw [ht]
     clear hk h2 hsn
     (refine aL a1 a2 ?_;repeat' first|apply ai|refine aj fun hc=>?_)
     refine aU ?_
     exact af rfl rfl
  ·rw [List.take_of_length_le (by omega)] at h2
   rw [h2]
   clear hk
   (refine w0 ?_;repeat' first|apply ai|refine aj fun hc=>?_)
   refine aU ?_
   exact af rfl rfl
theorem Mp (s:List Kn) (r c:Int) (hs:cR s):Fn Tryz.prog 72 [eM s,qF r c] (cw (gC s r c)):=by
 have a1:=eY r c
 unfold gC
 cases hv:cC r c with
 | false=>
  rw [hv] at a1
  rw [Bool.false_and]
  clear hs
  refine fi Tryz.func72 Tryz.ntmps72 ?_
  (refine az a1 ?_;repeat' first|apply ai|refine aj fun hc=>?_)
  refine aU ?_
  exact af rfl rfl
 | true=>
  rw [hv] at a1
  rw [Bool.true_and]
  have hr1:1 ≤ r:=by unfold cC at hv;simp at hv;omega
  obtain ⟨q,rfl⟩:∃ q:Nat,r = (q:Int) + 1:=⟨(r - 1).toNat,by omega⟩
  have hq2:((q:Int) + 1 - 1).toNat = q:=by omega
  rw [hq2]
  have a2:=td s q hs
  have hz:=d6 s q
  have a3:=tc (aK s q) c (by have:=hs.2;omega)
  clear hs hv hz
  generalize aK s q = T at *
  refine fi Tryz.func72 Tryz.ntmps72 ?_
  (refine eX a1 a2 a3 ?_;repeat' first|apply ai|refine aj fun hc=>?_)
  refine aU ?_
  exact af rfl rfl
theorem ru (k:List Pc) (s:ByteArray) (r c:Int) (hk:fH k) (hs:s.size ≤ 1000000000):Fn Tryz.prog 35 [bV k,sC s,qF r c] (cw (bv k s r c)):=by
 have hl0:=hk.1
 refine fi Tryz.func35 Tryz.ntmps35 ?_
 (refine w0 ?_;repeat' first|apply ai|refine aj fun hc=>?_)
 refine an (X:=Nat) (fun i=>i ≤ k.length ∧ bv (k.take i) s r c = false) (fun i=>ba [(0,bV k),(1,sC s),(5,.ptr 5 0 0),(7,iC .i64 (i:Nat))] [(5,.box 39 [iC .i64 r,iC .i64 c])]) (fun i=>k.length - i) 0 ⟨Nat.zero_le _,rfl⟩ ?_ ?_
 ·exact ae
 ·rintro i ⟨h1,h2⟩
  by_cases hi:i < k.length
  ·have a1:=mX k[i].rg s hs
   have a2:=Mp k[i].set r c (hk.at hi)
   have hsn:bv (k.take (i + 1)) s r c = (aZ k[i].rg s && gC k[i].set r c):=by
    unfold bv at h2 ⊢
    rw [aJ k i hi,List.any_append,h2];simp
   cases hr:aZ k[i].rg s with
   | false=>
    rw [hr] at a1 hsn
    rw [Bool.false_and] at hsn
    clear hk h2
    (refine aL a1 a2 ?_;repeat' first|apply ai|refine aj fun hc=>?_|((first|apply aO rfl|apply aP rfl|apply aQ rfl|apply aR rfl);(focus ((try (apply b8;(focus rfl);apply ah rfl rfl rfl rfl rfl));first|((apply bn 5;(focus rfl);first|exact bg ⟨rfl,rfl,rfl⟩ rfl inferInstance inferInstance rfl rfl rfl rfl|exact bh ⟨rfl,rfl,rfl⟩ rfl inferInstance inferInstance rfl rfl rfl rfl))));refine aL a1 a2 ?_))
    refine ⟨i + 1,⟨by omega,hsn⟩,by omega,?_⟩
    exact ae
   | true=>
    rw [hr] at a1 hsn
    rw [Bool.true_and] at hsn
    cases hh:gC k[i].set r c with
    | false=>
     rw [hh] at a2 hsn
     clear hk h2
     (refine aL a1 a2 ?_;repeat' first|apply ai|refine aj fun hc=>?_|((first|apply aO rfl|apply aP rfl|apply aQ rfl|apply aR rfl);(focus ((try (apply b8;(focus rfl);apply ah rfl rfl rfl rfl rfl));first|((apply bn 5;(focus rfl);first|exact bg ⟨rfl,rfl,rfl⟩ rfl inferInstance inferInstance rfl rfl rfl rfl|exact bh ⟨rfl,rfl,rfl⟩ rfl inferInstance inferInstance rfl rfl rfl rfl))));refine aL a1 a2 ?_))
     refine ⟨i + 1,⟨by omega,hsn⟩,by omega,?_⟩
     exact ae
    | true=>
     rw [hh] at a2 hsn
     have ht:bv k s r c = true:=by
      unfold bv at hsn ⊢
      rw [← List.take_append_drop (i + 1) k,List.any_append,hsn];rfl
     rw [ht]
     clear hk h2 hsn
     (refine aL a1 a2 ?_;repeat' first|apply ai|refine aj fun hc=>?_|((first|apply aO rfl|apply aP rfl|apply aQ rfl|apply aR rfl);(focus ((try (apply b8;(focus rfl);apply ah rfl rfl rfl rfl rfl));first|((apply bn 5;(focus rfl);first|exact bg ⟨rfl,rfl,rfl⟩ rfl inferInstance inferInstance rfl rfl rfl rfl|exact bh ⟨rfl,rfl,rfl⟩ rfl inferInstance inferInstance rfl rfl rfl rfl))));refine aL a1 a2 ?_))
     refine aU ?_
     exact af rfl rfl
  ·rw [List.take_of_length_le (by omega)] at h2
   rw [h2]
   clear hk
   (refine w0 ?_;repeat' first|apply ai|refine aj fun hc=>?_)
   refine aU ?_
   exact af rfl rfl
theorem tf (l:List Rg) (s:ByteArray) (hok:dr l) (hl:l.length ≤ 1000000000) (hs:s.size ≤ 1000000000):Fn Tryz.prog 82 [.per (fC l),sC s] (cw (bA l s)):=by
 have h0:=mS l hl true (by simp [hok])
 have h1:Fn Tryz.prog 133 [.per (fC l)] (.per (fC l)):=by
  refine fi Tryz.func133 Tryz.ntmps133 ?_
  (refine az h0 ?_;repeat' first|apply ai|refine aj fun hc=>?_)
  refine aU ?_
  exact ct rfl
 obtain ⟨p,hp,hlt⟩:=CJ hok s
 have h2:=zg l s hs hl p hp hlt
 have hA:=Ic hok hlt
 rw [hA]
 clear hA hlt hok h0
 by_cases hn:p < l.length
 ·have h3:=oV l[p] s hs
  rw [List.getElem?_eq_getElem hn]
  simp only
  refine fi Tryz.func82 Tryz.ntmps82 ?_
  (refine eX h1 h2 h3 ?_;repeat' first|apply ai|refine aj fun hc=>?_)
  refine aU ?_
  exact af rfl rfl
 ·rw [List.getElem?_eq_none (by omega)]
  simp only
  refine fi Tryz.func82 Tryz.ntmps82 ?_
  (refine aL h1 h2 ?_;repeat' first|apply ai|refine aj fun hc=>?_)
  refine aU ?_
  exact af rfl rfl
end
end Go.Proofs.YtliiahjpiagdkaaGreat
namespace Go.Proofs.YtliiahjpiagdkaaGreat
open Go.RowKit Go.Deep Go.ChangeShapes Go.WideShapes
def Rd (P:Program) (w:World) (t:TypeId) (Q:List Value → Prop):Prop:=
 ∀ (H:Type) (enc:TypeId × Value → H) (spare:Nat → Bool) (held:Bool) (fuel:Nat) (cs:List Value) (x:DataW H × List MemPlace),DataW.trod enc P w 0 spare held fuel t cs = some x → Q cs
section
variable {P:Program} {w:World} {t:TypeId}
theorem Rd.mono {Q Q':List Value → Prop} (h:Rd P w t Q) (hq:∀ cs,Q cs → Q' cs):Rd P w t Q':=fun H enc sp hd f cs x hx=>hq _ (h H enc sp hd f cs x hx)
theorem Rd.int {k:IntKind} (ht:P.underlying t = some (.int k)):Rd P w t (fun cs=>∃ n,cs = [.int k n] ∧ (Lit.int k n).wf = true):=by
 intro H enc sp hd f cs x hx
 obtain ⟨n,h1,_,h2⟩:=DataW.trod_int ht hx
 exact ⟨n,h1,h2⟩
theorem Rd.bool (ht:P.underlying t = some .bool):Rd P w t (fun cs=>∃ b,cs = [.bool b]):=by
 intro H enc sp hd f cs x hx
 obtain ⟨n,h1,_⟩:=DataW.trod_bool ht hx
 exact ⟨n,h1⟩
theorem Rd.string (ht:P.underlying t = some .string):Rd P w t (fun cs=>∃ s,cs = [.string s] ∧ s.size ≤ maxLen):=by
 intro H enc sp hd f cs x hx
 obtain ⟨n,h1,_,h2⟩:=DataW.trod_string ht hx
 exact ⟨n,h1,h2⟩
theorem Rd.struct {fs:Array Field} (ht:P.underlying t = some (.struct fs)) :
 Rd P w t (fun cs=>cs.length = P.cellsOf t ∧ ∀ (i:Nat) (f:Field),fs[i]? = some f → ∀ Q,Rd P w f.type Q → Q ((cs.drop f.offset).take (P.cellsOf f.type))):=by
 intro H enc sp hd f cs x hx
 obtain ⟨xs,n,_,_,hl,hs,hall⟩:=DataW.trod_struct ht hx
 refine ⟨hl,fun i f hf Q hQ=>?_⟩
 have hi:i < fs.size:=by
  rcases Nat.lt_or_ge i fs.size with h|h
  ·exact h
  ·rw [Array.getElem?_eq_none h] at hf;cases hf
 have:=hall i f hf
 rw [List.getElem?_eq_getElem (by omega)] at this
 exact hQ _ _ _ _ _ _ _ this
theorem Rd.struct' {fs:Array Field} (ht:P.underlying t = some (.struct fs)) :
 Rd P w t (fun cs=>cs.length = P.cellsOf t ∧ ∀ (i off:Nat) (ty:TypeId) (sz:Nat) (Q:List Value → Prop),(fs[i]?).map (fun f=>(f.offset,f.type)) = some (off,ty) → P.cellsOf ty = sz → Rd P w ty Q → Q ((cs.drop off).take sz)):=by
 refine (Rd.struct ht).mono ?_
 rintro cs ⟨h1,h2⟩
 refine ⟨h1,fun i off ty sz Q hi hsz hQ=>?_⟩
 cases hf:fs[i]? with
 | none=>rw [hf] at hi;cases hi
 | some f=>
  rw [hf] at hi
  simp at hi
  obtain ⟨rfl,rfl⟩:=hi
  subst hsz
  exact h2 i f hf Q hQ
theorem Rd.array {n:Nat} {e:TypeId} (ht:P.underlying t = some (.array n e)) {Q:List Value → Prop} (hQ:Rd P w e Q) :
 Rd P w t (fun cs=>cs.length = P.cellsOf t ∧ ∀ i,i < n → Q ((cs.drop (i * P.cellsOf e)).take (P.cellsOf e))):=by
 intro H enc sp hd f cs x hx
 obtain ⟨xs,m,_,_,hl,hs,hall⟩:=DataW.trod_array ht hx
 refine ⟨hl,fun i hi=>?_⟩
 have:=hall i hi
 rw [List.getElem?_eq_getElem (by omega)] at this
 exact hQ _ _ _ _ _ _ _ this
theorem o6 {α:Type} {G:Nat → α → Prop}:∀ (n:Nat),(∀ i,i < n → ∃ x,G i x) → ∃ l:List α,l.length = n ∧ ∀ (i:Nat) (x:α),l[i]? = some x → G i x:=by
 intro n
 induction n with
 | zero=>intro _;exact ⟨[],rfl,fun i x h=>by simp at h⟩
 | succ n ih=>
  intro h
  obtain ⟨l,hl,hg⟩:=ih (fun i hi=>h i (by omega))
  obtain ⟨x,hx⟩:=h n (by omega)
  refine ⟨l ++ [x],by simp [hl],fun i y hy=>?_⟩
  rcases Nat.lt_or_ge i n with hi|hi
  ·rw [List.getElem?_append_left (by omega)] at hy;exact hg i y hy
  ·rw [List.getElem?_append_right (by omega)] at hy
   have:i = n:=by
    by_cases h0:i = n
    ·exact h0
    ·rw [List.getElem?_eq_none (by simp;omega)] at hy;cases hy
   subst this
   rw [hl] at hy;simp at hy;subst hy;exact hx
theorem Rd.slice {α:Type} {e:TypeId} {k:Nat} {enc:α → List Value} {Qe:List Value → Prop} {G:α → Prop} (ht:P.underlying t = some (.slice e)) (hk:P.cellsOf e = k) (hk0:0 < k)
 (hQ:Rd P w e Qe) (hdec:∀ cs,Qe cs → ∃ x:α,cs = enc x ∧ G x) :
 Rd P w t (fun cs=>∃ v l,cs = [v] ∧ Sl k enc w v l ∧ ∀ x ∈ l,G x):=by
 intro H en sp hd f cs x hx
 subst hk
 rcases DataW.trod_slice ht hx with ⟨rfl,_⟩|⟨a,len,cap,elems,rest,n,_,rfl,_,hb,hl,hm,hlen,hel,_,_⟩
 ·exact ⟨_,[],rfl,⟨none,0,0,0,rfl,by simp,by unfold maxLen;omega,by simp,fun _=>rfl,fun i x hx=>by simp at hx⟩,by simp⟩
 ·have key:∀ i,i < len → ∃ x:α,w.cells? 0 (a.add (i * P.cellsOf e)) (P.cellsOf e) = some (enc x) ∧ G x:=by
   intro i hi
   have:=hel i hi
   rw [List.getElem?_eq_getElem (by omega)] at this
   cases hc:w.cells? 0 (a.add (i * P.cellsOf e)) (P.cellsOf e) with
   | none=>rw [hc] at this;simp at this
   | some cs'=>
    rw [hc] at this
    obtain ⟨x,rfl,hg⟩:=hdec cs' (hQ _ _ _ _ _ _ _ this)
    exact ⟨x,rfl,hg⟩
  obtain ⟨l,hll,hcells⟩:=o6 len key
  subst hll
  refine ⟨_,l,rfl,?_,fun x hx=>?_⟩
  ·have hsp:0 < l.length → a = ⟨a.block,a.off,none⟩:=by
    intro h0
    obtain ⟨c0,hc0⟩:=World.cells?_some (hcells 0 l[0] (by simp [h0])).1
    have h00:=hc0.2 0 (by omega)
    rw [Nat.zero_mul] at h00
    have hz:a.add 0 = a:=by simp [Addr.add]
    rw [hz,hz] at h00
    have:0 < (enc l[0]).length:=by omega
    rw [List.getElem?_eq_getElem this] at h00
    have:=World.cell?_spot h00
    cases a;simp_all
   refine ⟨some a,cap,a.block,a.off,rfl,hl,hm,fun h0=>by rw [← hsp h0],(fun h=>by cases h),?_⟩
   intro i x hx j y hy
   have hi:i < l.length:=by
    rcases Nat.lt_or_ge i l.length with h|h
    ·exact h
    ·rw [List.getElem?_eq_none h] at hx;cases hx
   obtain ⟨c0,hc0⟩:=World.cells?_some (hcells i x hx).1
   have hj:j < P.cellsOf e:=by
    rcases Nat.lt_or_ge j (enc x).length with h|h
    ·omega
    ·rw [List.getElem?_eq_none h] at hy;cases hy
   have:=hc0.2 j hj
   rw [add_add,hy] at this
   rw [hsp (by omega),Addr.add_lit] at this
   rw [show a.off + i * P.cellsOf e + j = a.off + (i * P.cellsOf e + j) by omega];exact this
  ·obtain ⟨i,hi,rfl⟩:=List.getElem_of_mem hx
   exact (hcells i _ (by simp [hi])).2
end
section
variable {P:Program} {w:World} {t e s:TypeId}
theorem Rd.u8dec:∀ cs,(∃ n,cs = [Value.int .u8 n] ∧ (Lit.int .u8 n).wf = true) → ∃ x:UInt8,cs = encB x ∧ True:=by
 rintro cs ⟨n,rfl,h⟩
 have:=bounds_u8 h
 refine ⟨UInt8.ofNat n.toNat,?_,trivial⟩
 unfold encB
 congr 2
 rw [UInt8.toNat_ofNat']
 omega
theorem Rd.bytes (ht:P.underlying t = some (.slice e)) (he:P.underlying e = some (.int .u8)) (hc:P.cellsOf e = 1) :
 Rd P w t (fun cs=>∃ v l,cs = [v] ∧ Bs w v l):=
 (Rd.slice ht hc (by decide) (Rd.int he) Rd.u8dec).mono fun cs ⟨v,l,h1,h2,_⟩=>⟨v,l,h1,h2⟩
end
section
variable {P:Program}
structure pi (P:Program) (w:World) (t:TypeId) (v:Value):Prop where
 ok:∃ b,Value.okWide P w .any b t v
 rd:∀ Q,Rd P w t Q → Q v.cells.toList
def nY (P:Program) (w:World):List TypeId → List Value → Prop
 | [],[]=>True
 | t :: ts,v :: vs=>pi P w t v ∧ nY P w ts vs
 | _,_=>False
section
variable {w:World} {t e s:TypeId} {v:Value}
theorem pi.cells (h:pi P w t v) (ht:(match P.underlying t with|some (.struct _)=>true|some (.array _ _)=>true|_=>false) = true):∃ cs:Array Value,v = .agg cs:=by
 obtain ⟨b,hb⟩:=h.ok
 unfold Value.okWide at hb
 split at hb
 ·obtain ⟨cs,h1,_⟩:=hb;exact ⟨cs,h1⟩
 ·obtain ⟨cs,h1,_⟩:=hb;exact ⟨cs,h1⟩
 ·rename_i h1 h2
  split at ht
  ·rename_i hu;exact absurd hu (h1 _)
  ·rename_i hu;exact absurd hu (h2 _ _)
  ·cases ht
theorem pi.int (h:pi P w t v) {k:IntKind} (ht:P.underlying t = some (.int k)):∃ n,v = .int k n ∧ (Lit.int k n).wf = true:=by
 obtain ⟨b,hb⟩:=h.ok
 obtain ⟨n,rfl⟩:=okWide_int ht hb
 obtain ⟨m,h1,h2⟩:=h.rd _ (Rd.int ht)
 simp [Value.cells] at h1;subst h1
 exact ⟨n,rfl,h2⟩
theorem pi.bool (h:pi P w t v) (ht:P.underlying t = some .bool):∃ n,v = .bool n:=by
 obtain ⟨b,hb⟩:=h.ok
 exact okWide_bool ht hb
theorem pi.string (h:pi P w t v) (ht:P.underlying t = some .string):∃ n,v = .string n ∧ n.size ≤ maxLen:=by
 obtain ⟨b,hb⟩:=h.ok
 obtain ⟨n,rfl⟩:=okWide_string ht hb
 obtain ⟨m,h1,h2⟩:=h.rd _ (Rd.string ht)
 simp [Value.cells] at h1;subst h1
 exact ⟨n,rfl,h2⟩
theorem pi.slice (h:pi P w t v) (ht:P.underlying t = some (.slice e)) {Q:Value → Prop} (hq:Rd P w t (fun cs=>∃ v,cs = [v] ∧ Q v)):Q v:=by
 obtain ⟨b,hb⟩:=h.ok
 obtain ⟨a,l,c,rfl⟩:=okWide_slice ht hb
 obtain ⟨x,h1,h2⟩:=h.rd _ hq
 simp [Value.cells] at h1;subst h1
 exact h2
theorem pi.bytes (h:pi P w t v) (ht:P.underlying t = some (.slice e)) (he:P.underlying e = some (.int .u8)) (hc:P.cellsOf e = 1):∃ l,Bs w v l:=
 h.slice (Q:=fun v=>∃ l,Bs w v l) ht ((Rd.bytes ht he hc).mono fun _ ⟨v,l,h1,h2⟩=>⟨v,h1,l,h2⟩)
end
theorem nY.cons {w:World} {t:TypeId} {ts:List TypeId} {vs:List Value} (h:nY P w (t :: ts) vs):∃ v vs',vs = v :: vs' ∧ pi P w t v ∧ nY P w ts vs':=by
 cases vs with
 | nil=>exact h.elim
 | cons v vs=>exact ⟨v,vs,rfl,h.1,h.2⟩
theorem nY.nil {w:World} {vs:List Value} (h:nY P w [] vs):vs = []:=by
 cases vs with
 | nil=>rfl
 | cons v vs=>exact h.elim
theorem nY.one {w:World} {t0:TypeId} {args:Array Value} (h:nY P w [t0] args.toList):∃ v0,args = #[v0] ∧ pi P w t0 v0:=by
 obtain ⟨v0,_,e,h0,h⟩:=h.cons
 obtain rfl:=h.nil
 exact ⟨v0,by cases args;simp_all,h0⟩
theorem nY.three {w:World} {t0 t1 t2:TypeId} {args:Array Value} (h:nY P w [t0,t1,t2] args.toList):∃ v0 v1 v2,args = #[v0,v1,v2] ∧ pi P w t0 v0 ∧ pi P w t1 v1 ∧ pi P w t2 v2:=by
 obtain ⟨v0,_,e,h0,h⟩:=h.cons
 obtain ⟨v1,_,rfl,h1,h⟩:=h.cons
 obtain ⟨v2,_,rfl,h2,h⟩:=h.cons
 obtain rfl:=h.nil
 exact ⟨v0,v1,v2,by cases args;simp_all,h0,h1,h2⟩
theorem Mq {H:Type} {enc:TypeId × Value → H} {w:World}:∀ (ts:List TypeId) (vs:List Value) (ds:List (DataW H)) (p:List MemPlace),
 DataW.TrodAll enc P w 0 (fun _=>true) true ts vs ds p → (∀ (j:Nat) t v,ts[j]? = some t → vs[j]? = some v → ∃ b,Value.okWide P w .any b t v) → nY P w ts vs:=by
 intro ts
 induction ts with
 | nil=>intro vs ds p h _;obtain ⟨rfl,_,_⟩:=trodAll_nil h;trivial
 | cons t ts ih=>
  intro vs ds p h hok
  obtain ⟨v,vs',d,ds',p',q,rfl,rfl,rfl,h1,h2⟩:=trodAll_cons h
  refine ⟨⟨hok 0 t v rfl rfl,fun Q hQ=>?_⟩,ih _ _ _ h2 fun j t v h h'=>hok (j + 1) t v (by simpa using h) (by simpa using h')⟩
  obtain ⟨fuel,hf⟩:=h1
  exact hQ _ _ _ _ _ _ _ hf
theorem zk {H:Type} {enc:TypeId × Value → H} {w w':World} (hl:laidOutB P = true) (he:bw w w'):∀ (ts:List TypeId) (vs:List Value) (ds:List (DataW H)) (p:List MemPlace),
 (∀ t ∈ ts,P.readableRec t = true ∧ t < P.types.size) →
 DataW.TrodAll enc P w 0 (fun _=>true) true ts vs ds p → DataW.TrodAll enc P w' 0 (fun b=>decide (b < w.heap.size)) true ts vs ds p:=by
 intro ts
 induction ts with
 | nil=>intro vs ds p _ h;obtain ⟨rfl,rfl,rfl⟩:=trodAll_nil h;exact trodAll_mk0
 | cons t ts ih=>
  intro vs ds p hr h
  obtain ⟨v,vs',d,ds',p',q,rfl,rfl,rfl,h1,h2⟩:=trodAll_cons h
  have hlt:∀ x ∈ p',x.block < w.heap.size:=by obtain ⟨m,hm⟩:=h1;exact DataW.trod_lt m _ _ _ hm
  exact trodAll_cons_mk (Below.trod hl (hr t (by simp)).1 (hr t (by simp)).2 h1 he hlt) (ih _ _ _ (fun t ht=>hr t (by simp [ht])) h2)
theorem BL {C:Checked} {f:FuncId} {fn:Func} {s:ChangeSpec} {T:TypeId} (own:ownKnob C.prog.godebug = none) (laidOut:laidOutB C.prog = true)
 (noInit:C.prog.inits.idxOf? f = none) (hfn:C.prog.funcs[f]? = some fn) (hres:fn.resultTypes = #[T]) (hT:C.prog.underlying T = some .bool)
 (hread:fn.params.toList.all (fun t=>C.prog.readableRec t && decide (t < C.prog.types.size)) = true)
 (hvars:s.vars = []) (hspec:∀ (H:Type) (ds:List (DataW H)),ds.length = fn.params.size → (s.fn H (ds ++ [])).results = [.lit (.bool true)] ∧ (s.fn H (ds ++ [])).args = ds ∧ (s.fn H (ds ++ [])).vars = [])
 (walk:∀ (w:World) (args:Array Value),nY C.prog w fn.params.toList args.toList → Calls C.prog f args w fun e w'=>e = .returned (.bool true) ∧ bw w w')
 {conds:List PathCond} (os:Os) (started:os.Started) (H:Type) (enc:TypeId × Value → H)
 (witness:∃ (w:World) (tape:Tape) (i:Input),w.os = os ∧ (w.forCall tape i).Shaped C.prog ∧ i.vars = [] ∧ Input.okWide C.prog (w.forCall tape i) .any w.heap.size f i ∧
   s.pre6 enc C.prog fn conds false (w.forCall tape i).memory i.args ∧ ({}:Assume).holds C.prog (lone (Frame.enter C.prog f i.args .normal) [] (w.forCall tape i))) :
 ReturnsInHanded {} C os f .any (s.pre6 enc C.prog fn conds false) (s.post enc C.prog fn false true false false):=by
 refine returnsInHanded_of_change (C:=C) own started noInit hfn witness ?_
 intro W base args ds gs before hval hW hcnd _
 have hW':=hW
 obtain ⟨p,q,hA,hV,rfl,hfz,hnd⟩:=hW
 rw [hvars] at hV
 obtain ⟨rfl,rfl⟩:=trodVars_none hV
 have hargs:nY C.prog W fn.params.toList args.toList:=Mq _ _ _ _ hA fun j t v h h'=>⟨base,hval j t v (by simpa using h) (by simpa using h')⟩
 have hlen:ds.length = fn.params.size:=by
  have:∀ (ts:List TypeId) (vs:List Value) (ds:List (DataW H)) (p:List MemPlace),DataW.TrodAll enc C.prog W 0 (fun _=>true) true ts vs ds p → ds.length = ts.length:=by
   intro ts
   induction ts with
   | nil=>intro vs ds p h;obtain ⟨_,rfl,_⟩:=trodAll_nil h;rfl
   | cons t ts ih=>intro vs ds p h;obtain ⟨_,_,_,_,_,_,rfl,rfl,rfl,_,h2⟩:=trodAll_cons h;simp [ih _ _ _ h2]
  rw [this _ _ _ _ hA];simp
 obtain ⟨e1,e2,e3⟩:=hspec H ds hlen
 refine (walk W args hargs).mono fun e W' ⟨he,bel⟩=>?_
 subst he
 refine ⟨_,rfl,ds,[],_,[],p,[],hW',?_,?_,?_,bel.below.frame _,fun h=>by cases h⟩
 ·rw [e1,hres];exact trodAll_mk1 (shut_bool hT true)
 ·rw [e2]
  refine zk laidOut bel _ _ _ _ (fun t ht=>?_) hA
  have:=List.all_eq_true.1 hread t ht
  simpa using this
 ·rw [e3,hvars];rfl
end
end Go.Proofs.YtliiahjpiagdkaaGreat
namespace Go.Proofs.YtliiahjpiagdkaaGreat
open Go.RowKit
theorem Pn {α:Type} (l:List α) (h:l.length = 7):∃ a b c d e f g,l = [a,b,c,d,e,f,g]:=by
 match l,h with|[a,b,c,d,e,f,g],_=>exact ⟨a,b,c,d,e,f,g,rfl⟩
theorem JA {α:Type} (l:List α) (h:l.length = 2):∃ a b,l = [a,b]:=by
 match l,h with|[a,b],_=>exact ⟨a,b,rfl⟩
theorem Po (w:World):Rd Tryz.prog w 39 (fun cs=>∃ r c,cs = [Value.int .i64 r,.int .i64 c] ∧ (Lit.int .i64 r).wf = true ∧ (Lit.int .i64 c).wf = true):=by
 refine (Rd.struct' Tryz.underlying39).mono ?_
 rintro cs ⟨hl,hf⟩
 obtain ⟨c0,c1,rfl⟩:=JA cs (hl.trans (by kernel_rfl))
 obtain ⟨r,h1,w1⟩:=hf 0 0 3 1 _ rfl (by kernel_rfl) (Rd.int Tryz.underlying3)
 obtain ⟨c,h2,w2⟩:=hf 1 1 3 1 _ rfl (by kernel_rfl) (Rd.int Tryz.underlying3)
 simp at h1 h2
 subst h1 h2
 exact ⟨r,c,rfl,w1,w2⟩
def Oi (x:It):Prop:=x.key.size ≤ maxLen ∧ x.body.size ≤ maxLen ∧ (Lit.int .i64 x.rep).wf = true ∧ (Lit.int .i64 x.cnt).wf = true ∧ (Lit.int .i64 x.rank).wf = true ∧ (Lit.int .i64 x.prio).wf = true
theorem Pq (w:World):Rd Tryz.prog w 41 (fun cs=>∃ x,cs = encIt x ∧ Oi x):=by
 refine (Rd.struct' Tryz.underlying41).mono ?_
 rintro cs ⟨hl,hf⟩
 obtain ⟨c0,c1,c2,c3,c4,c5,c6,rfl⟩:=Pn cs (hl.trans (by kernel_rfl))
 obtain ⟨s0,h0,w0⟩:=hf 0 0 9 1 _ rfl (by kernel_rfl) (Rd.string Tryz.underlying9)
 obtain ⟨r,c,h1,w1,w1'⟩:=hf 1 1 39 2 _ rfl (by kernel_rfl) (Po w)
 obtain ⟨n2,h2,w2⟩:=hf 2 3 3 1 _ rfl (by kernel_rfl) (Rd.int Tryz.underlying3)
 obtain ⟨n3,h3,w3⟩:=hf 3 4 3 1 _ rfl (by kernel_rfl) (Rd.int Tryz.underlying3)
 obtain ⟨b4,h4⟩:=hf 4 5 4 1 _ rfl (by kernel_rfl) (Rd.bool Tryz.underlying4)
 obtain ⟨s5,h5,w5⟩:=hf 5 6 9 1 _ rfl (by kernel_rfl) (Rd.string Tryz.underlying9)
 simp at h0 h1 h2 h3 h4 h5
 obtain ⟨rfl,rfl⟩:=h1
 subst h0 h2 h3 h4 h5
 exact ⟨⟨s0,r,c,n2,n3,b4,s5⟩,rfl,w0,w5,w1,w1',w2,w3⟩
end Go.Proofs.YtliiahjpiagdkaaGreat
