/- Texts joined: Batch Split InW Ref34 RefSplit. -/
import Derived.Test.YtembiemaiacdfaaGreatJ09
import Derived.Test.YtembiemaiacdfaaGreatJ05
import Derived.Test.YtembiemaiacdfaaGreatJ25
import Derived.Test.YtembiemaiacdfaaGreatJ23
import Derived.Test.YtembiemaiacdfaaGreatJ10
import Derived.Test.YtembiemaiacdfaaGreatJ22
set_option maxRecDepth 10000
set_option maxHeartbeats 8000000
namespace Go.Proofs.YtembiemaiacdfaaGreat
open Go.RowKit
def dh (l:List It):Nat:=(l.map fun x=>(rT x).length).sum
theorem kd (l:List It) (x:It):dh (l ++ [x]) = dh l + (rT x).length:=by simp [dh]
theorem Gj (l:List It):dh l ≤ 200 * l.length:=by
 induction l with
 | nil=>simp [dh]
 | cons x l ih=>have:=tl x;simp only [dh,List.map_cons,List.sum_cons,List.length_cons] at ih ⊢;omega
structure Spl where
 D:List (List It)
 c:Option (List It)
 left:Int
def mi (x:It):Int:=(rT x).length
def iG (limit:Int) (s:Spl) (x:It):Spl:=match s.c with
 | none=>⟨s.D,some [x],limit - mi x⟩
 | some c=>if mi x > s.left then ⟨s.D ++ [c],some [x],limit - mi x⟩ else ⟨s.D,some (c ++ [x]),s.left - mi x⟩
def iv (limit:Int) (l:List It):Spl:=l.foldl (iG limit) ⟨[],none,-1⟩
def lM (limit:Int) (x:It):Prop:=fx x = true ∧ mi x ≤ limit
def qV (limit:Int) (l:List It) (k:Nat) (s:Spl):St:=match s.c with
 | none=>aJ [(0,iC .i64 limit),(6,.row 600 0),(7,iC .i64 s.left),(12,dN l),(13,iC .i64 (l.length:Nat)),(14,iC .i64 (k:Nat))] [(600,.row 23 1 [])]
 | some c=>aJ [(0,iC .i64 limit),(6,.row 600 0),(7,iC .i64 s.left),(12,dN l),(13,iC .i64 (l.length:Nat)),(14,iC .i64 (k:Nat))] [(600,.mix 23 (s.D.map da) (.row 601 0)),(601,.row 61 7 (c.map itP))]
theorem sB (limit:Int) (l:List It) (k:Nat) (h:k < l.length):iv limit (l.take (k + 1)) = iG limit (iv limit (l.take k)) l[k]:=by
 unfold iv;rw [aN l k h,List.foldl_append];rfl
theorem wC {limit left:Int} {D:List (List It)} {c:List It} {x:It} (h:((rT x).length:Int) > left):iG limit ⟨D,some c,left⟩ x = ⟨D ++ [c],some [x],limit - mi x⟩:=by simp [iG,mi,h]
theorem Ae {limit left:Int} {D:List (List It)} {c:List It} {x:It} (h:¬ ((rT x).length:Int) > left):iG limit ⟨D,some c,left⟩ x = ⟨D,some (c ++ [x]),left - mi x⟩:=by simp [iG,mi,h]
structure Kz (limit:Int) (k:Nat) (s:Spl):Prop where
 left1:-1 ≤ s.left
 left2:s.left ≤ 9223372036854775807
 none1:s.c = none → s.left = -1 ∧ s.D = []
 len:s.D.length + (s.c.map List.length).getD 0 ≤ k
 ne:∀ c,s.c = some c → 1 ≤ c.length
theorem Jd (limit:Int) (l:List It) (h1:limit ≤ 9223372036854775807) (hall:∀ x ∈ l,lM limit x):Kz limit l.length (iv limit l):=by
 have key:∀ (m:List It) (s:Spl) (k:Nat),(∀ x ∈ m,lM limit x) → Kz limit k s → Kz limit (k + m.length) (m.foldl (iG limit) s):=by
   intro m
   induction m with
   | nil=>intro s k _ h;exact h
   | cons x m ih=>
     intro s k hm h
     rw [List.foldl_cons,List.length_cons,show k + (m.length + 1) = (k + 1) + m.length by omega]
     refine ih _ _ (fun y hy=>hm y (by simp [hy])) ?_
     obtain ⟨hx1,hx2⟩:=hm x (by simp)
     have hn:0 ≤ mi x:=Int.natCast_nonneg _
     obtain ⟨q1,q2,q3,q4,q5⟩:=h
     unfold iG
     split
     · rename_i hc
       have:=q3 hc
       exact ⟨by simp only;omega,by simp only;omega,by simp,by rw [hc] at q4;simp at q4 ⊢;omega,by simp⟩
     · rename_i c hc
       rw [hc] at q4
       simp at q4
       have:=q5 c hc
       split
       · exact ⟨by simp only;omega,by simp only;omega,by simp,by simp;omega,by simp⟩
       · exact ⟨by simp only;omega,by simp only;omega,by simp,by simp;omega,by simp⟩
 have:=key l ⟨[],none,-1⟩ 0 hall ⟨by simp,by simp,fun _=>⟨rfl,rfl⟩,by simp,by simp⟩
 simpa [iv] using this
theorem qW {P:Program} {n:Nat} {fn:Func} {S S':St} {r:Ret} (h:Le n S S') (k:kv P n fn S' r):kv P n fn S r:=fun C a w hL hR=>k C a w hL (h C a w hR)
def fb (limit:Int):List It → Int
 | []=>0
 | x :: r=>if fx x = false then 2 else if mi x > limit then 12 else fb limit r
def jG (limit:Int) (l:List It):List (List It):=
 if fb limit l = 0 then (match (iv limit l).c with|none=>[[]]|some c=>(iv limit l).D ++ [c]) else []
theorem t8 (limit:Int) (l:List It):∃ m,m ≤ l.length ∧ (∀ x ∈ l.take m,lM limit x) ∧ (∀ h:m < l.length,(fx l[m] = false ∧ fb limit l = 2) ∨ (fx l[m] = true ∧ mi l[m] > limit ∧ fb limit l = 12)) ∧ (m = l.length → fb limit l = 0):=by
 induction l with
 | nil=>exact ⟨0,Nat.le_refl _,by simp,fun h=>by simp at h,fun _=>rfl⟩
 | cons x r ih=>
   by_cases h1:fx x = false
   · exact ⟨0,by simp,by simp,fun h=>.inl ⟨h1,by simp [fb,h1]⟩,fun h=>by simp at h⟩
   by_cases h2:mi x > limit
   · exact ⟨0,by simp,by simp,fun h=>.inr ⟨by simpa using h1,h2,by simp [fb,h1,h2]⟩,fun h=>by simp at h⟩
   obtain ⟨m,q1,q2,q3,q4⟩:=ih
   have hb:fb limit (x :: r) = fb limit r:=by simp [fb,h1,h2]
   rw [hb]
   refine ⟨m + 1,by simp;omega,fun y hy=>?_,fun h=>q3 (by simpa using h),fun h=>q4 (by simpa using h)⟩
   rw [List.take_succ_cons,List.mem_cons] at hy
   obtain rfl|hy:=hy
   · exact ⟨by simpa using h1,by omega⟩
   · exact q2 y hy
theorem wD (limit:Int) (l:List It) (hl:l.length ≤ 1000000000) (h1:-9223372036854775808 ≤ limit) (h2:limit ≤ 9223372036854775807) :
   Fn Tryz.prog 89 [iC .i64 limit,dN l] (.tup2 (.per (bK 1 ((jG limit l).map fun b=>[da b]))) (.per (ao (.int .i64 (fb limit l))))):=by
 obtain ⟨m,hm,hall,hbad,hok⟩:=t8 limit l
 unfold jG
 refine fi Tryz.func89 Tryz.ntmps89 ?_
 (refine wH ?_;(repeat' first|refine W2.mk ?_ ?_|refine W1.mk fun hc=>?_))
 refine cc (bv 6 600 23 1 rfl rfl) ?_
 refine mC m (fun k=>qV limit l k (iv limit (l.take k))) ?_ ?_
 · show Le _ _ (aJ _ _)
   exact ab
 · intro k hk
   have hI:=Jd limit (l.take k) h2 (fun x hx=>hall x (List.mem_of_mem_take (by rw [List.take_take,Nat.min_eq_left hk];exact hx)))
   rw [List.length_take,Nat.min_eq_left (Nat.le_trans hk hm)] at hI
   by_cases hkm:k < m
   · have hlt:k < l.length:=by omega
     have hsn:=sB limit l k hlt
     obtain ⟨hx1,hx2⟩:=hall l[k] (by rw [List.mem_take_iff_getElem];exact ⟨k,by omega,rfl⟩)
     rw [hsn]
     generalize iv limit (l.take k) = s at *
     obtain ⟨D,c,left⟩:=s
     obtain ⟨i1,i2,i3,i4,i5⟩:=hI
     unfold mi at *
     simp only at i1 i2
     cases c with
     | none=>
       obtain ⟨e1,e2⟩:=i3 rfl
       simp only at e1 e2
       subst e1;subst e2
       unfold qV
       simp only
       (repeat' (first|refine cl ?_|refine bh ?_|refine bx ?_|refine bz ?_|refine cm ?_|refine aW ?_|refine cj ?_|refine ck (by kernel_rfl) ?_|refine bB ?_|refine bD ?_|refine bF ?_|refine dv ?_|refine dw ?_|refine bG ?_|refine bi rfl ?_|(refine cV rfl rfl (fun hc=>?_) (fun hc=>?_) <;> (try rw [Bool.not_eq_true'] at hc) <;> (try rw [Bool.not_eq_false'] at hc) <;> (try first|rw [decide_eq_true_eq] at hc|rw [decide_eq_false_iff_not] at hc|rw [beq_iff_eq] at hc|rw [beq_eq_false_iff_ne] at hc|rw [bne_iff_ne] at hc|rw [bne_eq_false_iff_eq] at hc) <;> (repeat rw [List.length_map] at hc) <;> (try first|contradiction|(exfalso;omega)|(exfalso;simp [*] at hc;done)))|((first|apply aB rfl|apply aC rfl|apply aD rfl|apply aF rfl);focus (first|exact lW|(apply ax 20;(focus rfl);apply dl;(case hp=>exact ⟨rfl,rfl,rfl⟩);(case ho=>exact ⟨_,rfl⟩);(case' hf=>apply ee);(case hpl=>rfl);(case hg=>(repeat (first|exact GL.nil|(refine GL.cons ?_ ?_;focus (first|exact aL rfl|exact aR rfl|exact bM rfl rfl rfl|exact aU rfl|exact bN rfl|exact bf rfl)))));all_goals (first|assumption|omega|(simp;done)|(simp;omega)))|(apply ax 20;(focus rfl);apply dl;(case hp=>exact ⟨rfl,rfl,rfl⟩);(case ho=>exact ⟨_,rfl⟩);(case' hf=>apply dM);(case hpl=>rfl);(case hg=>(repeat (first|exact GL.nil|(refine GL.cons ?_ ?_;focus (first|exact aL rfl|exact aR rfl|exact bM rfl rfl rfl|exact aU rfl|exact bN rfl|exact bf rfl)))));all_goals (first|assumption|omega|(simp;done)|(simp;omega)))))))
       refine cc (yD 600 1 601 23 61 7 (D:=[]) rfl rfl rfl) ?_
       (have kc1:=ee l[k];refine wH ?_;(repeat' (first|refine W2.mk ?_ ?_|refine W1.mk fun hc=>?_|((first|apply aB rfl|apply aC rfl|apply aD rfl|apply aF rfl);(focus (first|(exact g8 ⟨rfl,rfl,rfl⟩ rfl inferInstance inferInstance rfl rfl rfl rfl (i:=0) (by rfl) (by first|omega|(simp;done)|(simp;omega)|(simp [aq];done)|(simp [aq];omega)))|(exact jA ⟨rfl,rfl,rfl⟩ rfl inferInstance rfl rfl rfl rfl)|(exact g9 ⟨rfl,rfl⟩ rfl inferInstance rfl rfl rfl rfl rfl rfl rfl)|(apply bt;(focus rfl);apply ag rfl rfl rfl rfl rfl;first|(exact g8 ⟨rfl,rfl,rfl⟩ rfl inferInstance inferInstance rfl rfl rfl rfl (i:=0) (by rfl) (by first|omega|(simp;done)|(simp;omega)|(simp [aq];done)|(simp [aq];omega)))|(exact jA ⟨rfl,rfl,rfl⟩ rfl inferInstance rfl rfl rfl rfl)|(exact g9 ⟨rfl,rfl⟩ rfl inferInstance rfl rfl rfl rfl rfl rfl rfl))));refine wH ?_)));all_goals clear kc1)
       refine ⟨hkm,?_⟩
       show Le _ _ (aJ _ _)
       exact ab
     | some c=>
       have i6:=i5 c rfl
       simp at i4
       unfold qV
       simp only
       (repeat' (first|refine cl ?_|refine bh ?_|refine bx ?_|refine bz ?_|refine cm ?_|refine aW ?_|refine cj ?_|refine ck (by kernel_rfl) ?_|refine bB ?_|refine bD ?_|refine bF ?_|refine dv ?_|refine dw ?_|refine bG ?_|refine bi rfl ?_|(refine cV rfl rfl (fun hc=>?_) (fun hc=>?_) <;> (try rw [Bool.not_eq_true'] at hc) <;> (try rw [Bool.not_eq_false'] at hc) <;> (try first|rw [decide_eq_true_eq] at hc|rw [decide_eq_false_iff_not] at hc|rw [beq_iff_eq] at hc|rw [beq_eq_false_iff_ne] at hc|rw [bne_iff_ne] at hc|rw [bne_eq_false_iff_eq] at hc) <;> (repeat rw [List.length_map] at hc) <;> (try first|contradiction|(exfalso;omega)|(exfalso;simp [*] at hc;done)))|((first|apply aB rfl|apply aC rfl|apply aD rfl|apply aF rfl);focus (first|exact lW|(apply ax 20;(focus rfl);apply dl;(case hp=>exact ⟨rfl,rfl,rfl⟩);(case ho=>exact ⟨_,rfl⟩);(case' hf=>apply ee);(case hpl=>rfl);(case hg=>(repeat (first|exact GL.nil|(refine GL.cons ?_ ?_;focus (first|exact aL rfl|exact aR rfl|exact bM rfl rfl rfl|exact aU rfl|exact bN rfl|exact bf rfl)))));all_goals (first|assumption|omega|(simp;done)|(simp;omega)))|(apply ax 20;(focus rfl);apply dl;(case hp=>exact ⟨rfl,rfl,rfl⟩);(case ho=>exact ⟨_,rfl⟩);(case' hf=>apply dM);(case hpl=>rfl);(case hg=>(repeat (first|exact GL.nil|(refine GL.cons ?_ ?_;focus (first|exact aL rfl|exact aR rfl|exact bM rfl rfl rfl|exact aU rfl|exact bN rfl|exact bf rfl)))));all_goals (first|assumption|omega|(simp;done)|(simp;omega)))|(exact na ⟨rfl,rfl,rfl⟩ rfl inferInstance rfl rfl rfl)))))
       · refine kg (qA 600 0 601 23 rfl rfl rfl rfl) ?_
         (repeat' (first|refine cl ?_|refine bh ?_|refine bx ?_|refine bz ?_|refine cm ?_|refine aW ?_|refine cj ?_|refine ck (by kernel_rfl) ?_|refine bB ?_|refine bD ?_|refine bF ?_|refine dv ?_|refine dw ?_|refine bG ?_|refine bi rfl ?_|(refine cV rfl rfl (fun hc=>?_) (fun hc=>?_) <;> (try rw [Bool.not_eq_true'] at hc) <;> (try rw [Bool.not_eq_false'] at hc) <;> (try first|rw [decide_eq_true_eq] at hc|rw [decide_eq_false_iff_not] at hc|rw [beq_iff_eq] at hc|rw [beq_eq_false_iff_ne] at hc|rw [bne_iff_ne] at hc|rw [bne_eq_false_iff_eq] at hc) <;> (repeat rw [List.length_map] at hc) <;> (try first|contradiction|(exfalso;omega)|(exfalso;simp [*] at hc;done)))|((first|apply aB rfl|apply aC rfl|apply aD rfl|apply aF rfl);focus (first|exact lW|(apply ax 20;(focus rfl);apply dl;(case hp=>exact ⟨rfl,rfl,rfl⟩);(case ho=>exact ⟨_,rfl⟩);(case' hf=>apply ee);(case hpl=>rfl);(case hg=>(repeat (first|exact GL.nil|(refine GL.cons ?_ ?_;focus (first|exact aL rfl|exact aR rfl|exact bM rfl rfl rfl|exact aU rfl|exact bN rfl|exact bf rfl)))));all_goals (first|assumption|omega|(simp;done)|(simp;omega)))|(apply ax 20;(focus rfl);apply dl;(case hp=>exact ⟨rfl,rfl,rfl⟩);(case ho=>exact ⟨_,rfl⟩);(case' hf=>apply dM);(case hpl=>rfl);(case hg=>(repeat (first|exact GL.nil|(refine GL.cons ?_ ?_;focus (first|exact aL rfl|exact aR rfl|exact bM rfl rfl rfl|exact aU rfl|exact bN rfl|exact bf rfl)))));all_goals (first|assumption|omega|(simp;done)|(simp;omega)))))))
         refine cc (yD 600 1 601 23 61 7 (D:=D.map da ++ [da c]) rfl (by rw [List.map_append];rfl) rfl) ?_
         (have kc1:=ee l[k];refine wH ?_;(repeat' (first|refine W2.mk ?_ ?_|refine W1.mk fun hc=>?_|((first|apply aB rfl|apply aC rfl|apply aD rfl|apply aF rfl);(focus (first|(exact g8 ⟨rfl,rfl,rfl⟩ rfl inferInstance inferInstance rfl rfl rfl rfl (i:=D.length + 1) (by first|omega|(simp;done)|(simp;omega)|(simp [aq];done)|(simp [aq];omega)) (by first|omega|(simp;done)|(simp;omega)|(simp [aq];done)|(simp [aq];omega)))|(exact jA ⟨rfl,rfl,rfl⟩ rfl inferInstance rfl rfl rfl (by first|omega|(simp;done)|(simp;omega)|(simp [aq];done)|(simp [aq];omega)))|(exact g9 ⟨rfl,rfl⟩ rfl inferInstance rfl rfl rfl (by first|omega|(simp;done)|(simp;omega)|(simp [aq];done)|(simp [aq];omega)) rfl rfl rfl)|(apply bt;(focus rfl);apply ag rfl rfl rfl rfl rfl;first|(exact g8 ⟨rfl,rfl,rfl⟩ rfl inferInstance inferInstance rfl rfl rfl rfl (i:=D.length + 1) (by first|omega|(simp;done)|(simp;omega)|(simp [aq];done)|(simp [aq];omega)) (by first|omega|(simp;done)|(simp;omega)|(simp [aq];done)|(simp [aq];omega)))|(exact jA ⟨rfl,rfl,rfl⟩ rfl inferInstance rfl rfl rfl (by first|omega|(simp;done)|(simp;omega)|(simp [aq];done)|(simp [aq];omega)))|(exact g9 ⟨rfl,rfl⟩ rfl inferInstance rfl rfl rfl (by first|omega|(simp;done)|(simp;omega)|(simp [aq];done)|(simp [aq];omega)) rfl rfl rfl))));refine wH ?_)));all_goals clear kc1)
         refine ⟨hkm,?_⟩
         have hsp:iG limit ⟨D,some c,left⟩ l[k] = ⟨D ++ [c],some [l[k]],limit - mi l[k]⟩:=wC (by assumption)
         rw [hsp]
         show Le _ _ (aJ _ _)
         exact ab
       · (have kc1:=ee l[k];refine wH ?_;(repeat' (first|refine W2.mk ?_ ?_|refine W1.mk fun hc=>?_|((first|apply aB rfl|apply aC rfl|apply aD rfl|apply aF rfl);(focus (first|(exact na ⟨rfl,rfl,rfl⟩ rfl inferInstance rfl rfl rfl)|(exact g8 ⟨rfl,rfl,rfl⟩ rfl inferInstance inferInstance rfl rfl rfl rfl (i:=D.length) (by first|omega|(simp;done)|(simp;omega)|(simp [aq];done)|(simp [aq];omega)) (by first|omega|(simp;done)|(simp;omega)|(simp [aq];done)|(simp [aq];omega)))|(exact jA ⟨rfl,rfl,rfl⟩ rfl inferInstance rfl rfl rfl (by first|omega|(simp;done)|(simp;omega)|(simp [aq];done)|(simp [aq];omega)))|(exact g9 ⟨rfl,rfl⟩ rfl inferInstance rfl rfl rfl (by first|omega|(simp;done)|(simp;omega)|(simp [aq];done)|(simp [aq];omega)) rfl rfl rfl)|(apply bt;(focus rfl);apply ag rfl rfl rfl rfl rfl;first|(exact na ⟨rfl,rfl,rfl⟩ rfl inferInstance rfl rfl rfl)|(exact g8 ⟨rfl,rfl,rfl⟩ rfl inferInstance inferInstance rfl rfl rfl rfl (i:=D.length) (by first|omega|(simp;done)|(simp;omega)|(simp [aq];done)|(simp [aq];omega)) (by first|omega|(simp;done)|(simp;omega)|(simp [aq];done)|(simp [aq];omega)))|(exact jA ⟨rfl,rfl,rfl⟩ rfl inferInstance rfl rfl rfl (by first|omega|(simp;done)|(simp;omega)|(simp [aq];done)|(simp [aq];omega)))|(exact g9 ⟨rfl,rfl⟩ rfl inferInstance rfl rfl rfl (by first|omega|(simp;done)|(simp;omega)|(simp [aq];done)|(simp [aq];omega)) rfl rfl rfl))));refine wH ?_)));all_goals clear kc1)
         refine ⟨hkm,?_⟩
         have hsp:iG limit ⟨D,some c,left⟩ l[k] = ⟨D,some (c ++ [l[k]]),left - mi l[k]⟩:=Ae (by assumption)
         rw [hsp]
         show Le _ _ (aJ _ _)
         exact ab
   have hkm:k = m:=by omega
   subst hkm
   by_cases hlt:k < l.length
   · have hb:=hbad hlt
     clear hbad hok hall
     generalize iv limit (l.take k) = s at *
     obtain ⟨D,c,left⟩:=s
     obtain ⟨i1,i2,i3,i4,i5⟩:=hI
     unfold mi at *
     rcases hb with ⟨hb1,hb2⟩|⟨hb1,hb2,hb3⟩
     all_goals
       have hb0:fb limit l ≠ 0:=by omega
       rw [if_neg hb0]
       cases c with
       | none=>
         unfold qV
         simp only
         (have kc1:=ee l[k];have kc2:=dM l[k];refine wH ?_;(repeat' first|refine W2.mk ?_ ?_|refine W1.mk fun hc=>?_);all_goals clear kc2 kc1)
         refine oO ?_ ?_
         · exact sX rfl
         · exact az rfl (by omega)
       | some c=>
         unfold qV
         simp only
         (have kc1:=ee l[k];have kc2:=dM l[k];refine wH ?_;(repeat' first|refine W2.mk ?_ ?_|refine W1.mk fun hc=>?_);all_goals clear kc2 kc1)
         refine oO ?_ ?_
         · exact sX rfl
         · exact az rfl (by omega)
   · have e:l.take k = l:=List.take_of_length_le (by omega)
     have hb0:=hok (by omega)
     rw [hb0,if_pos rfl]
     have hkl:k = l.length:=by omega
     rw [e] at hI ⊢
     clear e
     subst hkl
     clear hbad hok hall hb0
     generalize iv limit l = s at *
     obtain ⟨D,c,left⟩:=s
     obtain ⟨i1,i2,i3,i4,i5⟩:=hI
     cases c with
     | none=>
       obtain ⟨e1,e2⟩:=i3 rfl
       simp only at e1 e2
       subst e1;subst e2
       unfold qV
       simp only
       (refine wH ?_;(repeat' first|refine W2.mk ?_ ?_|refine W1.mk fun hc=>?_))
       refine ⟨.inl rfl,qW (yD 600 1 699 23 61 7 (D:=[]) rfl rfl rfl) (qW (qA 600 1 699 23 rfl rfl rfl rfl) ?_)⟩
       exact uK rfl (w8 rfl rfl rfl) (az rfl rfl)
     | some c=>
       simp at i4
       unfold qV
       simp only
       (refine wH ?_;(repeat' (first|refine W2.mk ?_ ?_|refine W1.mk fun hc=>?_|((first|apply aB rfl|apply aC rfl|apply aD rfl|apply aF rfl);(focus (first|(exact na ⟨rfl,rfl,rfl⟩ rfl inferInstance rfl rfl rfl)|(apply bt;(focus rfl);apply ag rfl rfl rfl rfl rfl;first|(exact na ⟨rfl,rfl,rfl⟩ rfl inferInstance rfl rfl rfl))));refine wH ?_))))
       refine ⟨.inl rfl,qW (qA 600 0 601 23 rfl rfl rfl rfl) ?_⟩
       exact uK rfl (w8 rfl rfl (nK (by simp [List.map_map,Function.comp_def]))) (az rfl rfl)
section
def KJ (r:List Rg) (l:List It):List It:=l.filter fun x=>bn r x.key
theorem Je (l:List It) (r:List Rg) (hk:mo l) (hl:l.length ≤ 1000000000) (hr:r.length ≤ 12):Fn Tryz.prog 53 [dN l,db r] (Bo (KJ r l)):=by
 have h1:=(yw r (by have:=List.length_filter_le eo r;omega) (by omega)).frz
 have h2:∀ s:ByteArray,s.size ≤ 1000000000 → Fn Tryz.prog 80 [.per (ef (nW r)),sC s] (cU (bn r s)):=fun s hs=>by
   have:=zV (nW r) s (by have:=qk r;omega) hs
   rwa [(nX r).2] at this
 generalize nW r = R at *
 unfold KJ
 generalize hT:l.filter (fun x=>bn r x.key) = T
 refine fi Tryz.func53 Tryz.ntmps53 ?_
 (have kc1:=h1;refine w0 ?_;(repeat' first|refine W2.mk ?_ ?_|refine W1.mk fun hc=>?_);all_goals clear kc1)
 refine cc (bv 5 600 61 7 rfl rfl) ?_
 refine ah (X:=Nat × List It) (fun x=>x.1 ≤ l.length ∧ x.2.length ≤ x.1 ∧ x.2 ++ (l.drop x.1).filter (fun x=>bn r x.key) = T)
   (fun x=>aJ [(1,.per (ef R)),(5,.row 600 0),(10,dN l),(11,iC .i64 (l.length:Nat)),(12,iC .i64 (x.1:Nat))] [(600,dW x.2)]) (fun x=>l.length - x.1) (0,[]) ⟨Nat.zero_le _,Nat.le_refl _,by simpa using hT⟩ ?_ ?_
 · exact ab
 · rintro ⟨k,ac⟩ ⟨g1,g0,g2⟩
   simp only at g1 g0 g2 ⊢
   by_cases hlt:k < l.length
   · have h3:=h2 l[k].key (hk _ (List.getElem_mem hlt))
     rw [List.drop_eq_getElem_cons hlt,List.filter_cons] at g2
     clear h2 hT
     cases hr:bn r l[k].key with
     | false=>
       rw [hr] at h3 g2
       (have kc1:=h3;refine w0 ?_;(repeat' first|refine W2.mk ?_ ?_|refine W1.mk fun hc=>?_);all_goals clear kc1)
       refine ⟨(k + 1,ac),⟨by simp only;omega,by simp only;omega,by simpa using g2⟩,by simp only;omega,?_⟩
       exact ab
     | true=>
       rw [hr] at h3 g2
       (have kc1:=h3;refine w0 ?_;(repeat' first|refine W2.mk ?_ ?_|refine W1.mk fun hc=>?_);all_goals clear kc1)
       refine ⟨(k + 1,ac ++ [l[k]]),⟨by simp only;omega,by simp;omega,by simpa using g2⟩,by simp only;omega,an (aM 600 601) (an (aM 601 600) ?_)⟩
       exact ab
   · have hkl:k = l.length:=by omega
     subst hkl
     rw [List.drop_length] at g2
     simp at g2
     subst g2
     clear h2 hT
     (refine w0 ?_;(repeat' first|refine W2.mk ?_ ?_|refine W1.mk fun hc=>?_))
     refine aO ?_
     exact dx rfl rfl rfl rfl
end
theorem gy (l:List It) (hl:l.length ≤ 1000000000):Fn Tryz.prog 20 [dN l] (.per (ao (.int .i64 (dh l:Nat)))):=by
 refine fi Tryz.func20 Tryz.ntmps20 ?_
 (refine wH ?_;(repeat' first|refine W2.mk ?_ ?_|refine W1.mk fun hc=>?_))
 refine mC l.length (fun k=>aJ [(0,dN l),(3,iC .i64 (dh (l.take k):Nat)),(4,iC .i64 (k:Nat))] []) ?_ ?_
 · exact ab
 · intro k hk
   have hb:=Gj (l.take k)
   rw [List.length_take] at hb
   by_cases hlt:k < l.length
   · have hb2:=tl l[k]
     have hs:dh (l.take (k + 1)) = dh (l.take k) + (rT l[k]).length:=by rw [aN l k hlt,kd]
     by_cases hr:fx l[k] = true
     · (have kc1:=gm l[k];have kc2:=DV l[k] hr;refine wH ?_;(repeat' first|refine W2.mk ?_ ?_|refine W1.mk fun hc=>?_);all_goals clear kc2 kc1)
       refine ⟨hlt,?_⟩
       exact ab
     · have hz:rT l[k] = []:=by rw [rT,if_neg hr]
       rw [hz] at hs
       simp at hs
       (have kc1:=gm l[k];refine wH ?_;(repeat' first|refine W2.mk ?_ ?_|refine W1.mk fun hc=>?_);all_goals clear kc1)
       refine ⟨hlt,?_⟩
       exact ab
   · (refine wH ?_;(repeat' first|refine W2.mk ?_ ?_|refine W1.mk fun hc=>?_))
     refine aO ?_
     exact az rfl (by rw [List.take_of_length_le (by omega)])
abbrev Gk (l:List It):Cnt:=.per (da l)
abbrev Lk (b:List (List It)):Ret:=.per (bK 1 (b.map fun c=>[da c]))
def jH (l:List It) (a b:Nat):List It:=(l.drop a).take (b - a)
theorem qX (l:List It) (k:Nat) (h:k < l.length):jH l k (k + 1) = [l[k]]:=by
 unfold jH;rw [List.drop_eq_getElem_cons h,show k + 1 - k = 1 by omega];rfl
theorem ot (l:List It) (a b:Nat) (h:b < l.length) (hab:a ≤ b):jH l a (b + 1) = jH l a b ++ [l[b]]:=by
 unfold jH
 rw [show b + 1 - a = (b - a) + 1 by omega,List.take_succ_eq_append_getElem (by rw [List.length_drop];omega),List.getElem_drop]
 congr 3;omega
theorem wF (l:List It) (a:Nat):jH l a a = []:=by simp [jH]
def jI (s:Spl):List (List It):=match s.c with
 | none=>[[]]
 | some c=>s.D ++ [c]
def B4 (limit:Int) (l:List It) (x:Nat × List (List It)):Prop:=
 x.1 ≤ l.length ∧ ((x.1 = 0 ∧ x.2 = []) ∨ (l = [] ∧ x.2 = [[]]) ∨
   ∃ D c left,iv limit (l.take x.1) = ⟨D,some c,left⟩ ∧ x.2 = D ++ [c] ∧ 0 < x.1 ∧ ∀ h:x.1 < l.length,mi (l[x.1]'h) > left)
theorem Gl {limit:Int} {l:List It} {x:Nat × List (List It)} (h:B4 limit l x) (h1:l.length ≤ x.1) (h2:x.2 ≠ []):x.2 = jI (iv limit l):=by
 obtain ⟨q,⟨_,h3⟩|⟨rfl,h3⟩|⟨D,c,left,h3,h4,h5,h6⟩⟩:=h
 · exact absurd h3 h2
 · rw [h3];rfl
 · rw [List.take_of_length_le h1] at h3
   rw [h3,h4];rfl
def Jf (limit:Int) (l:List It) (x:Nat × List (List It)) (to:Nat):Prop:=
 x.1 ≤ to ∧ to ≤ l.length ∧ (to = x.1 ∨ iv limit (l.take to) = ⟨x.2,some (jH l x.1 to),limit - dh (jH l x.1 to)⟩)
theorem ia (x:It):dh [x] = (rT x).length:=by simp [dh]
theorem B5 {limit:Int} {l:List It} {x:Nat × List (List It)} {to:Nat} (h:B4 limit l x) (hq:Jf limit l x to) (hlt:to < l.length) (hs:(dh (jH l x.1 (to + 1)):Int) ≤ limit):Jf limit l x (to + 1):=by
 obtain ⟨q1,q2,q3⟩:=hq
 refine ⟨by omega,hlt,.inr ?_⟩
 have hsz:=kd (jH l x.1 to) l[to]
 rw [sB limit l to hlt,ot l x.1 to hlt q1,hsz]
 rw [ot l x.1 to hlt q1,hsz] at hs
 by_cases he:to = x.1
 · subst he
   rw [wF]
   obtain ⟨r1,⟨r2,r3⟩|⟨r2,r3⟩|⟨D,c,left,r2,r3,r4,r5⟩⟩:=h
   · rw [r3];simp [r2,iv,iG,dh,mi]
   · subst r2;simp at hlt
   · rw [r2,wC (by have:=r5 hlt;unfold mi at this;exact this),r3]
     simp [dh,mi]
 · have q3:=q3.resolve_left he
   rw [q3,Ae (by push_cast at hs;omega)]
   simp only [Spl.mk.injEq,true_and,mi]
   push_cast;omega
theorem B6 {limit:Int} {l:List It} {x:Nat × List (List It)} {to:Nat} (h:B4 limit l x) (hr:x.1 < l.length ∨ x.2 = []) (hok:∀ x ∈ l,lM limit x) (hq:Jf limit l x to) (hs:to < l.length → ¬ (dh (jH l x.1 (to + 1)):Int) ≤ limit) :
   B4 limit l (to,x.2 ++ [jH l x.1 to]) ∧ (x.1 < to ∨ x.2 = []):=by
 obtain ⟨q1,q2,q3⟩:=hq
 have hne:to = x.1 → l = []:=fun he=>by
   subst he
   by_cases hlt:x.1 < l.length
   · have:=hs hlt
     rw [qX l _ hlt,ia] at this
     exact absurd (hok _ (List.getElem_mem hlt)).2 (by unfold mi;omega)
   · have h2:=hr.resolve_left hlt
     obtain ⟨r1,⟨r2,r3⟩|⟨r2,r3⟩|⟨D,c,left,r2,r3,r4,r5⟩⟩:=h
     · exact List.eq_nil_of_length_eq_zero (by omega)
     · exact r2
     · rw [r3] at h2;simp at h2
 by_cases he:to = x.1
 · have hl:=hne he
   subst hl
   have hx2:=hr.resolve_left (by simp)
   refine ⟨⟨q2,.inr (.inl ⟨rfl,?_⟩)⟩,.inr hx2⟩
   rw [hx2,he,wF];rfl
 · have q3:=q3.resolve_left he
   refine ⟨⟨q2,.inr (.inr ⟨_,_,_,q3,rfl,by simp only;omega,fun hlt=>?_⟩)⟩,.inl (by omega)⟩
   have:=hs hlt
   rw [ot l x.1 to hlt q1,kd] at this
   unfold mi;push_cast at this;simp only;omega
theorem Gm {limit:Int} {l:List It} {x:Nat × List (List It)} (h2:limit ≤ 9223372036854775807) (hok:∀ x ∈ l,lM limit x) (h:B4 limit l x):x.2.length ≤ x.1 + 1:=by
 obtain ⟨q,⟨_,h3⟩|⟨rfl,h3⟩|⟨D,c,left,h3,h4,h5,h6⟩⟩:=h
 · rw [h3];simp
 · rw [h3];simp
 · have:=Jd limit (l.take x.1) h2 (fun y hy=>hok y (List.mem_of_mem_take hy))
   rw [h3] at this
   have hl:=this.len
   have hc:=this.ne c rfl
   simp at hl
   rw [h4];simp;omega
theorem B7 (limit:Int) (l:List It) (hl:l.length ≤ 1000000000) (h2:limit ≤ 9223372036854775807) :
   Fn Tryz.prog 60 [iC .i64 limit,Gk l] (.tup2 (Lk (jG limit l)) (.per (ao (.int .i64 (fb limit l))))):=by
 obtain ⟨m,hm,hall,hbad,hok⟩:=t8 limit l
 unfold jG
 refine fi Tryz.func60 Tryz.ntmps60 ?_
 (refine wH ?_;(repeat' first|refine W2.mk ?_ ?_|refine W1.mk fun hc=>?_))
 refine mC m (fun k=>aJ [(0,iC .i64 limit),(1,Gk l),(6,iC .i64 (k:Nat))] []) ?_ ?_
 · exact ab
 · intro k hk
   by_cases hkm:k < m
   · have hlt:k < l.length:=by omega
     obtain ⟨hx1,hx2⟩:=hall l[k] (by rw [List.mem_take_iff_getElem];exact ⟨k,by omega,rfl⟩)
     have hs1:=qX l k hlt
     unfold jH at hs1
     have hs2:dh ((l.drop k).take (k + 1 - k)) = (rT l[k]).length:=by rw [hs1,ia]
     unfold mi at hx2
     (have kc1:=gm l[k];have kc2:=gy ((l.drop k).take (k + 1 - k)) (by simp;omega);refine wH ?_;(repeat' (first|refine W2.mk ?_ ?_|refine W1.mk fun hc=>?_|((first|apply aB rfl|apply aC rfl|apply aD rfl|apply aF rfl);(focus (first|(exact ew (h:=k + 1) (l:=k) ⟨rfl,rfl,rfl⟩ rfl inferInstance inferInstance rfl rfl (by refine ⟨?_,?_,?_,?_⟩ <;> first|rfl|exact ⟨_,_,rfl,rfl⟩|omega|(simp;done)|(simp;omega)))|(apply bt;(focus rfl);apply ag rfl rfl rfl rfl rfl;first|(exact ew (h:=k + 1) (l:=k) ⟨rfl,rfl,rfl⟩ rfl inferInstance inferInstance rfl rfl (by refine ⟨?_,?_,?_,?_⟩ <;> first|rfl|exact ⟨_,_,rfl,rfl⟩|omega|(simp;done)|(simp;omega))))));refine wH ?_)));all_goals clear kc2 kc1)
     refine ⟨hkm,?_⟩
     exact ab
   have hkm:k = m:=by omega
   subst hkm
   by_cases hlt:k < l.length
   · have hb:=hbad hlt
     clear hbad hok hall
     have hs1:=qX l k hlt
     unfold jH at hs1
     have hs2:dh ((l.drop k).take (k + 1 - k)) = (rT l[k]).length:=by rw [hs1,ia]
     unfold mi at hb
     rcases hb with ⟨hb1,hb2⟩|⟨hb1,hb2,hb3⟩
     all_goals
       have hb0:fb limit l ≠ 0:=by omega
       rw [if_neg hb0]
       (have kc1:=gm l[k];have kc2:=gy ((l.drop k).take (k + 1 - k)) (by simp;omega);refine wH ?_;(repeat' (first|refine W2.mk ?_ ?_|refine W1.mk fun hc=>?_|((first|apply aB rfl|apply aC rfl|apply aD rfl|apply aF rfl);(focus (first|(exact ew (h:=k + 1) (l:=k) ⟨rfl,rfl,rfl⟩ rfl inferInstance inferInstance rfl rfl (by refine ⟨?_,?_,?_,?_⟩ <;> first|rfl|exact ⟨_,_,rfl,rfl⟩|omega|(simp;done)|(simp;omega)))|(apply bt;(focus rfl);apply ag rfl rfl rfl rfl rfl;first|(exact ew (h:=k + 1) (l:=k) ⟨rfl,rfl,rfl⟩ rfl inferInstance inferInstance rfl rfl (by refine ⟨?_,?_,?_,?_⟩ <;> first|rfl|exact ⟨_,_,rfl,rfl⟩|omega|(simp;done)|(simp;omega))))));refine wH ?_)));all_goals clear kc2 kc1)
       refine oO ?_ ?_
       · exact sX rfl
       · exact az rfl (by omega)
   have hkl:k = l.length:=by omega
   subst hkl
   have hb0:=hok rfl
   rw [hb0,if_pos rfl]
   have hall':∀ x ∈ l,lM limit x:=fun x hx=>hall x (by rw [List.take_length];exact hx)
   clear hbad hok hall
   (refine wH ?_;(repeat' first|refine W2.mk ?_ ?_|refine W1.mk fun hc=>?_))
   refine cc (bv 7 700 23 1 rfl rfl) ?_
   refine ah (B4 limit l) (fun x=>aJ [(0,iC .i64 limit),(1,Gk l),(7,.row 700 0),(8,iC .i64 (x.1:Nat))] [(700,.row 23 1 (x.2.map fun c=>[da c]))]) (fun x=>(l.length - x.1) + (if x.2 = [] then 1 else 0)) (0,[]) ⟨Nat.zero_le _,.inl ⟨rfl,rfl⟩⟩ ?_ ?_
   · exact ab
   · rintro ⟨fr,out⟩ hP
     have hfr:=hP.1
     have hol:=Gm h2 hall' hP
     simp only at hfr hol
     (refine wH ?_;(repeat' first|refine W2.mk ?_ ?_|refine W1.mk fun hc=>?_))
     · have hr:fr < l.length ∨ out = []:=by have:=@List.length_eq_zero_iff _ out;grind
       refine ah (Jf limit l (fr,out)) (fun to=>aJ [(0,iC .i64 limit),(1,Gk l),(7,.row 700 0),(8,iC .i64 (fr:Nat)),(9,iC .i64 (to:Nat))] [(700,.row 23 1 (out.map fun c=>[da c]))]) (fun to=>l.length - to) fr ⟨Nat.le_refl _,hfr,.inl rfl⟩ ?_ ?_
       · show Le _ _ (aJ _ _)
         exact ab
       · intro to hQ
         have hto:=hQ.2.1
         have hto1:=hQ.1
         simp only at hto1
         (repeat' (first|refine cl ?_|refine bh ?_|refine bx ?_|refine bz ?_|refine cm ?_|refine aW ?_|refine cv dm ?_|refine cj ?_|refine ck (by kernel_rfl) ?_|refine bB ?_|refine bD ?_|refine bF ?_|refine dv ?_|refine dw ?_|refine bG ?_|refine bi rfl ?_|(refine cV rfl rfl (fun hc=>?_) (fun hc=>?_) <;> (try rw [Bool.not_eq_true'] at hc) <;> (try rw [Bool.not_eq_false'] at hc) <;> (try first|rw [decide_eq_true_eq] at hc|rw [decide_eq_false_iff_not] at hc|rw [beq_iff_eq] at hc|rw [beq_eq_false_iff_ne] at hc|rw [bne_iff_ne] at hc|rw [bne_eq_false_iff_eq] at hc) <;> (repeat rw [List.length_map] at hc) <;> (try first|contradiction|(exfalso;omega)|(exfalso;simp [*] at hc;done)))|((first|apply aB rfl|apply aC rfl|apply aD rfl|apply aF rfl);focus (first|exact lW|(apply bt;(focus rfl);(first|apply dq rfl rfl rfl rfl rfl (ga rfl)|apply dq rfl rfl rfl rfl rfl rfl);intro g1 g2;(first|(apply ax 20;(focus rfl);apply dl;(case hp=>exact ⟨rfl,rfl,rfl⟩);(case ho=>exact ⟨_,rfl⟩);(case' hf=>apply gy ((l.drop fr).take (to + 1 - fr)));(case hpl=>rfl);(case hg=>(repeat (first|exact GL.nil|(refine GL.cons ?_ ?_;focus (first|exact aL (aj rfl (by rw [g2];rfl))|exact aL (ai rfl (by rw [g2];rfl))|exact aR (ai rfl (by rw [g2];rfl))|exact aU (ai rfl (by rw [g2];rfl))|exact aL rfl|exact aR rfl|exact aU rfl)))));all_goals (first|assumption|omega|(simp;done)|(simp;omega)))|(apply ax 11;(focus rfl);apply ew (h:=to + 1) (l:=fr) <;> first|(first|exact aj rfl (by rw [g2];rfl)|exact ai rfl (by rw [g2];rfl)|exact aj rfl (by rw [g1,g2];rfl)|exact ai rfl (by rw [g1,g2];rfl)|rfl|exact ⟨rfl,rfl,rfl⟩|infer_instance|exact aj rfl (by simp_all)|exact ai rfl (by simp_all))|(have g3:to < l.length:=(by simpa using g2);refine ⟨⟨_,_,aj rfl (by rw [g2];rfl),rfl⟩,⟨_,_,aj rfl (by rw [g2];rfl),rfl⟩,by omega,by omega⟩))))|(apply bt;(focus rfl);(first|apply f9 rfl rfl rfl rfl rfl (ga rfl)|apply f9 rfl rfl rfl rfl rfl rfl);intro g1 g2;(first|(apply ax 20;(focus rfl);apply dl;(case hp=>exact ⟨rfl,rfl,rfl⟩);(case ho=>exact ⟨_,rfl⟩);(case' hf=>apply gy ((l.drop fr).take (to + 1 - fr)));(case hpl=>rfl);(case hg=>(repeat (first|exact GL.nil|(refine GL.cons ?_ ?_;focus (first|exact aL (aj rfl (by rw [g2];rfl))|exact aL (ai rfl (by rw [g2];rfl))|exact aR (ai rfl (by rw [g2];rfl))|exact aU (ai rfl (by rw [g2];rfl))|exact aL rfl|exact aR rfl|exact aU rfl)))));all_goals (first|assumption|omega|(simp;done)|(simp;omega)))|(apply ax 11;(focus rfl);apply ew (h:=to + 1) (l:=fr) <;> first|(first|exact aj rfl (by rw [g2];rfl)|exact ai rfl (by rw [g2];rfl)|exact aj rfl (by rw [g1,g2];rfl)|exact ai rfl (by rw [g1,g2];rfl)|rfl|exact ⟨rfl,rfl,rfl⟩|infer_instance|exact aj rfl (by simp_all)|exact ai rfl (by simp_all))|(have g3:to < l.length:=(by simpa using g2);refine ⟨⟨_,_,aj rfl (by rw [g2];rfl),rfl⟩,⟨_,_,aj rfl (by rw [g2];rfl),rfl⟩,by omega,by omega⟩))))|(apply ax 20;(focus rfl);first|(apply dl;(case hp=>exact ⟨rfl,rfl,rfl⟩);(case ho=>exact ⟨_,rfl⟩);(case' hf=>apply gy ((l.drop fr).take (to + 1 - fr)));(case hpl=>rfl);(case hg=>(repeat (first|exact GL.nil|(refine GL.cons ?_ ?_;focus (first|exact aL rfl|exact aR rfl|exact bM rfl rfl rfl|exact aU rfl|exact bN rfl|exact bf rfl)))));all_goals (first|assumption|omega|(simp;done)|(simp;omega)))|(apply fK;(case hp=>exact ⟨rfl,rfl,rfl⟩);(case ho=>exact ⟨_,rfl⟩);(case' hf=>apply gy ((l.drop fr).take (to + 1 - fr)));(case hg=>(repeat (first|exact GL.nil|(refine GL.cons ?_ ?_;focus (first|exact aL rfl|exact aR rfl|exact bM rfl rfl rfl|exact aU rfl|exact bN rfl|exact bf rfl)))));all_goals (first|assumption|omega|(simp;done)|(simp;omega)))|(apply eS;(case hp=>exact ⟨rfl,rfl,rfl⟩);(case ho=>exact ⟨_,rfl⟩);(case' hf=>apply gy ((l.drop fr).take (to + 1 - fr)));(case hg=>(repeat (first|exact GL.nil|(refine GL.cons ?_ ?_;focus (first|exact aL rfl|exact aR rfl|exact bM rfl rfl rfl|exact aU rfl|exact bN rfl|exact bf rfl)))));all_goals (first|assumption|omega|(simp;done)|(simp;omega))))))))
         · have hc':to < l.length ∧ (dh (jH l fr (to + 1)):Int) ≤ limit:=by unfold jH;grind
           refine ⟨to + 1,B5 hP hQ hc'.1 hc'.2,by omega,?_⟩
           show Le _ _ (aJ _ _)
           exact ab
         · have hc':to < l.length → ¬ (dh (jH l fr (to + 1)):Int) ≤ limit:=by unfold jH;grind
           obtain ⟨p1,p2⟩:=B6 hP hr hall' hQ hc'
           refine ⟨(to,out ++ [jH l fr to]),p1,?_,?_⟩
           · rcases p2 with p2|p2
             · simp only at p2 ⊢
               rw [if_neg (by simp)];split <;> omega
             · simp only at p2 ⊢
               rw [if_neg (by simp),if_pos p2];omega
           · show Le _ _ (aJ _ _)
             exact ab
     · have he:=Gl hP (by simp only;grind) (by simp only;have:=@List.length_eq_zero_iff _ out;grind)
       simp only at he
       refine oO ?_ ?_
       · exact JJ rfl rfl rfl he
       · exact az rfl rfl
end Go.Proofs.YtembiemaiacdfaaGreat
