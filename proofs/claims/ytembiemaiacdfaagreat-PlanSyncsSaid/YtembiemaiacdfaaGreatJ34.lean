/- Texts joined: Batch Split InW Ref34 RefSplit. -/
import Derived.Test.YtembiemaiacdfaaGreatJ09
import Derived.Test.YtembiemaiacdfaaGreatJ05
import Derived.Test.YtembiemaiacdfaaGreatJ25
import Derived.Test.YtembiemaiacdfaaGreatJ23
import Derived.Test.YtembiemaiacdfaaGreatJ10
import Derived.Test.YtembiemaiacdfaaGreatJ22
set_option maxRecDepth 10000
set_option maxHeartbeats 8000000
namespace Go.Proofs.YtembiemaiacdfaaGreat
open Go.RowKit
structure Spl where
 D:List (List It)
 c:Option (List It)
 left:Int
def xn (x:It):Int:=(KD x).length
def nz (limit:Int) (s:Spl) (x:It):Spl:=match s.c with
 | none=>⟨s.D,some [x],limit - xn x⟩
 | some c=>if xn x > s.left then ⟨s.D ++ [c],some [x],limit - xn x⟩ else ⟨s.D,some (c ++ [x]),s.left - xn x⟩
def lm (limit:Int) (l:List It):Spl:=l.foldl (nz limit) ⟨[],none,-1⟩
def A6 (limit:Int) (x:It):Prop:=itR x = true ∧ xn x ≤ limit
def ro (limit:Int) (l:List It) (k:Nat) (s:Spl):St:=match s.c with
 | none=>aN [(0,iC .i64 limit),(6,.row 600 0),(7,iC .i64 s.left),(12,di l),(13,iC .i64 (l.length:Nat)),(14,iC .i64 (k:Nat))] [(600,.row 23 1 [])]
 | some c=>aN [(0,iC .i64 limit),(6,.row 600 0),(7,iC .i64 s.left),(12,di l),(13,iC .i64 (l.length:Nat)),(14,iC .i64 (k:Nat))] [(600,.mix 23 (s.D.map cG) (.row 601 0)),(601,.row 61 7 (c.map itP))]
theorem C1 (limit:Int) (l:List It) (k:Nat) (h:k < l.length):lm limit (l.take (k + 1)) = nz limit (lm limit (l.take k)) l[k]:=by
 unfold lm;rw [aJ l k h,List.foldl_append];rfl
theorem G2 {limit left:Int} {D:List (List It)} {c:List It} {x:It} (h:((KD x).length:Int) > left):nz limit ⟨D,some c,left⟩ x = ⟨D ++ [c],some [x],limit - xn x⟩:=by simp [nz,xn,h]
theorem JG {limit left:Int} {D:List (List It)} {c:List It} {x:It} (h:¬ ((KD x).length:Int) > left):nz limit ⟨D,some c,left⟩ x = ⟨D,some (c ++ [x]),left - xn x⟩:=by simp [nz,xn,h]
structure Lc (limit:Int) (k:Nat) (s:Spl):Prop where
 left1:-1 ≤ s.left
 left2:s.left ≤ 9223372036854775807
 none1:s.c = none → s.left = -1 ∧ s.D = []
 len:s.D.length + (s.c.map List.length).getD 0 ≤ k
 ne:∀ c,s.c = some c → 1 ≤ c.length
theorem Ld (limit:Int) (l:List It) (h1:limit ≤ 9223372036854775807) (hall:∀ x ∈ l,A6 limit x):Lc limit l.length (lm limit l):=by
 have key:∀ (m:List It) (s:Spl) (k:Nat),(∀ x ∈ m,A6 limit x) → Lc limit k s → Lc limit (k + m.length) (m.foldl (nz limit) s):=by
   intro m
   induction m with
   | nil=>intro s k _ h;exact h
   | cons x m ih=>
     intro s k hm h
     rw [List.foldl_cons,List.length_cons,show k + (m.length + 1) = (k + 1) + m.length by omega]
     refine ih _ _ (fun y hy=>hm y (by simp [hy])) ?_
     obtain ⟨hx1,hx2⟩:=hm x (by simp)
     have hn:0 ≤ xn x:=Int.natCast_nonneg _
     obtain ⟨q1,q2,q3,q4,q5⟩:=h
     unfold nz
     split
     · rename_i hc
       have:=q3 hc
       exact ⟨by simp only;omega,by simp only;omega,by simp,by rw [hc] at q4;simp at q4 ⊢;omega,by simp⟩
     · rename_i c hc
       rw [hc] at q4
       simp at q4
       have:=q5 c hc
       split
       · exact ⟨by simp only;omega,by simp only;omega,by simp,by simp;omega,by simp⟩
       · exact ⟨by simp only;omega,by simp only;omega,by simp,by simp;omega,by simp⟩
 have:=key l ⟨[],none,-1⟩ 0 hall ⟨by simp,by simp,fun _=>⟨rfl,rfl⟩,by simp,by simp⟩
 simpa [lm] using this
theorem rp {P:Program} {n:Nat} {fn:Func} {S S':St} {r:Ret} (h:Le n S S') (k:kH P n fn S' r):kH P n fn S r:=fun C a w hL hR=>k C a w hL (h C a w hR)
def iJ (limit:Int):List It → Int
 | []=>0
 | x :: r=>if itR x = false then 2 else if xn x > limit then 12 else iJ limit r
def o7 (limit:Int) (l:List It):List (List It):=
 if iJ limit l = 0 then (match (lm limit l).c with|none=>[[]]|some c=>(lm limit l).D ++ [c]) else []
theorem A7 (limit:Int) (l:List It):∃ m,m ≤ l.length ∧ (∀ x ∈ l.take m,A6 limit x) ∧ (∀ h:m < l.length,(itR l[m] = false ∧ iJ limit l = 2) ∨ (itR l[m] = true ∧ xn l[m] > limit ∧ iJ limit l = 12)) ∧ (m = l.length → iJ limit l = 0):=by
 induction l with
 | nil=>exact ⟨0,Nat.le_refl _,by simp,fun h=>by simp at h,fun _=>rfl⟩
 | cons x r ih=>
   by_cases h1:itR x = false
   · exact ⟨0,by simp,by simp,fun h=>.inl ⟨h1,by simp [iJ,h1]⟩,fun h=>by simp at h⟩
   by_cases h2:xn x > limit
   · exact ⟨0,by simp,by simp,fun h=>.inr ⟨by simpa using h1,h2,by simp [iJ,h1,h2]⟩,fun h=>by simp at h⟩
   obtain ⟨m,q1,q2,q3,q4⟩:=ih
   have hb:iJ limit (x :: r) = iJ limit r:=by simp [iJ,h1,h2]
   rw [hb]
   refine ⟨m + 1,by simp;omega,fun y hy=>?_,fun h=>q3 (by simpa using h),fun h=>q4 (by simpa using h)⟩
   rw [List.take_succ_cons,List.mem_cons] at hy
   obtain rfl|hy:=hy
   · exact ⟨by simpa using h1,by omega⟩
   · exact q2 y hy
theorem xq (limit:Int) (l:List It) (hl:l.length ≤ 1000000000) (h1:-9223372036854775808 ≤ limit) (h2:limit ≤ 9223372036854775807) :
   Fn Tryz.prog 89 [iC .i64 limit,di l] (.tup2 (.per (ct 1 ((o7 limit l).map fun b=>[cG b]))) (.per (aq (.int .i64 (iJ limit l))))):=by
 obtain ⟨m,hm,hall,hbad,hok⟩:=A7 limit l
 unfold o7
 refine fi Tryz.func89 Tryz.ntmps89 ?_
 (refine wH ?_;(repeat' first|refine W2.mk ?_ ?_|refine W1.mk fun hc=>?_))
 refine ck (bz 6 600 23 1 rfl rfl) ?_
 refine D4 m (fun k=>ro limit l k (lm limit (l.take k))) ?_ ?_
 · show Le _ _ (aN _ _)
   exact ab
 · intro k hk
   have hI:=Ld limit (l.take k) h2 (fun x hx=>hall x (List.mem_of_mem_take (by rw [List.take_take,Nat.min_eq_left hk];exact hx)))
   rw [List.length_take,Nat.min_eq_left (Nat.le_trans hk hm)] at hI
   by_cases hkm:k < m
   · have hlt:k < l.length:=by omega
     have hsn:=C1 limit l k hlt
     obtain ⟨hx1,hx2⟩:=hall l[k] (by rw [List.mem_take_iff_getElem];exact ⟨k,by omega,rfl⟩)
     rw [hsn]
     generalize lm limit (l.take k) = s at *
     obtain ⟨D,c,left⟩:=s
     obtain ⟨i1,i2,i3,i4,i5⟩:=hI
     unfold xn at *
     simp only at i1 i2
     cases c with
     | none=>
       obtain ⟨e1,e2⟩:=i3 rfl
       simp only at e1 e2
       subst e1;subst e2
       unfold ro
       simp only
       (repeat' (first|refine cN ?_|refine bD ?_|refine cc ?_|refine cd ?_|refine cO ?_|refine bi ?_|refine cL ?_|refine cM (by kernel_rfl) ?_|refine ce ?_|refine cg ?_|refine ci ?_|refine d8 ?_|refine d9 ?_|refine cj ?_|refine bF rfl ?_|(refine dv rfl rfl (fun hc=>?_) (fun hc=>?_) <;> (try rw [Bool.not_eq_true'] at hc) <;> (try rw [Bool.not_eq_false'] at hc) <;> (try first|rw [decide_eq_true_eq] at hc|rw [decide_eq_false_iff_not] at hc|rw [beq_iff_eq] at hc|rw [beq_eq_false_iff_ne] at hc|rw [bne_iff_ne] at hc|rw [bne_eq_false_iff_eq] at hc) <;> (repeat rw [List.length_map] at hc) <;> (try first|contradiction|(exfalso;omega)|(exfalso;simp [*] at hc;done)))|((first|apply aD rfl|apply aF rfl|apply aG rfl|apply aH rfl);focus (first|exact nY|(apply az 20;(focus rfl);apply dW;(case hp=>exact ⟨rfl,rfl,rfl⟩);(case ho=>exact ⟨_,rfl⟩);(case' hf=>apply ev);(case hpl=>rfl);(case hg=>(repeat (first|exact GL.nil|(refine GL.cons ?_ ?_;focus (first|exact aU rfl|exact bc rfl|exact bX rfl rfl rfl|exact bd rfl|exact bZ rfl|exact bt rfl)))));all_goals (first|assumption|omega|(simp;done)|(simp;omega)))|(apply az 20;(focus rfl);apply dW;(case hp=>exact ⟨rfl,rfl,rfl⟩);(case ho=>exact ⟨_,rfl⟩);(case' hf=>apply d0);(case hpl=>rfl);(case hg=>(repeat (first|exact GL.nil|(refine GL.cons ?_ ?_;focus (first|exact aU rfl|exact bc rfl|exact bX rfl rfl rfl|exact bd rfl|exact bZ rfl|exact bt rfl)))));all_goals (first|assumption|omega|(simp;done)|(simp;omega)))))))
       refine ck (zj 600 1 601 23 61 7 (D:=[]) rfl rfl rfl) ?_
       (have kc1:=ev l[k];refine wH ?_;(repeat' (first|refine W2.mk ?_ ?_|refine W1.mk fun hc=>?_|((first|apply aD rfl|apply aF rfl|apply aG rfl|apply aH rfl);(focus (first|(exact ii ⟨rfl,rfl,rfl⟩ rfl inferInstance inferInstance rfl rfl rfl rfl (i:=0) (by rfl) (by first|omega|(simp;done)|(simp;omega)|(simp [av];done)|(simp [av];omega)))|(exact jL ⟨rfl,rfl,rfl⟩ rfl inferInstance rfl rfl rfl rfl)|(exact ij ⟨rfl,rfl⟩ rfl inferInstance rfl rfl rfl rfl rfl rfl rfl)|(apply bx;(focus rfl);apply ag rfl rfl rfl rfl rfl;first|(exact ii ⟨rfl,rfl,rfl⟩ rfl inferInstance inferInstance rfl rfl rfl rfl (i:=0) (by rfl) (by first|omega|(simp;done)|(simp;omega)|(simp [av];done)|(simp [av];omega)))|(exact jL ⟨rfl,rfl,rfl⟩ rfl inferInstance rfl rfl rfl rfl)|(exact ij ⟨rfl,rfl⟩ rfl inferInstance rfl rfl rfl rfl rfl rfl rfl))));refine wH ?_)));all_goals clear kc1)
       refine ⟨hkm,?_⟩
       show Le _ _ (aN _ _)
       exact ab
     | some c=>
       have i6:=i5 c rfl
       simp at i4
       unfold ro
       simp only
       (repeat' (first|refine cN ?_|refine bD ?_|refine cc ?_|refine cd ?_|refine cO ?_|refine bi ?_|refine cL ?_|refine cM (by kernel_rfl) ?_|refine ce ?_|refine cg ?_|refine ci ?_|refine d8 ?_|refine d9 ?_|refine cj ?_|refine bF rfl ?_|(refine dv rfl rfl (fun hc=>?_) (fun hc=>?_) <;> (try rw [Bool.not_eq_true'] at hc) <;> (try rw [Bool.not_eq_false'] at hc) <;> (try first|rw [decide_eq_true_eq] at hc|rw [decide_eq_false_iff_not] at hc|rw [beq_iff_eq] at hc|rw [beq_eq_false_iff_ne] at hc|rw [bne_iff_ne] at hc|rw [bne_eq_false_iff_eq] at hc) <;> (repeat rw [List.length_map] at hc) <;> (try first|contradiction|(exfalso;omega)|(exfalso;simp [*] at hc;done)))|((first|apply aD rfl|apply aF rfl|apply aG rfl|apply aH rfl);focus (first|exact nY|(apply az 20;(focus rfl);apply dW;(case hp=>exact ⟨rfl,rfl,rfl⟩);(case ho=>exact ⟨_,rfl⟩);(case' hf=>apply ev);(case hpl=>rfl);(case hg=>(repeat (first|exact GL.nil|(refine GL.cons ?_ ?_;focus (first|exact aU rfl|exact bc rfl|exact bX rfl rfl rfl|exact bd rfl|exact bZ rfl|exact bt rfl)))));all_goals (first|assumption|omega|(simp;done)|(simp;omega)))|(apply az 20;(focus rfl);apply dW;(case hp=>exact ⟨rfl,rfl,rfl⟩);(case ho=>exact ⟨_,rfl⟩);(case' hf=>apply d0);(case hpl=>rfl);(case hg=>(repeat (first|exact GL.nil|(refine GL.cons ?_ ?_;focus (first|exact aU rfl|exact bc rfl|exact bX rfl rfl rfl|exact bd rfl|exact bZ rfl|exact bt rfl)))));all_goals (first|assumption|omega|(simp;done)|(simp;omega)))|(exact nn ⟨rfl,rfl,rfl⟩ rfl inferInstance rfl rfl rfl)))))
       · refine js (qM 600 0 601 23 rfl rfl rfl rfl) ?_
         (repeat' (first|refine cN ?_|refine bD ?_|refine cc ?_|refine cd ?_|refine cO ?_|refine bi ?_|refine cL ?_|refine cM (by kernel_rfl) ?_|refine ce ?_|refine cg ?_|refine ci ?_|refine d8 ?_|refine d9 ?_|refine cj ?_|refine bF rfl ?_|(refine dv rfl rfl (fun hc=>?_) (fun hc=>?_) <;> (try rw [Bool.not_eq_true'] at hc) <;> (try rw [Bool.not_eq_false'] at hc) <;> (try first|rw [decide_eq_true_eq] at hc|rw [decide_eq_false_iff_not] at hc|rw [beq_iff_eq] at hc|rw [beq_eq_false_iff_ne] at hc|rw [bne_iff_ne] at hc|rw [bne_eq_false_iff_eq] at hc) <;> (repeat rw [List.length_map] at hc) <;> (try first|contradiction|(exfalso;omega)|(exfalso;simp [*] at hc;done)))|((first|apply aD rfl|apply aF rfl|apply aG rfl|apply aH rfl);focus (first|exact nY|(apply az 20;(focus rfl);apply dW;(case hp=>exact ⟨rfl,rfl,rfl⟩);(case ho=>exact ⟨_,rfl⟩);(case' hf=>apply ev);(case hpl=>rfl);(case hg=>(repeat (first|exact GL.nil|(refine GL.cons ?_ ?_;focus (first|exact aU rfl|exact bc rfl|exact bX rfl rfl rfl|exact bd rfl|exact bZ rfl|exact bt rfl)))));all_goals (first|assumption|omega|(simp;done)|(simp;omega)))|(apply az 20;(focus rfl);apply dW;(case hp=>exact ⟨rfl,rfl,rfl⟩);(case ho=>exact ⟨_,rfl⟩);(case' hf=>apply d0);(case hpl=>rfl);(case hg=>(repeat (first|exact GL.nil|(refine GL.cons ?_ ?_;focus (first|exact aU rfl|exact bc rfl|exact bX rfl rfl rfl|exact bd rfl|exact bZ rfl|exact bt rfl)))));all_goals (first|assumption|omega|(simp;done)|(simp;omega)))))))
         refine ck (zj 600 1 601 23 61 7 (D:=D.map cG ++ [cG c]) rfl (by rw [List.map_append];rfl) rfl) ?_
         (have kc1:=ev l[k];refine wH ?_;(repeat' (first|refine W2.mk ?_ ?_|refine W1.mk fun hc=>?_|((first|apply aD rfl|apply aF rfl|apply aG rfl|apply aH rfl);(focus (first|(exact ii ⟨rfl,rfl,rfl⟩ rfl inferInstance inferInstance rfl rfl rfl rfl (i:=D.length + 1) (by first|omega|(simp;done)|(simp;omega)|(simp [av];done)|(simp [av];omega)) (by first|omega|(simp;done)|(simp;omega)|(simp [av];done)|(simp [av];omega)))|(exact jL ⟨rfl,rfl,rfl⟩ rfl inferInstance rfl rfl rfl (by first|omega|(simp;done)|(simp;omega)|(simp [av];done)|(simp [av];omega)))|(exact ij ⟨rfl,rfl⟩ rfl inferInstance rfl rfl rfl (by first|omega|(simp;done)|(simp;omega)|(simp [av];done)|(simp [av];omega)) rfl rfl rfl)|(apply bx;(focus rfl);apply ag rfl rfl rfl rfl rfl;first|(exact ii ⟨rfl,rfl,rfl⟩ rfl inferInstance inferInstance rfl rfl rfl rfl (i:=D.length + 1) (by first|omega|(simp;done)|(simp;omega)|(simp [av];done)|(simp [av];omega)) (by first|omega|(simp;done)|(simp;omega)|(simp [av];done)|(simp [av];omega)))|(exact jL ⟨rfl,rfl,rfl⟩ rfl inferInstance rfl rfl rfl (by first|omega|(simp;done)|(simp;omega)|(simp [av];done)|(simp [av];omega)))|(exact ij ⟨rfl,rfl⟩ rfl inferInstance rfl rfl rfl (by first|omega|(simp;done)|(simp;omega)|(simp [av];done)|(simp [av];omega)) rfl rfl rfl))));refine wH ?_)));all_goals clear kc1)
         refine ⟨hkm,?_⟩
         have hsp:nz limit ⟨D,some c,left⟩ l[k] = ⟨D ++ [c],some [l[k]],limit - xn l[k]⟩:=G2 (by assumption)
         rw [hsp]
         show Le _ _ (aN _ _)
         exact ab
       · (have kc1:=ev l[k];refine wH ?_;(repeat' (first|refine W2.mk ?_ ?_|refine W1.mk fun hc=>?_|((first|apply aD rfl|apply aF rfl|apply aG rfl|apply aH rfl);(focus (first|(exact nn ⟨rfl,rfl,rfl⟩ rfl inferInstance rfl rfl rfl)|(exact ii ⟨rfl,rfl,rfl⟩ rfl inferInstance inferInstance rfl rfl rfl rfl (i:=D.length) (by first|omega|(simp;done)|(simp;omega)|(simp [av];done)|(simp [av];omega)) (by first|omega|(simp;done)|(simp;omega)|(simp [av];done)|(simp [av];omega)))|(exact jL ⟨rfl,rfl,rfl⟩ rfl inferInstance rfl rfl rfl (by first|omega|(simp;done)|(simp;omega)|(simp [av];done)|(simp [av];omega)))|(exact ij ⟨rfl,rfl⟩ rfl inferInstance rfl rfl rfl (by first|omega|(simp;done)|(simp;omega)|(simp [av];done)|(simp [av];omega)) rfl rfl rfl)|(apply bx;(focus rfl);apply ag rfl rfl rfl rfl rfl;first|(exact nn ⟨rfl,rfl,rfl⟩ rfl inferInstance rfl rfl rfl)|(exact ii ⟨rfl,rfl,rfl⟩ rfl inferInstance inferInstance rfl rfl rfl rfl (i:=D.length) (by first|omega|(simp;done)|(simp;omega)|(simp [av];done)|(simp [av];omega)) (by first|omega|(simp;done)|(simp;omega)|(simp [av];done)|(simp [av];omega)))|(exact jL ⟨rfl,rfl,rfl⟩ rfl inferInstance rfl rfl rfl (by first|omega|(simp;done)|(simp;omega)|(simp [av];done)|(simp [av];omega)))|(exact ij ⟨rfl,rfl⟩ rfl inferInstance rfl rfl rfl (by first|omega|(simp;done)|(simp;omega)|(simp [av];done)|(simp [av];omega)) rfl rfl rfl))));refine wH ?_)));all_goals clear kc1)
         refine ⟨hkm,?_⟩
         have hsp:nz limit ⟨D,some c,left⟩ l[k] = ⟨D,some (c ++ [l[k]]),left - xn l[k]⟩:=JG (by assumption)
         rw [hsp]
         show Le _ _ (aN _ _)
         exact ab
   have hkm:k = m:=by omega
   subst hkm
   by_cases hlt:k < l.length
   · have hb:=hbad hlt
     clear hbad hok hall
     generalize lm limit (l.take k) = s at *
     obtain ⟨D,c,left⟩:=s
     obtain ⟨i1,i2,i3,i4,i5⟩:=hI
     unfold xn at *
     rcases hb with ⟨hb1,hb2⟩|⟨hb1,hb2,hb3⟩
     all_goals
       have hb0:iJ limit l ≠ 0:=by omega
       rw [if_neg hb0]
       cases c with
       | none=>
         unfold ro
         simp only
         (have kc1:=ev l[k];have kc2:=d0 l[k];refine wH ?_;(repeat' first|refine W2.mk ?_ ?_|refine W1.mk fun hc=>?_);all_goals clear kc2 kc1)
         refine j8 ?_ ?_
         · exact z7 rfl
         · exact aA rfl (by omega)
       | some c=>
         unfold ro
         simp only
         (have kc1:=ev l[k];have kc2:=d0 l[k];refine wH ?_;(repeat' first|refine W2.mk ?_ ?_|refine W1.mk fun hc=>?_);all_goals clear kc2 kc1)
         refine j8 ?_ ?_
         · exact z7 rfl
         · exact aA rfl (by omega)
   · have e:l.take k = l:=List.take_of_length_le (by omega)
     have hb0:=hok (by omega)
     rw [hb0,if_pos rfl]
     have hkl:k = l.length:=by omega
     rw [e] at hI ⊢
     clear e
     subst hkl
     clear hbad hok hall hb0
     generalize lm limit l = s at *
     obtain ⟨D,c,left⟩:=s
     obtain ⟨i1,i2,i3,i4,i5⟩:=hI
     cases c with
     | none=>
       obtain ⟨e1,e2⟩:=i3 rfl
       simp only at e1 e2
       subst e1;subst e2
       unfold ro
       simp only
       (refine wH ?_;(repeat' first|refine W2.mk ?_ ?_|refine W1.mk fun hc=>?_))
       refine ⟨.inl rfl,rp (zj 600 1 699 23 61 7 (D:=[]) rfl rfl rfl) (rp (qM 600 1 699 23 rfl rfl rfl rfl) ?_)⟩
       exact ve rfl (DU rfl rfl rfl) (aA rfl rfl)
     | some c=>
       simp at i4
       unfold ro
       simp only
       (refine wH ?_;(repeat' (first|refine W2.mk ?_ ?_|refine W1.mk fun hc=>?_|((first|apply aD rfl|apply aF rfl|apply aG rfl|apply aH rfl);(focus (first|(exact nn ⟨rfl,rfl,rfl⟩ rfl inferInstance rfl rfl rfl)|(apply bx;(focus rfl);apply ag rfl rfl rfl rfl rfl;first|(exact nn ⟨rfl,rfl,rfl⟩ rfl inferInstance rfl rfl rfl))));refine wH ?_))))
       refine ⟨.inl rfl,rp (qM 600 0 601 23 rfl rfl rfl rfl) ?_⟩
       exact ve rfl (DU rfl rfl (tD (by simp [List.map_map,Function.comp_def]))) (aA rfl rfl)
section
def Kd (r:List Rg) (l:List It):List It:=l.filter fun x=>bg r x.key
theorem A8 (l:List It) (r:List Rg) (hk:jG l) (hl:l.length ≤ 1000000000) (hr:r.length ≤ 12):Fn Tryz.prog 53 [di l,dg r] (wC (Kd r l)):=by
 have h1:=(zc r (by have:=List.length_filter_le eJ r;omega) (by omega)).frz
 have h2:∀ s:ByteArray,s.size ≤ 1000000000 → Fn Tryz.prog 80 [.per (eB (oi r)),sC s] (bO (bg r s)):=fun s hs=>by
   have:=AR (oi r) s (by have:=qr r;omega) hs
   rwa [(oj r).2] at this
 generalize oi r = R at *
 unfold Kd
 generalize hT:l.filter (fun x=>bg r x.key) = T
 refine fi Tryz.func53 Tryz.ntmps53 ?_
 (have kc1:=h1;refine w0 ?_;(repeat' first|refine W2.mk ?_ ?_|refine W1.mk fun hc=>?_);all_goals clear kc1)
 refine ck (bz 5 600 61 7 rfl rfl) ?_
 refine ah (X:=Nat × List It) (fun x=>x.1 ≤ l.length ∧ x.2.length ≤ x.1 ∧ x.2 ++ (l.drop x.1).filter (fun x=>bg r x.key) = T)
   (fun x=>aN [(1,.per (eB R)),(5,.row 600 0),(10,di l),(11,iC .i64 (l.length:Nat)),(12,iC .i64 (x.1:Nat))] [(600,dR x.2)]) (fun x=>l.length - x.1) (0,[]) ⟨Nat.zero_le _,Nat.le_refl _,by simpa using hT⟩ ?_ ?_
 · exact ab
 · rintro ⟨k,ac⟩ ⟨g1,g0,g2⟩
   simp only at g1 g0 g2 ⊢
   by_cases hlt:k < l.length
   · have h3:=h2 l[k].key (hk _ (List.getElem_mem hlt))
     rw [List.drop_eq_getElem_cons hlt,List.filter_cons] at g2
     clear h2 hT
     cases hr:bg r l[k].key with
     | false=>
       rw [hr] at h3 g2
       (have kc1:=h3;refine w0 ?_;(repeat' first|refine W2.mk ?_ ?_|refine W1.mk fun hc=>?_);all_goals clear kc1)
       refine ⟨(k + 1,ac),⟨by simp only;omega,by simp only;omega,by simpa using g2⟩,by simp only;omega,?_⟩
       exact ab
     | true=>
       rw [hr] at h3 g2
       (have kc1:=h3;refine w0 ?_;(repeat' first|refine W2.mk ?_ ?_|refine W1.mk fun hc=>?_);all_goals clear kc1)
       refine ⟨(k + 1,ac ++ [l[k]]),⟨by simp only;omega,by simp;omega,by simpa using g2⟩,by simp only;omega,ak (aM 600 601) (ak (aM 601 600) ?_)⟩
       exact ab
   · have hkl:k = l.length:=by omega
     subst hkl
     rw [List.drop_length] at g2
     simp at g2
     subst g2
     clear h2 hT
     (refine w0 ?_;(repeat' first|refine W2.mk ?_ ?_|refine W1.mk fun hc=>?_))
     refine aQ ?_
     exact dq rfl rfl rfl rfl
theorem Lf (l:List It) (r:List Rg) (hk:jG l) (hl:l.length ≤ 1000000000) (hr:r.length ≤ 1000000000):Fn Tryz.prog 76 [di l,dg r] (wC (Kd r l)):=by
 have h2:∀ s:ByteArray,s.size ≤ 1000000000 → Fn Tryz.prog 43 [dg r,sC s] (bO (bg r s)):=fun s hs=>k4 r s hr hs
 unfold Kd
 generalize hT:l.filter (fun x=>bg r x.key) = T
 refine fi Tryz.func76 Tryz.ntmps76 ?_
 (refine w0 ?_;(repeat' first|refine W2.mk ?_ ?_|refine W1.mk fun hc=>?_))
 refine ck (bz 5 600 61 7 rfl rfl) ?_
 refine ah (X:=Nat × List It) (fun x=>x.1 ≤ l.length ∧ x.2.length ≤ x.1 ∧ x.2 ++ (l.drop x.1).filter (fun x=>bg r x.key) = T)
   (fun x=>aN [(0,di l),(1,dg r),(5,.row 600 0),(6,iC .i64 (x.1:Nat))] [(600,dR x.2)]) (fun x=>l.length - x.1) (0,[]) ⟨Nat.zero_le _,Nat.le_refl _,by simpa using hT⟩ ?_ ?_
 · exact ab
 · rintro ⟨k,ac⟩ ⟨g1,g0,g2⟩
   simp only at g1 g0 g2 ⊢
   by_cases hlt:k < l.length
   · have h3:=h2 l[k].key (hk _ (List.getElem_mem hlt))
     rw [List.drop_eq_getElem_cons hlt,List.filter_cons] at g2
     clear h2 hT
     cases hr:bg r l[k].key with
     | false=>
       rw [hr] at h3 g2
       (have kc1:=h3;refine w0 ?_;(repeat' first|refine W2.mk ?_ ?_|refine W1.mk fun hc=>?_);all_goals clear kc1)
       refine ⟨(k + 1,ac),⟨by simp only;omega,by simp only;omega,by simpa using g2⟩,by simp only;omega,?_⟩
       exact ab
     | true=>
       rw [hr] at h3 g2
       (have kc1:=h3;refine w0 ?_;(repeat' first|refine W2.mk ?_ ?_|refine W1.mk fun hc=>?_);all_goals clear kc1)
       refine ⟨(k + 1,ac ++ [l[k]]),⟨by simp only;omega,by simp;omega,by simpa using g2⟩,by simp only;omega,ak (aM 600 601) (ak (aM 601 600) ?_)⟩
       exact ab
   · have hkl:k = l.length:=by omega
     subst hkl
     rw [List.drop_length] at g2
     simp at g2
     subst g2
     clear h2 hT
     (refine w0 ?_;(repeat' first|refine W2.mk ?_ ?_|refine W1.mk fun hc=>?_))
     refine aQ ?_
     exact dq rfl rfl rfl rfl
end
def nA (s:Spl):List (List It):=match s.c with
 | none=>[[]]
 | some c=>s.D ++ [c]
end Go.Proofs.YtembiemaiacdfaaGreat
