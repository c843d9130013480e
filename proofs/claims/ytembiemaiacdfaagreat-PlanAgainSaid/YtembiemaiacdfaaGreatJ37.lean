/- Texts joined: Concat PlD StN. -/
import Derived.Test.YtembiemaiacdfaaGreatJ36
import Derived.Lib.AppendZerosOnto
import Derived.RowKit
import Derived.Test.YtembiemaiacdfaaGreatJ05
import Derived.Test.YtembiemaiacdfaaGreatJ31
import Derived.Test.YtembiemaiacdfaaGreatJ34
import Derived.Test.YtembiemaiacdfaaGreatJ35
import Derived.Test.YtembiemaiacdfaaGreatJ29
import Derived.Test.YtembiemaiacdfaaGreatJ27
set_option maxRecDepth 10000
set_option maxHeartbeats 8000000
namespace Go.Proofs.YtembiemaiacdfaaGreat
open Go.RowKit
abbrev askCs (F:List Rg) (K:List Pc) (lim:Int) (R:List Rg) (th:PV):List PV:=[rgsP F,pcsP K,rawP (.int .i64 lim),rgsP R,th]
abbrev askC (F:List Rg) (K:List Pc) (lim:Int) (R:List Rg) (th:PV):Cnt:=.per (aggP (askCs F K lim R th))
def mayB (r f k:Bool):Int:=if r = false then 41 else if (f && k) = false then 2 else 0
abbrev planP (B:List (List It)) (K:List Pc):PV:=aggP [lstP 1 (B.map fun c=>[itsP c]),pcsP K]
section
theorem pl_may (s:Sta) (F:List Rg) (K:List Pc) (lim:Int) (R:List Rg) (th:PV) (r f k:Bool) (a1:Fn Tryz.prog 64 [stC s] (boR r)) (a2:Fn Tryz.prog 88 [rgsB F] (boR f)) (a3:Fn Tryz.prog 66 [pcsB K] (boR k)) :
   Fn Tryz.prog 47 [stC s,askC F K lim R th] (inR (mayB r f k)):=by
 cases r <;> cases f <;> cases k
 all_goals
   refine fi Tryz.func47 Tryz.ntmps47 ?_
   (have kc1:=a1;have kc2:=a2;have kc3:=a3;refine w0 ?_;(repeat' first|refine W2.mk ?_ ?_|refine W1.mk fun hc=>?_);all_goals clear kc3 kc2 kc1)
   refine rt1 ?_
   exact rv_int rfl rfl
theorem pl_unknown (s:Sta) (F:List Rg) (K:List Pc) (lim:Int) (R:List Rg) (th:PV) (IN:List It) (f:It → Bool) (hl:IN.length ≤ 1000000)
   (a1:Fn Tryz.prog 53 [itsB s.its,rgsB F] (.per (itsP IN))) (a2:∀ x ∈ IN,Fn Tryz.prog 54 [pcsB K,sC x.key,vrC x.rep x.cnt] (boR (f x))) :
   Fn Tryz.prog 49 [stC s,askC F K lim R th] (ownI (IN.filter fun x=>!f x)):=by
 generalize hT:(IN.filter fun x=>!f x) = T
 refine fi Tryz.func49 Tryz.ntmps49 ?_
 (have kc1:=a1;refine w0 ?_;(repeat' first|refine W2.mk ?_ ?_|refine W1.mk fun hc=>?_);all_goals clear kc1)
 clear a1
 refine AW_le (Le_nil 5 600 61 7 rfl rfl) ?_
 refine AW_loopP (X:=Nat × List It) (fun x=>x.1 ≤ IN.length ∧ x.2.length ≤ x.1 ∧ x.2 ++ (IN.drop x.1).filter (fun x=>!f x) = T)
   (fun x=>mkSt [(3,.ptr 3 0 0),(5,.row 600 0),(12,.per (itsP IN)),(13,iC .i64 (IN.length:Nat)),(14,iC .i64 (x.1:Nat))] [(3,.box 39 ((askCs F K lim R th).map Cnt.per)),(600,itsW x.2)]) (fun x=>IN.length - x.1) (0,[]) ⟨Nat.zero_le _,by simp,by simpa using hT⟩ ?_ ?_
 · exact le_auto
 · rintro ⟨i,ac⟩ ⟨h1,h2,h3⟩
   simp only at h1 h2 h3 ⊢
   by_cases hi:i < IN.length
   · have c2:=a2 _ (List.getElem_mem hi)
     rw [List.drop_eq_getElem_cons hi,List.filter_cons] at h3
     clear a2
     cases hf:f IN[i] with
     | true=>
       rw [hf] at h3 c2
       (have kc1:=c2;refine w0 ?_;(repeat' first|refine W2.mk ?_ ?_|refine W1.mk fun hc=>?_);all_goals clear kc1)
       refine ⟨(i + 1,ac),⟨by simp only;omega,by simp only;omega,by simpa using h3⟩,by simp only;omega,?_⟩
       exact le_auto
     | false=>
       rw [hf] at h3 c2
       (have kc1:=c2;refine w0 ?_;(repeat' first|refine W2.mk ?_ ?_|refine W1.mk fun hc=>?_);all_goals clear kc1)
       refine ⟨(i + 1,ac ++ [IN[i]]),⟨by simp only;omega,by simp;omega,by simpa using h3⟩,by simp only;omega,Le_trans (Le_mv 600 601) (Le_trans (Le_mv 601 600) ?_)⟩
       exact le_auto
   · have h3:ac = T:=by rw [← h3,List.drop_of_length_le (by omega)];simp
     clear a2
     (refine w0 ?_;(repeat' first|refine W2.mk ?_ ?_|refine W1.mk fun hc=>?_))
     refine rt1 ?_
     exact rv_ownM rfl rfl rfl (by rw [h3])
theorem pl_send (F:List Rg) (K:List Pc) (lim:Int) (R:List Rg) (th:PV) (U Q:List It) (B:List (List It)) (e:Int) (a1:Fn Tryz.prog 90 [rgsB R,.per th,itsB U] (.per (itsP Q))) (a2:Fn Tryz.prog 89 [iC .i64 lim,itsB Q] (.tup2 (.per (lstP 1 (B.map fun c=>[itsP c]))) (inR e))) :
   Fn Tryz.prog 48 [askC F K lim R th,.per (itsP U)] (.tup2 (.per (lstP 1 (B.map fun c=>[itsP c]))) (inR e)):=by
 refine fi Tryz.func48 Tryz.ntmps48 ?_
 (have kc1:=a1;have kc2:=a2;refine w0 ?_;(repeat' first|refine W2.mk ?_ ?_|refine W1.mk fun hc=>?_);all_goals clear kc2 kc1)
 refine rt2 ?_ ?_
 · exact rv_per rfl
 · exact rv_int rfl rfl
theorem pl_MakeE (s:Sta) (F:List Rg) (K:List Pc) (lim:Int) (R:List Rg) (th:PV) (e:Int) (he:e ≠ 0) (a1:Fn Tryz.prog 47 [stC s,askC F K lim R th] (inR e)) :
   Fn Tryz.prog 11 [stC s,askC F K lim R th] (.tup2 (.per (planP [] [])) (inR e)):=by
 refine fi Tryz.func11 Tryz.ntmps11 ?_
 (have kc1:=a1;refine w0 ?_;(repeat' first|refine W2.mk ?_ ?_|refine W1.mk fun hc=>?_);all_goals clear kc1)
 refine rt2 ?_ ?_
 · exact rv_wk (rv_cA inferInstance inferInstance rfl rfl rfl rfl rfl rfl) aI
 · exact rv_int rfl rfl
theorem pl_MakeG (s:Sta) (F:List Rg) (K:List Pc) (lim:Int) (R:List Rg) (th:PV) (U:List It) (B:List (List It)) (e:Int) (J:List Pc) (a1:Fn Tryz.prog 47 [stC s,askC F K lim R th] (inR 0)) (a2:Fn Tryz.prog 49 [stC s,askC F K lim R th] (.per (itsP U)))
   (a3:Fn Tryz.prog 48 [askC F K lim R th,.per (itsP U)] (.tup2 (.per (lstP 1 (B.map fun c=>[itsP c]))) (inR e))) (a4:e = 0 → Fn Tryz.prog 50 [pcsC s.know,.per (rgsP F)] (.per (pcsP J))) :
   Fn Tryz.prog 11 [stC s,askC F K lim R th] (.tup2 (.per (if e = 0 then planP B J else planP [] [])) (inR e)):=by
 by_cases he:e = 0
 · rw [if_pos he]
   subst he
   have a4:=a4 rfl
   refine fi Tryz.func11 Tryz.ntmps11 ?_
   (have kc1:=a1;have kc2:=a2;have kc3:=a3;have kc4:=a4;refine w0 ?_;(repeat' first|refine W2.mk ?_ ?_|refine W1.mk fun hc=>?_);all_goals clear kc4 kc3 kc2 kc1)
   refine rt2 ?_ ?_
   · exact rv_cA inferInstance inferInstance rfl rfl rfl rfl rfl rfl
   · exact rv_int rfl rfl
 · rw [if_neg he]
   clear a4
   refine fi Tryz.func11 Tryz.ntmps11 ?_
   (have kc1:=a1;have kc2:=a2;have kc3:=a3;refine w0 ?_;(repeat' first|refine W2.mk ?_ ?_|refine W1.mk fun hc=>?_);all_goals clear kc3 kc2 kc1)
   refine rt2 ?_ ?_
   · exact rv_wk (rv_cA inferInstance inferInstance rfl rfl rfl rfl rfl rfl) aI
   · exact rv_int rfl rfl
theorem ex_both (s t:Sta) (p q:Bool) (a1:Fn Tryz.prog 64 [stC s] (boR p)) (a2:Fn Tryz.prog 64 [stC t] (boR q)):Fn Tryz.prog 52 [stC s,stC t] (boR (p && q)):=by
 cases p <;> cases q
 all_goals
   refine fi Tryz.func52 Tryz.ntmps52 ?_
   (have kf1:=a1;have kf2:=a2;refine w0 ?_;(repeat' first|refine W2.mk ?_ ?_|refine W1.mk fun hc=>?_);all_goals clear kf2 kf1)
   refine rt1 ?_
   exact rv_bool rfl rfl
theorem ex_Unknown (s t:Sta) (IN:List It) (f:It → Bool) (hl:IN.length ≤ 1000000) (a0:Fn Tryz.prog 52 [stC s,stC t] (boR true))
   (a1:Fn Tryz.prog 53 [itsB s.its,rgsB t.flt] (.per (itsP IN))) (a2:∀ x ∈ IN,Fn Tryz.prog 54 [pcsB t.know,sC x.key,vrC x.rep x.cnt] (boR (f x))) :
   Fn Tryz.prog 13 [stC s,stC t] (ownI (IN.filter fun x=>!f x)):=by
 generalize hT:(IN.filter fun x=>!f x) = T
 refine fi Tryz.func13 Tryz.ntmps13 ?_
 (have kc1:=a0;have kc2:=a1;refine w0 ?_;(repeat' first|refine W2.mk ?_ ?_|refine W1.mk fun hc=>?_);all_goals clear kc2 kc1)
 clear a0 a1
 refine AW_le (Le_nil 5 600 61 7 rfl rfl) ?_
 refine AW_loopP (X:=Nat × List It) (fun x=>x.1 ≤ IN.length ∧ x.2.length ≤ x.1 ∧ x.2 ++ (IN.drop x.1).filter (fun x=>!f x) = T)
   (fun x=>mkSt [(3,.ptr 3 0 0),(5,.row 600 0),(16,.per (itsP IN)),(17,iC .i64 (IN.length:Nat)),(18,iC .i64 (x.1:Nat))] [(3,.box 26 ((stCs t).map Cnt.per)),(600,itsW x.2)]) (fun x=>IN.length - x.1) (0,[]) ⟨Nat.zero_le _,by simp,by simpa using hT⟩ ?_ ?_
 · exact le_auto
 · rintro ⟨i,ac⟩ ⟨h1,h2,h3⟩
   simp only at h1 h2 h3 ⊢
   by_cases hi:i < IN.length
   · have c2:=a2 _ (List.getElem_mem hi)
     rw [List.drop_eq_getElem_cons hi,List.filter_cons] at h3
     clear a2
     cases hf:f IN[i] with
     | true=>
       rw [hf] at h3 c2
       (have kc1:=c2;refine w0 ?_;(repeat' first|refine W2.mk ?_ ?_|refine W1.mk fun hc=>?_);all_goals clear kc1)
       refine ⟨(i + 1,ac),⟨by simp only;omega,by simp only;omega,by simpa using h3⟩,by simp only;omega,?_⟩
       exact le_auto
     | false=>
       rw [hf] at h3 c2
       (have kc1:=c2;refine w0 ?_;(repeat' first|refine W2.mk ?_ ?_|refine W1.mk fun hc=>?_);all_goals clear kc1)
       refine ⟨(i + 1,ac ++ [IN[i]]),⟨by simp only;omega,by simp;omega,by simpa using h3⟩,by simp only;omega,Le_trans (Le_mv 600 601) (Le_trans (Le_mv 601 600) ?_)⟩
       exact le_auto
   · have h3:ac = T:=by rw [← h3,List.drop_of_length_le (by omega)];simp
     clear a2
     (refine w0 ?_;(repeat' first|refine W2.mk ?_ ?_|refine W1.mk fun hc=>?_))
     refine rt1 ?_
     exact rv_ownM rfl rfl rfl (by rw [h3])
end
theorem pcsMid_set {k:List Pc} (h:pcsMid k):∀ p ∈ k,knsMid p.set:=fun p hp=>by
 have h1:=mem_flat_len2 Pc.set hp
 have h2:=flat_sub_len Kn.runs (a:=p.set) (b:=k.flatMap Pc.set) (by
   clear h1 h
   induction k with
   | nil=>cases hp
   | cons q k ih=>
     rw [List.flatMap_cons]
     rcases List.mem_cons.1 hp with rfl|h
     · exact List.sublist_append_left _ _
     · exact (ih h).trans (List.sublist_append_right _ _))
 have h3:=h.2
 exact ⟨by omega,by omega⟩
section
theorem rst_Most (k:List Pc) (id:Int) (hk:pcsMid k):Fn Tryz.prog 41 [pcsB k,iC .i64 id] (inR (mostK k id)):=by
 have hl0:=hk.1
 generalize hR:mostK k id = R
 unfold mostK at hR
 refine fi Tryz.func41 Tryz.ntmps41 ?_
 (refine w0 ?_;(repeat' first|refine W2.mk ?_ ?_|refine W1.mk fun hc=>?_))
 refine AW_loopP (X:=Nat × Int) (fun x=>x.1 ≤ k.length ∧ 0 ≤ x.2 ∧ (k.drop x.1).foldl (fun n p=>max n (mostS p.set id)) x.2 = R) (fun x=>mkSt [(0,pcsB k),(1,iC .i64 id),(5,iC .i64 x.2),(6,iC .i64 (x.1:Nat))] []) (fun x=>k.length - x.1) (0,0) ⟨Nat.zero_le _,Int.le_refl _,by simpa using hR⟩ ?_ ?_
 · exact le_auto
 · rintro ⟨i,n⟩ ⟨h1,h0,h2⟩
   simp only at h1 h0 h2 ⊢
   by_cases hi:i < k.length
   · rw [List.drop_eq_getElem_cons hi,List.foldl_cons] at h2
     have hm:=pcsMid_set hk _ (List.getElem_mem hi)
     have a1:=(rvs_Of k[i].set hm).frz
     have hv:=vsOf_ok k[i].set
     have hvl:=(vsOf_sz (X:=k[i].set) (M:=100000000) hm.2).1
     have hvs:=(vsOf_sz (X:=k[i].set) (M:=100000000) hm.2).2
     rw [← fold_vsOf k[i].set id n h0] at h2
     generalize vsOf ofR k[i].set = V at *
     clear hk hR hm
     (have kc1:=a1;refine w0 ?_;(repeat' first|refine W2.mk ?_ ?_|refine W1.mk fun hc=>?_);all_goals clear kc1)
     refine AW_loopP (X:=Nat × Int) (fun y=>y.1 ≤ V.length ∧ 0 ≤ y.2 ∧ (V.drop y.1).foldl (fold1 id) y.2 = V.foldl (fold1 id) n) (fun y=>mkSt [(0,pcsB k),(1,iC .i64 id),(5,iC .i64 y.2),(6,iC .i64 (i:Nat)),(7,.per (knsP V)),(8,iC .i64 (y.1:Nat))] []) (fun y=>V.length - y.1) (0,n) ⟨Nat.zero_le _,h0,by simp⟩ ?_ ?_
     · exact le_auto
     · rintro ⟨j,m⟩ ⟨g1,g0,g2⟩
       simp only at g1 g0 g2 ⊢
       by_cases hj:j < V.length
       · rw [List.drop_eq_getElem_cons hj,List.foldl_cons] at g2
         have hne:=(hv j hj hj).2.2.1
         unfold fold1 at g2
         by_cases hid:V[j].rep = id
         · rw [if_pos hid] at g2
           rcases snoc_c2 V[j].runs with e|⟨l',r,e⟩
           · exact absurd e hne
           · rw [e,lastTo_snoc] at g2
             have hlen:((V[j].runs.length:Nat):Int) - 1 = (l'.length:Nat):=by rw [e];simp
             have hlt:l'.length < V[j].runs.length:=by rw [e];simp
             have hget:V[j].runs[l'.length]'hlt = r:=by simp [e]
             have hto:(V[j].runs[l'.length]'hlt).to = r.to:=by rw [hget]
             rw [← hto] at g2
             have hRl:V[j].runs.length ≤ 2000000000:=by have:=mem_flat_len2 Kn.runs (List.getElem_mem hj);omega
             have hmx:=max_eq m (V[j].runs[l'.length]'hlt).to
             have g4:0 ≤ max m (V[j].runs[l'.length]'hlt).to:=by omega
             clear h2 hv hget hto e hne hvs
             generalize max m (V[j].runs[l'.length]'hlt).to = m' at *
             (repeat' (first|refine AW_seq ?_|refine AW_block ?_|refine AW_skip ?_|refine AW_exit ?_|refine AW_ret ?_|refine AW_region ?_|refine AW_draw mixed0 ?_|refine AL_nil ?_|refine AD_nil (by kernel_rfl) ?_|(refine AW_cl rfl rfl ⟨fun hc=>?_,fun hc=>?_⟩ <;> (repeat rw [List.length_map] at hc) <;> (try exact absd hc))|((first|apply AL_t rfl|apply AL_0 rfl|apply AD_t rfl|apply AD_0 rfl);focus (first|((apply u_k 8;(focus rfl);exact op_num ⟨rfl,rfl,rfl⟩ rfl rfl rfl rfl ((wrap_id64 (by omega) (by omega)).trans hlen)))|(apply u_g;(focus rfl);apply op_gyes rfl rfl rfl rfl rfl;((apply u_k 8;(focus rfl);exact op_num ⟨rfl,rfl,rfl⟩ rfl rfl rfl rfl ((wrap_id64 (by omega) (by omega)).trans hlen))))|((exact op_maxZ ⟨rfl,rfl,rfl⟩ rfl rfl rfl hmx))|(apply u_g;(focus rfl);apply op_gyes rfl rfl rfl rfl rfl;((exact op_maxZ ⟨rfl,rfl,rfl⟩ rfl rfl rfl hmx)))|exact z_auto|fail))|refine thenA_n ?_|refine thenA_r ?_|refine thenA_e ?_|refine inB_n ?_|refine inB_r ?_|refine inB_hit ?_|refine inB_miss rfl ?_|((first|refine AL_cl rfl rfl rfl ⟨fun hc=>?_,fun hc=>?_⟩|refine AD_cl rfl rfl rfl ⟨fun hc=>?_,fun hc=>?_⟩) <;> (fail_if_success (have q:(true = true):=hc)) <;> (fail_if_success (have q:(false = false):=hc)) <;> (repeat rw [List.length_map] at hc) <;> (try exact absd hc))|refine AW_cond_nil rfl rfl (fun hc=>?_) ?_))
             refine ⟨(j + 1,m'),⟨by simp only;omega,g4,g2⟩,by simp only;omega,?_⟩
             exact le_auto
         · rw [if_neg hid] at g2
           clear h2
           (refine w0 ?_;(repeat' first|refine W2.mk ?_ ?_|refine W1.mk fun hc=>?_))
           refine ⟨(j + 1,m),⟨by simp only;omega,g0,g2⟩,by simp only;omega,?_⟩
           exact le_auto
       · rw [List.drop_of_length_le (by omega)] at g2
         have g2:m = V.foldl (fold1 id) n:=g2
         rw [← g2] at h2
         clear g2
         (refine w0 ?_;(repeat' first|refine W2.mk ?_ ?_|refine W1.mk fun hc=>?_))
         refine ⟨(i + 1,m),⟨by simp only;omega,g0,h2⟩,by simp only;omega,?_⟩
         exact le_auto
   · rw [List.drop_of_length_le (by omega)] at h2
     have h2:n = R:=h2
     subst h2
     clear hk hR
     (refine w0 ?_;(repeat' first|refine W2.mk ?_ ?_|refine W1.mk fun hc=>?_))
     refine rt1 ?_
     exact rv_int rfl rfl
theorem rst_Apart (l:List It) (hl:l.length ≤ 1000000):Fn Tryz.prog 42 [itsB l] (boR (apartB l)):=by
 have hE:∀ x y:Vn,eqO Tryz.prog 10000 59 [.int .i64 x.1,.int .i64 x.2] [.int .i64 y.1,.int .i64 y.2] = some (decide (x = y)):=fun x y=>(eqO_ver x.1 x.2 y.1 y.2).trans (congrArg some (vn_eq x y))
 generalize hR:apartB l = R
 unfold apartB at hR
 refine fi Tryz.func42 Tryz.ntmps42 ?_
 (refine w0 ?_;(repeat' first|refine W2.mk ?_ ?_|refine W1.mk fun hc=>?_))
 refine AW_loopP (X:=Nat) (fun i=>i ≤ l.length ∧ ((l.take i).map verOf).Nodup) (fun i=>mkSt [(0,itsB l),(3,iC .i64 (i:Nat))] []) (fun i=>l.length - i) 0 ⟨Nat.zero_le _,by simp⟩ ?_ ?_
 · exact le_auto
 · rintro i ⟨h1,h2⟩
   by_cases hi:i < l.length
   · (refine w0 ?_;(repeat' first|refine W2.mk ?_ ?_|refine W1.mk fun hc=>?_))
     refine AW_loopP (X:=Nat) (fun j=>j ≤ i ∧ ∀ q (h:q < i),q < j → verOf l[i] ≠ verOf (l[q]'(by omega))) (fun j=>mkSt [(0,itsB l),(3,iC .i64 (i:Nat)),(4,iC .i64 (j:Nat))] []) (fun j=>i - j) 0 ⟨Nat.zero_le _,fun q _ h=>by omega⟩ ?_ ?_
     · exact le_auto
     · rintro j ⟨g1,g2⟩
       by_cases hj:j < i
       · have hjl:j < l.length:=by omega
         have hE1:=hE (verOf l[i]) (verOf l[j])
         by_cases hv:verOf l[i] = verOf l[j]
         · rw [decide_eq_true hv] at hE1
           have hf:R = false:=by
             rw [← hR]
             refine decide_eq_false fun hn=>?_
             rw [List.nodup_iff_pairwise_ne,List.pairwise_iff_getElem] at hn
             have:=hn j i (by simpa using hjl) (by simpa using hi) hj
             simp only [List.getElem_map] at this
             exact this hv.symm
           rw [hf]
           clear hE hR g2 h2
           (refine w0 ?_;(repeat' (first|refine W2.mk ?_ ?_|refine W1.mk fun hc=>?_|((first|apply AL_t rfl|apply AL_0 rfl|apply AD_t rfl|apply AD_0 rfl);(focus (first|((apply u_k 5;(focus rfl);first|exact u_load_bpT ⟨rfl,rfl,rfl⟩ rfl inferInstance inferInstance rfl rfl rfl rfl|exact u_load_rpT ⟨rfl,rfl,rfl⟩ rfl inferInstance inferInstance rfl rfl rfl rfl))|(exact op_eqA (us:=[.int .i64 l[i].rep,.int .i64 l[i].cnt]) (vs:=[.int .i64 l[j].rep,.int .i64 l[j].cnt]) ⟨rfl,rfl,rfl⟩ rfl rfl rfl (by first|exact .inl ⟨rfl,rfl⟩|exact .inr ⟨rfl,rfl⟩) verG rfl hE1)|(apply u_g;(focus rfl);apply op_gyes rfl rfl rfl rfl rfl;first|((apply u_k 5;(focus rfl);first|exact u_load_bpT ⟨rfl,rfl,rfl⟩ rfl inferInstance inferInstance rfl rfl rfl rfl|exact u_load_rpT ⟨rfl,rfl,rfl⟩ rfl inferInstance inferInstance rfl rfl rfl rfl))|(exact op_eqA (us:=[.int .i64 l[i].rep,.int .i64 l[i].cnt]) (vs:=[.int .i64 l[j].rep,.int .i64 l[j].cnt]) ⟨rfl,rfl,rfl⟩ rfl rfl rfl (by first|exact .inl ⟨rfl,rfl⟩|exact .inr ⟨rfl,rfl⟩) verG rfl hE1))));refine w0 ?_))))
           refine rt1 ?_
           exact rv_bool rfl rfl
         · rw [decide_eq_false hv] at hE1
           have g3:∀ q (h:q < i),q < j + 1 → verOf l[i] ≠ verOf (l[q]'(by omega)):=fun q h hq=>by
             rcases Nat.lt_or_ge q j with w|w
             · exact g2 q h w
             · obtain rfl:q = j:=by omega
               exact hv
           clear hE hR g2 h2
           (refine w0 ?_;(repeat' (first|refine W2.mk ?_ ?_|refine W1.mk fun hc=>?_|((first|apply AL_t rfl|apply AL_0 rfl|apply AD_t rfl|apply AD_0 rfl);(focus (first|((apply u_k 5;(focus rfl);first|exact u_load_bpT ⟨rfl,rfl,rfl⟩ rfl inferInstance inferInstance rfl rfl rfl rfl|exact u_load_rpT ⟨rfl,rfl,rfl⟩ rfl inferInstance inferInstance rfl rfl rfl rfl))|(exact op_eqA (us:=[.int .i64 l[i].rep,.int .i64 l[i].cnt]) (vs:=[.int .i64 l[j].rep,.int .i64 l[j].cnt]) ⟨rfl,rfl,rfl⟩ rfl rfl rfl (by first|exact .inl ⟨rfl,rfl⟩|exact .inr ⟨rfl,rfl⟩) verG rfl hE1)|(apply u_g;(focus rfl);apply op_gyes rfl rfl rfl rfl rfl;first|((apply u_k 5;(focus rfl);first|exact u_load_bpT ⟨rfl,rfl,rfl⟩ rfl inferInstance inferInstance rfl rfl rfl rfl|exact u_load_rpT ⟨rfl,rfl,rfl⟩ rfl inferInstance inferInstance rfl rfl rfl rfl))|(exact op_eqA (us:=[.int .i64 l[i].rep,.int .i64 l[i].cnt]) (vs:=[.int .i64 l[j].rep,.int .i64 l[j].cnt]) ⟨rfl,rfl,rfl⟩ rfl rfl rfl (by first|exact .inl ⟨rfl,rfl⟩|exact .inr ⟨rfl,rfl⟩) verG rfl hE1))));refine w0 ?_))))
           refine ⟨j + 1,⟨by omega,g3⟩,by omega,?_⟩
           exact le_auto
       · have h3:((l.take (i + 1)).map verOf).Nodup:=by
           rw [take_snoc' l i hi,List.map_append,List.nodup_append]
           refine ⟨h2,by simp,fun a ha b hb=>?_⟩
           have hb:b = verOf l[i]:=by simpa using hb
           subst hb
           obtain ⟨x,hx,rfl⟩:=List.mem_map.1 ha
           obtain ⟨q,hq,rfl⟩:=List.getElem_of_mem hx
           rw [List.getElem_take]
           have hq:q < i:=by rw [List.length_take] at hq;omega
           exact fun e=>g2 q hq (by omega) e.symm
         clear hE hR g2 h2
         (refine w0 ?_;(repeat' first|refine W2.mk ?_ ?_|refine W1.mk fun hc=>?_))
         refine ⟨i + 1,⟨by omega,h3⟩,by omega,?_⟩
         exact le_auto
   · rw [List.take_of_length_le (by omega)] at h2
     rw [decide_eq_true h2] at hR
     subst hR
     clear hE
     (refine w0 ?_;(repeat' first|refine W2.mk ?_ ?_|refine W1.mk fun hc=>?_))
     refine rt1 ?_
     exact rv_bool rfl rfl
end
end Go.Proofs.YtembiemaiacdfaaGreat
