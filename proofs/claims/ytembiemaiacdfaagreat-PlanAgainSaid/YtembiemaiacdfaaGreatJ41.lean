/- Texts joined: PlR SwB PlS PlM StL LawFd Law33 Lw35. -/
import Derived.Test.YtembiemaiacdfaaGreatJ40
import Derived.Test.YtembiemaiacdfaaGreatJ05
import Derived.Test.YtembiemaiacdfaaGreatJ24
import Derived.Test.YtembiemaiacdfaaGreatJ29
import Derived.Test.YtembiemaiacdfaaGreatJ21
import Derived.Test.YtembiemaiacdfaaGreatJ37
import Derived.Test.YtembiemaiacdfaaGreatJ39
import Derived.Test.YtembiemaiacdfaaGreatJ20
import Derived.Test.YtembiemaiacdfaaGreatJ10
import Derived.Test.YtembiemaiacdfaaGreatJ23
import Derived.Test.YtembiemaiacdfaaGreatJ34
import Derived.Test.YtembiemaiacdfaaGreatJ31
set_option maxRecDepth 10000
set_option maxHeartbeats 8000000
namespace Go.Proofs.YtembiemaiacdfaaGreat
open Go.RowKit
section
theorem rst_TakeM (s:Sta) (l IN M:List It) (k OW J:List Pc) (mo:Int) (ap:Bool) (f g:It → Bool) (hl:IN.length ≤ 1000000) (hsl:s.its.length ≤ 1000000)
   (a1:Fn Tryz.prog 9 [stC s] (boR true)) (a2:Fn Tryz.prog 38 [itsB l] (boR true)) (a3:Fn Tryz.prog 39 [pcsB k] (boR true))
   (a4:Fn Tryz.prog 76 [itsB l,rgsB s.flt] (.per (itsP IN))) (a5:Fn Tryz.prog 40 [pcsB k,rgsB s.flt] (.per (pcsP OW)))
   (a6:∀ x ∈ IN,Fn Tryz.prog 44 [pcsB s.know,sC x.key,vrC x.rep x.cnt] (boR (f x))) (a7:∀ x ∈ IN,Fn Tryz.prog 44 [pcsB OW,sC x.key,vrC x.rep x.cnt] (boR (g x)))
   (a8:Fn Tryz.prog 41 [pcsB OW,iC .i64 s.id] (inR mo)) (a9:Fn Tryz.prog 29 [itsB (s.its ++ IN)] (.per (itsP M))) (a10:Fn Tryz.prog 42 [itsB M] (boR ap))
   (a11:Fn Tryz.prog 74 [pcsB s.know,pcsB OW] (.per (pcsP J))) :
   Fn Tryz.prog 31 [stC s,.per (itsP l),pcsC k] (.tup2 (.per (stP (tkR s IN M J mo ap f g).1)) (inR (tkR s IN M J mo ap f g).2)):=by
 unfold tkR
 generalize hp:(fun x=>!f x && !g x) = p
 have a9':Fn Tryz.prog 29 [.bor 7 ([] ++ s.its.map itP ++ IN.map itP)] (.per (itsP M)):=by rw [List.nil_append,← List.map_append];exact a9
 clear a9
 refine fi Tryz.func31 Tryz.ntmps31 ?_
 (have kc1:=a1;have kc2:=a2;have kc3:=a3;have kc4:=a4;have kc5:=a5;refine w0 ?_;(repeat' first|refine W2.mk ?_ ?_|refine W1.mk fun hc=>?_);all_goals clear kc5 kc4 kc3 kc2 kc1)
 clear a1 a2 a3 a4 a5
 refine AW_loopP (X:=Nat) (fun i=>i ≤ IN.length ∧ (IN.take i).any p = false) (fun i=>mkSt [(3,.ptr 3 0 0),(6,.ptr 6 0 0),(7,iC .i64 0),(8,.per (itsP IN)),(9,pcsC OW),(10,iC .i64 (i:Nat))] [(3,.box 26 ((stCs s).map Cnt.per)),(6,stZ)]) (fun i=>IN.length - i) 0 ⟨Nat.zero_le _,rfl⟩ ?_ ?_
 · exact le_auto
 · rintro i ⟨h1,h2⟩
   by_cases hi:i < IN.length
   · have c6:=a6 _ (List.getElem_mem hi)
     have c7:=a7 _ (List.getElem_mem hi)
     have hsn:=anyP_snoc hi h2
     have hh:=anyP_hit (p:=p) hi
     have hpx:p IN[i] = (!f IN[i] && !g IN[i]):=by rw [← hp]
     clear a6 a7 a8 a9' a10 a11 hp h2
     generalize f IN[i] = x1 at *
     generalize g IN[i] = x2 at *
     generalize p IN[i] = px at *
     cases x1 with
     | true=>
       subst hpx
       clear hh
       (have kc1:=c6;have kc2:=c7;refine w0 ?_;(repeat' (first|refine W2.mk ?_ ?_|refine W1.mk fun hc=>?_|((first|apply AL_t rfl|apply AL_0 rfl|apply AD_t rfl|apply AD_0 rfl);(focus (first|((apply u_k 5;(focus rfl);first|exact u_load_bpT ⟨rfl,rfl,rfl⟩ rfl inferInstance inferInstance rfl rfl rfl rfl|exact u_load_rpT ⟨rfl,rfl,rfl⟩ rfl inferInstance inferInstance rfl rfl rfl rfl))|(apply u_g;(focus rfl);apply op_gyes rfl rfl rfl rfl rfl;first|((apply u_k 5;(focus rfl);first|exact u_load_bpT ⟨rfl,rfl,rfl⟩ rfl inferInstance inferInstance rfl rfl rfl rfl|exact u_load_rpT ⟨rfl,rfl,rfl⟩ rfl inferInstance inferInstance rfl rfl rfl rfl)))));refine w0 ?_)));all_goals clear kc2 kc1)
       refine ⟨i + 1,⟨by omega,hsn⟩,by omega,?_⟩
       exact le_auto
     | false=>
       cases x2 with
       | true=>
         subst hpx
         clear hh
         (have kc1:=c6;have kc2:=c7;refine w0 ?_;(repeat' (first|refine W2.mk ?_ ?_|refine W1.mk fun hc=>?_|((first|apply AL_t rfl|apply AL_0 rfl|apply AD_t rfl|apply AD_0 rfl);(focus (first|((apply u_k 5;(focus rfl);first|exact u_load_bpT ⟨rfl,rfl,rfl⟩ rfl inferInstance inferInstance rfl rfl rfl rfl|exact u_load_rpT ⟨rfl,rfl,rfl⟩ rfl inferInstance inferInstance rfl rfl rfl rfl))|(apply u_g;(focus rfl);apply op_gyes rfl rfl rfl rfl rfl;first|((apply u_k 5;(focus rfl);first|exact u_load_bpT ⟨rfl,rfl,rfl⟩ rfl inferInstance inferInstance rfl rfl rfl rfl|exact u_load_rpT ⟨rfl,rfl,rfl⟩ rfl inferInstance inferInstance rfl rfl rfl rfl)))));refine w0 ?_)));all_goals clear kc2 kc1)
         refine ⟨i + 1,⟨by omega,hsn⟩,by omega,?_⟩
         exact le_auto
       | false=>
         subst hpx
         rw [if_pos (hh rfl)]
         clear hsn hh
         (have kc1:=c6;have kc2:=c7;refine w0 ?_;(repeat' (first|refine W2.mk ?_ ?_|refine W1.mk fun hc=>?_|((first|apply AL_t rfl|apply AL_0 rfl|apply AD_t rfl|apply AD_0 rfl);(focus (first|((apply u_k 5;(focus rfl);first|exact u_load_bpT ⟨rfl,rfl,rfl⟩ rfl inferInstance inferInstance rfl rfl rfl rfl|exact u_load_rpT ⟨rfl,rfl,rfl⟩ rfl inferInstance inferInstance rfl rfl rfl rfl))|(apply u_g;(focus rfl);apply op_gyes rfl rfl rfl rfl rfl;first|((apply u_k 5;(focus rfl);first|exact u_load_bpT ⟨rfl,rfl,rfl⟩ rfl inferInstance inferInstance rfl rfl rfl rfl|exact u_load_rpT ⟨rfl,rfl,rfl⟩ rfl inferInstance inferInstance rfl rfl rfl rfl)))));refine w0 ?_)));all_goals clear kc2 kc1)
         refine rt2 ?_ ?_
         · exact rv_wk (rv_cA inferInstance inferInstance rfl rfl rfl rfl rfl rfl) aI
         · exact rv_int rfl rfl
   · rw [List.take_of_length_le (by omega)] at h2
     rw [h2,if_neg (by simp)]
     clear a6 a7 hp h2
     by_cases q1:mo > s.cnt
     · rw [if_pos q1]
       clear a9' a10 a11
       (have kc1:=a8;refine w0 ?_;(repeat' first|refine W2.mk ?_ ?_|refine W1.mk fun hc=>?_);all_goals clear kc1)
       refine rt2 ?_ ?_
       · exact rv_wk (rv_cA inferInstance inferInstance rfl rfl rfl rfl rfl rfl) aI
       · exact rv_int rfl rfl
     rw [if_neg q1]
     cases ap with
     | false=>
       rw [if_pos rfl]
       clear a11
       (have kc1:=a8;refine w0 ?_;(repeat' first|refine W2.mk ?_ ?_|refine W1.mk fun hc=>?_);all_goals clear kc1)
       refine AL_le (Le_nil 77 700 61 7 rfl rfl) ?_
       (have kc1:=a9';have kc2:=a10;refine w0 ?_;(repeat' first|refine W2.mk ?_ ?_|refine W1.mk fun hc=>?_);all_goals clear kc2 kc1)
       refine rt2 ?_ ?_
       · exact rv_wk (rv_cA inferInstance inferInstance rfl rfl rfl rfl rfl rfl) aI
       · exact rv_int rfl rfl
     | true=>
       rw [if_neg (by simp)]
       by_cases q2:M.length > 4096
       · rw [if_pos q2]
         clear a11
         (have kc1:=a8;refine w0 ?_;(repeat' first|refine W2.mk ?_ ?_|refine W1.mk fun hc=>?_);all_goals clear kc1)
         refine AL_le (Le_nil 77 700 61 7 rfl rfl) ?_
         (have kc1:=a9';have kc2:=a10;refine w0 ?_;(repeat' first|refine W2.mk ?_ ?_|refine W1.mk fun hc=>?_);all_goals clear kc2 kc1)
         refine rt2 ?_ ?_
         · exact rv_wk (rv_cA inferInstance inferInstance rfl rfl rfl rfl rfl rfl) aI
         · exact rv_int rfl rfl
       · rw [if_neg q2]
         (have kc1:=a8;refine w0 ?_;(repeat' first|refine W2.mk ?_ ?_|refine W1.mk fun hc=>?_);all_goals clear kc1)
         refine AL_le (Le_nil 77 700 61 7 rfl rfl) ?_
         (have kc1:=a9';have kc2:=a10;have kc3:=a11;refine w0 ?_;(repeat' first|refine W2.mk ?_ ?_|refine W1.mk fun hc=>?_);all_goals clear kc3 kc2 kc1)
         refine rt2 ?_ ?_
         · exact rv_cA inferInstance inferInstance rfl rfl rfl rfl rfl rfl
         · exact rv_int rfl rfl
theorem rst_Take41 (s:Sta) (l:List It) (k:List Pc) (a1:Fn Tryz.prog 9 [stC s] (boR false)):Fn Tryz.prog 31 [stC s,.per (itsP l),pcsC k] (.tup2 (.per (stP {})) (inR 41)):=by
 refine fi Tryz.func31 Tryz.ntmps31 ?_
 (have kc1:=a1;refine w0 ?_;(repeat' first|refine W2.mk ?_ ?_|refine W1.mk fun hc=>?_);all_goals clear kc1)
 refine rt2 ?_ ?_
 · exact rv_wk (rv_cA inferInstance inferInstance rfl rfl rfl rfl rfl rfl) aI
 · exact rv_int rfl rfl
theorem rst_Take2 (s:Sta) (l:List It) (k:List Pc) (b c:Bool) (h:(b && c) = false) (a1:Fn Tryz.prog 9 [stC s] (boR true)) (a2:Fn Tryz.prog 38 [itsB l] (boR b)) (a3:Fn Tryz.prog 39 [pcsB k] (boR c)) :
   Fn Tryz.prog 31 [stC s,.per (itsP l),pcsC k] (.tup2 (.per (stP {})) (inR 2)):=by
 cases b <;> cases c
 case true.true=>cases h
 all_goals
   refine fi Tryz.func31 Tryz.ntmps31 ?_
   (have kc1:=a1;have kc2:=a2;have kc3:=a3;refine w0 ?_;(repeat' first|refine W2.mk ?_ ?_|refine W1.mk fun hc=>?_);all_goals clear kc3 kc2 kc1)
   refine rt2 ?_ ?_
   · exact rv_wk (rv_cA inferInstance inferInstance rfl rfl rfl rfl rfl rfl) aI
   · exact rv_int rfl rfl
theorem rex_Unknown (s t:Sta) (f g:It → Bool) (hl:s.its.length ≤ 1000000) (a1:∀ x ∈ s.its,Fn Tryz.prog 43 [rgsB t.flt,sC x.key] (boR (f x))) (a2:∀ x ∈ s.its,Fn Tryz.prog 44 [pcsB t.know,sC x.key,vrC x.rep x.cnt] (boR (g x))) :
   Fn Tryz.prog 45 [stC s,stC t] (ownI (s.its.filter fun x=>f x && !g x)):=by
 generalize hT:(s.its.filter fun x=>f x && !g x) = T
 refine fi Tryz.func45 Tryz.ntmps45 ?_
 (refine w0 ?_;(repeat' first|refine W2.mk ?_ ?_|refine W1.mk fun hc=>?_))
 refine AW_le (Le_nil 5 600 61 7 rfl rfl) ?_
 refine AW_loopP (X:=Nat × List It) (fun x=>x.1 ≤ s.its.length ∧ x.2.length ≤ x.1 ∧ x.2 ++ (s.its.drop x.1).filter (fun x=>f x && !g x) = T)
   (fun x=>mkSt [(2,.ptr 2 0 0),(3,.ptr 3 0 0),(5,.row 600 0),(6,iC .i64 (x.1:Nat))] [(2,.box 26 ((stCs s).map Cnt.per)),(3,.box 26 ((stCs t).map Cnt.per)),(600,itsW x.2)]) (fun x=>s.its.length - x.1) (0,[]) ⟨Nat.zero_le _,by simp,by simpa using hT⟩ ?_ ?_
 · exact le_auto
 · rintro ⟨i,ac⟩ ⟨h1,h2,h3⟩
   simp only at h1 h2 h3 ⊢
   by_cases hi:i < s.its.length
   · have c1:=a1 _ (List.getElem_mem hi)
     have c2:=a2 _ (List.getElem_mem hi)
     rw [List.drop_eq_getElem_cons hi,List.filter_cons] at h3
     clear a1 a2
     cases hf:f s.its[i] with
     | false=>
       rw [hf] at h3 c1
       (have kc1:=c1;have kc2:=c2;refine w0 ?_;(repeat' first|refine W2.mk ?_ ?_|refine W1.mk fun hc=>?_);all_goals clear kc2 kc1)
       refine ⟨(i + 1,ac),⟨by simp only;omega,by simp only;omega,by simpa using h3⟩,by simp only;omega,?_⟩
       exact le_auto
     | true=>
       cases hg:g s.its[i] with
       | true=>
         rw [hf,hg] at h3
         rw [hf] at c1
         rw [hg] at c2
         (have kc1:=c1;have kc2:=c2;refine w0 ?_;(repeat' first|refine W2.mk ?_ ?_|refine W1.mk fun hc=>?_);all_goals clear kc2 kc1)
         refine ⟨(i + 1,ac),⟨by simp only;omega,by simp only;omega,by simpa using h3⟩,by simp only;omega,?_⟩
         exact le_auto
       | false=>
         rw [hf,hg] at h3
         rw [hf] at c1
         rw [hg] at c2
         (have kc1:=c1;have kc2:=c2;refine w0 ?_;(repeat' first|refine W2.mk ?_ ?_|refine W1.mk fun hc=>?_);all_goals clear kc2 kc1)
         refine ⟨(i + 1,ac ++ [s.its[i]]),⟨by simp only;omega,by simp;omega,by simpa using h3⟩,by simp only;omega,Le_trans (Le_mv 600 601) (Le_trans (Le_mv 601 600) ?_)⟩
         exact le_auto
   · have h3:ac = T:=by rw [← h3,List.drop_of_length_le (by omega)];simp
     clear a1 a2
     (refine w0 ?_;(repeat' first|refine W2.mk ?_ ?_|refine W1.mk fun hc=>?_))
     refine rt1 ?_
     exact rv_ownM rfl rfl rfl (by rw [h3])
theorem rex_Learned (s t:Sta) (J:List Pc) (a1:Fn Tryz.prog 40 [pcsB s.know,rgsB t.flt] (.per (pcsP J))):Fn Tryz.prog 46 [stC s,stC t] (.per (pcsP J)):=by
 refine fi Tryz.func46 Tryz.ntmps46 ?_
 (have kc1:=a1;refine w0 ?_;(repeat' first|refine W2.mk ?_ ?_|refine W1.mk fun hc=>?_);all_goals clear kc1)
 refine rt1 ?_
 exact rv_per rfl
theorem rex_SyncE (s t:Sta) (p q:Bool) (h:(p && q) = false) (a1:Fn Tryz.prog 9 [stC s] (boR p)) (a2:Fn Tryz.prog 9 [stC t] (boR q)):Fn Tryz.prog 10 [stC s,stC t] (.tup2 (.per (stP {})) (inR 41)):=by
 cases p <;> cases q
 case true.true=>cases h
 all_goals
   refine fi Tryz.func10 Tryz.ntmps10 ?_
   (have kf1:=a1;have kf2:=a2;refine w0 ?_;(repeat' first|refine W2.mk ?_ ?_|refine W1.mk fun hc=>?_);all_goals clear kf2 kf1)
   refine rt2 ?_ ?_
   · exact rv_wk (rv_cA inferInstance inferInstance rfl rfl rfl rfl rfl rfl) aI
   · exact rv_int rfl rfl
theorem rex_SyncG (s t u:Sta) (e:Int) (U:List It) (J:List Pc) (a1:Fn Tryz.prog 9 [stC s] (boR true)) (a2:Fn Tryz.prog 9 [stC t] (boR true)) (a3:Fn Tryz.prog 45 [stC s,stC t] (.per (itsP U))) (a4:Fn Tryz.prog 46 [stC s,stC t] (.per (pcsP J)))
   (a5:Fn Tryz.prog 31 [stC t,.per (itsP U),pcsC J] (.tup2 (.per (stP u)) (inR e))):Fn Tryz.prog 10 [stC s,stC t] (.tup2 (.per (stP u)) (inR e)):=by
 refine fi Tryz.func10 Tryz.ntmps10 ?_
 (have kf1:=a1;have kf2:=a2;have kc1:=a3;have kc2:=a4;have kc3:=a5;refine w0 ?_;(repeat' first|refine W2.mk ?_ ?_|refine W1.mk fun hc=>?_);all_goals clear kc3 kc2 kc1 kf2 kf1)
 refine rt2 ?_ ?_
 · exact rv_cA inferInstance inferInstance rfl rfl rfl rfl rfl rfl
 · exact rv_int rfl rfl
end
/-- at most a pieces, each with at most b runs -/
structure PcW (k:List Pc) (a b:Nat):Prop where
 len:k.length ≤ a
 set:∀ p ∈ k,p.set.length ≤ 16 ∧ (p.set.flatMap Kn.runs).length ≤ b
theorem PcW.mid {k:List Pc} {a b:Nat} (h:PcW k a b) (ha:a * 16 ≤ 1000000) (hb:a * b ≤ 1000000):pcsMid k:=by
 have key:∀ l:List Pc,(∀ p ∈ l,p.set.length ≤ 16 ∧ (p.set.flatMap Kn.runs).length ≤ b) → (l.flatMap Pc.set).length ≤ l.length * 16 ∧ ((l.flatMap Pc.set).flatMap Kn.runs).length ≤ l.length * b:=by
   intro l
   induction l with
   | nil=>intro _;simp
   | cons p l ih=>
     intro h
     obtain ⟨h1,h2⟩:=h p List.mem_cons_self
     obtain ⟨i1,i2⟩:=ih (fun q hq=>h q (List.mem_cons_of_mem _ hq))
     rw [List.flatMap_cons,List.flatMap_append,List.length_append,List.length_append,List.length_cons,Nat.succ_mul,Nat.succ_mul]
     constructor <;> omega
 obtain ⟨h1,h2⟩:=key k h.set
 have h3:k.length * 16 ≤ a * 16:=Nat.mul_le_mul_right _ h.len
 have h4:k.length * b ≤ a * b:=Nat.mul_le_mul_right _ h.len
 have h5:=h.len
 exact ⟨by omega,by omega,by omega⟩
theorem PcW.le {k:List Pc} {a b c d:Nat} (h:PcW k a b) (h1:a ≤ c) (h2:b ≤ d):PcW k c d:=⟨by have:=h.len;omega,fun p hp=>by have:=h.set p hp;omega⟩
theorem PcW.get {k:List Pc} {a b:Nat} (h:PcW k a b) (s:ByteArray):(getK k s).length ≤ 16 ∧ ((getK k s).flatMap Kn.runs).length ≤ b:=by
 have key:∀ l:List Pc,(∀ p ∈ l,p.set.length ≤ 16 ∧ (p.set.flatMap Kn.runs).length ≤ b) → (getK l s).length ≤ 16 ∧ ((getK l s).flatMap Kn.runs).length ≤ b:=by
   intro l
   induction l with
   | nil=>intro _;rw [getK_nil];simp
   | cons p l ih=>
     intro h
     by_cases q:rgHas p.rg s = true
     · rw [getK_in q];exact h p List.mem_cons_self
     · rw [getK_out q];exact ih (fun q hq=>h q (List.mem_cons_of_mem _ hq))
 exact key k h.set
theorem pcW_long {k:List Pc} {m:Int} (h:longPcs k m = false):PcW k m.toNat 256:=by
 obtain ⟨h1,h2⟩:=longPcs_sz h
 refine ⟨by omega,fun p hp=>?_⟩
 obtain ⟨_,_,h3⟩:=h2 p hp
 obtain ⟨g1,g2⟩:=longKns_sz h3
 have key:∀ s:List Kn,(∀ x ∈ s,(x.runs.length:Int) ≤ 16) → (s.flatMap Kn.runs).length ≤ 16 * s.length:=by
   intro s
   induction s with
   | nil=>intro _;simp
   | cons x s ih=>
     intro h
     have h1:=h x List.mem_cons_self
     have h2:=ih (fun y hy=>h y (List.mem_cons_of_mem _ hy))
     rw [List.flatMap_cons,List.length_append,List.length_cons];omega
 have:=key _ g2
 omega
theorem vsOf_len (X:List Kn):(vsOf ofR X).length ≤ 16:=(vsOf_sz (X:=X) (Nat.le_refl _)).1
theorem PcW.rest {k:List Pc} {a b:Nat} (h:PcW k a b) (ok:pcsOk k) (f:List Rg):PcW (restK k f) (1 + 2 * (a + f.length)) b:=by
 obtain ⟨h1,h2⟩:=restK_ok k f
 refine ⟨?_,fun p hp=>?_⟩
 · have q1:=bldK_len (resF k f) (resE k f)
   have q2:=edgT_len (rgsOf k ++ f) [emB]
   have q3:=h.len
   have q4:(rgsOf k).length = k.length:=by unfold rgsOf;simp
   rw [List.length_append,q4,List.length_singleton] at q2
   unfold restK
   have q5:(resE k f).length = (edgT [emB] (rgsOf k ++ f)).length:=rfl
   omega
 · obtain ⟨_,s,h3⟩:=pcsOk_at h1 p hp
   rw [← h3,h2]
   unfold resF
   split
   · rw [atK_get ok];exact h.get s
   · simp
theorem PcW.join {k l:List Pc} {a b c d:Nat} (h:PcW k a b) (h':PcW l c d) (ok:pcsOk k) (ok':pcsOk l):PcW (ofK (k ++ l)) (1 + 2 * (a + c)) (b + d):=by
 obtain ⟨h1,h2⟩:=ofK_ok (k ++ l)
 refine ⟨?_,fun p hp=>?_⟩
 · have q1:=bldK_len (atK (k ++ l)) (edgK (k ++ l))
   have q2:=edgK_len (k ++ l)
   have q3:=h.len
   have q4:=h'.len
   rw [List.length_append] at q2
   unfold ofK
   omega
 · obtain ⟨_,s,h3⟩:=pcsOk_at h1 p hp
   rw [← h3,h2,atK_or]
   refine ⟨vsOf_len _,?_⟩
   have q1:=vsOf_runs (atK k s ++ atK l s)
   rw [List.flatMap_append,List.length_append,atK_get ok,atK_get ok'] at q1
   rw [atK_get ok,atK_get ok']
   have q2:=(h.get s).2
   have q3:=(h'.get s).2
   omega
/-! ### arguments that say less -/
inductive CW:List Cnt → List Cnt → Prop
 | nil:CW [] []
 | same {c:Cnt} {l l':List Cnt} (k:CW l l'):CW (c :: l) (c :: l')
 | per {A B:PV} {l l':List Cnt} (h:Imp A B) (k:CW l l'):CW (.per A :: l) (.per B :: l')
theorem CW.len {l l':List Cnt} (h:CW l l'):l.length = l'.length:=by
 induction h with
 | nil=>rfl
 | same k ih=>simp [ih]
 | per h k ih=>simp [ih]
theorem CW.get {l l':List Cnt} (h:CW l l'):∀ (j:Nat) (c':Cnt),l'[j]? = some c' → ∃ c,l[j]? = some c ∧ (c = c' ∨ ∃ A B,c = .per A ∧ c' = .per B ∧ Imp A B):=by
 induction h with
 | nil=>intro j c h;simp at h
 | @same c l l' k ih=>
   intro j d hj
   cases j with
   | zero=>simp at hj;subst hj;exact ⟨c,rfl,.inl rfl⟩
   | succ j=>simpa using ih j d (by simpa using hj)
 | @per A B l l' h k ih=>
   intro j d hj
   cases j with
   | zero=>simp at hj;subst hj;exact ⟨_,rfl,.inr ⟨A,B,rfl,rfl,h⟩⟩
   | succ j=>simpa using ih j d (by simpa using hj)
theorem Fn.argsW {P:Program} {f:FuncId} {As Bs:List Cnt} {r:Ret} (h:Fn P f Bs r) (k:CW As Bs):Fn P f As r:=⟨h.ent,fun N0 w vs hN ha=>by
 refine h.run N0 w vs hN ⟨by rw [ha.1,k.len],fun i u c hi hj=>?_⟩
 obtain ⟨c0,q1,q2⟩:=k.get i c hj
 rcases q2 with rfl|⟨A,B,rfl,rfl,q3⟩
 · exact ha.2 i u c0 hi q1
 · exact q3 _ _ _ (ha.2 i u (.per A) hi q1)⟩
/-! ### how big -/
theorem PcW.app {k l:List Pc} {a b c d:Nat} (h:PcW k a b) (h':PcW l c d):PcW (k ++ l) (a + c) (max b d):=⟨by rw [List.length_append];have:=h.len;have:=h'.len;omega,fun p hp=>by
 rcases List.mem_append.1 hp with q|q
 · have:=h.set p q;omega
 · have:=h'.set p q;omega⟩
structure TkB (s:Sta) (l:List It) (k:List Pc):Prop where
 st:StB s
 fl:s.flt.length ≤ 12
 ll:l.length ≤ 100000
 lk:kOk l
 sl:s.its.length ≤ 100000
 km:pcsMid k
 kl:k.length ≤ 100000
 rm:pcsOk k → pcsMid (restK k s.flt)
 rl:pcsOk k → (restK k s.flt).length ≤ 100000
 jm:pcsOk k → pcsOk s.know → pcsMid (s.know ++ restK k s.flt)
theorem takeS_tk {s:Sta} {l:List It} {k:List Pc} (h1:stR s = true) (h2:listB l = true) (h3:pcsOk k) :
   takeS s l k = tkR s (inL s.flt l) (mergeK [s.its ++ inL s.flt l]) (ofK (s.know ++ restK k s.flt)) (mostK (restK k s.flt) s.id) (apartB (mergeK [s.its ++ inL s.flt l])) (fun x=>hasPb s.know x.key x.rep x.cnt) (fun x=>hasPb (restK k s.flt) x.key x.rep x.cnt):=by
 unfold takeS tkR
 rw [if_neg (by rw [h1];simp),if_neg (by rw [h2];simp [h3])]
theorem takeS_41 {s:Sta} {l:List It} {k:List Pc} (h1:stR s = false):takeS s l k = ({},41):=by unfold takeS;rw [if_pos h1]
theorem takeS_2 {s:Sta} {l:List It} {k:List Pc} (h1:stR s = true) (h2:(listB l && decide (pcsOk k)) = false):takeS s l k = ({},2):=by
 unfold takeS
 rw [if_neg (by rw [h1];simp),if_pos]
 rw [Bool.and_eq_false_iff,decide_eq_false_iff_not] at h2
 exact h2
theorem inL_key {f:List Rg} {l:List It} (h:kOk l):kOk (inL f l):=fun x hx=>h x (List.mem_filter.1 hx).1
theorem inL_len (f:List Rg) (l:List It):(inL f l).length ≤ l.length:=List.length_filter_le _ _
theorem mergeK_all (ls:List (List It)):(mergeK ls).all itR = true:=List.all_eq_true.2 (List.filter_eq_self.1 mergeK_right)
theorem mergeK_ln (ls:List (List It)):(mergeK ls).length ≤ ls.flatten.length:=Nat.le_trans (mergeK_len ls) (List.length_filter_le _ _)
theorem takeS_facts {s:Sta} {l:List It} {k:List Pc} (h:TkB s l k):kOk (inL s.flt l) ∧ (inL s.flt l).length ≤ 100000 ∧ (mergeK [s.its ++ inL s.flt l]).length ≤ 200000 ∧ kOk (s.its ++ inL s.flt l):=by
 have h1:=inL_len s.flt l
 have h2:=h.ll
 have h3:=h.sl
 refine ⟨inL_key h.lk,by omega,?_,fun x hx=>?_⟩
 · have:=mergeK_ln [s.its ++ inL s.flt l]
   simp only [List.flatten_cons,List.flatten_nil,List.append_nil,List.length_append] at this
   omega
 · rcases List.mem_append.1 hx with q|q
   · exact h.st.keys x q
   · exact inL_key h.lk x q
theorem rst_Take (s:Sta) (l:List It) (k:List Pc) (h:TkB s l k):Fn Tryz.prog 31 [stC s,.per (itsP l),pcsC k] (.tup2 (.per (stP (takeS s l k).1)) (inR (takeS s l k).2)):=by
 have a1:=rst_Right s h.st
 cases hr:stR s with
 | false=>
   rw [hr] at a1
   rw [takeS_41 hr]
   exact rst_Take41 s l k a1
 | true=>
   rw [hr] at a1
   have a2:=ref_List l h.lk (by have:=h.ll;omega) (listB l) listB_iff
   have a3:=rknow_Right k (pcsMid_sz h.km) (decide (pcsOk k)) (by simp)
   by_cases hb:(listB l && decide (pcsOk k)) = false
   · rw [takeS_2 hr hb]
     exact rst_Take2 s l k _ _ hb a1 a2 a3
   · have hb:listB l = true ∧ pcsOk k:=by simpa using hb
     obtain ⟨b1,b2⟩:=hb
     rw [b1] at a2
     rw [decide_eq_true b2] at a3
     obtain ⟨c1,c2,c3,c4,c5,c6,c7,c8,c9,c10⟩:=stR_un hr
     obtain ⟨f1,f2,f3,f4⟩:=takeS_facts h
     have hfl:=h.fl
     have hll:=h.ll
     have hsl:=h.sl
     have hz:pcsSz (restK k s.flt):=pcsMid_sz (h.rm b2)
     rw [takeS_tk hr b1 b2]
     refine rst_TakeM s l (inL s.flt l) _ k (restK k s.flt) _ _ _ _ _ (by omega) (by omega) a1 a2 a3 (ref_In l s.flt h.lk (by omega) (by omega)).frz ?_ (fun x hx=>?_) (fun x hx=>?_) ?_ ?_ ?_ ?_
     · exact (rkn_Restrict k s.flt h.km (by have:=h.kl;omega) (by omega)).frz
     · exact rkn_Has s.know x.key x.rep x.cnt (pcsMid_sz h.st.kmid) (f1 x hx)
     · exact rkn_Has (restK k s.flt) x.key x.rep x.cnt hz (f1 x hx)
     · exact rst_Most _ _ (h.rm b2)
     · exact (ref_Merge (s.its ++ inL s.flt l) f4 (by rw [List.length_append];omega)).frz
     · exact rst_Apart _ (by omega)
     · exact (rkn_Join s.know (restK k s.flt) h.st.kmid (h.rm b2) (h.jm b2 c6) h.st.kl (by have:=h.rl b2;omega)).frz
theorem rex_Sync (s t:Sta) (hs:StB s) (ht:StB t) (hk:stR s = true → stR t = true → TkB t (unkL s.its t.flt t.know) (restK s.know t.flt)):Fn Tryz.prog 10 [stC s,stC t] (.tup2 (.per (stP (syncS s t).1)) (inR (syncS s t).2)):=by
 have a1:=rst_Right s hs
 have a2:=rst_Right t ht
 unfold syncS
 by_cases hb:stR s = false ∨ stR t = false
 · rw [if_pos hb]
   exact rex_SyncE s t _ _ (by rw [Bool.and_eq_false_iff];exact hb) a1 a2
 · rw [if_neg hb]
   have hb:stR s = true ∧ stR t = true:=by simpa using hb
   have hT:=hk hb.1 hb.2
   rw [hb.1] at a1
   rw [hb.2] at a2
   have hf:=hT.fl
   have hU:=(rex_Unknown s t (fun x=>anyR t.flt x.key) (fun x=>hasPb t.know x.key x.rep x.cnt) hs.its (fun x hx=>rrgs_Has t.flt x.key (by omega) (hs.keys x hx)) (fun x hx=>rkn_Has t.know x.key x.rep x.cnt (pcsMid_sz ht.kmid) (hs.keys x hx))).frz
   exact rex_SyncG s t _ _ _ _ a1 a2 hU (rex_Learned s t _ (rkn_Restrict s.know t.flt hs.kmid hs.kl (by omega)).frz) (rst_Take t _ _ hT)
def mayS (s:Sta) (F:List Rg) (K:List Pc):Int:=mayB (stR s) (decide (rgsOk F)) (decide (pcsOk K))
def makeS (s:Sta) (F:List Rg) (K:List Pc) (lim:Int) (R:List Rg) (hs:Int → Int → Bool):List (List It) × List Pc × Int:=
 if mayS s F K ≠ 0 then ([],[],mayS s F K)
 else if badE lim (sortO R hs (unkL s.its F K)) = 0 then (splR lim (sortO R hs (unkL s.its F K)),restK s.know F,0)
 else ([],[],badE lim (sortO R hs (unkL s.its F K)))
theorem mayS_0 {s:Sta} {F:List Rg} {K:List Pc}:mayS s F K = 0 ↔ stR s = true ∧ rgsOk F ∧ pcsOk K:=by
 unfold mayS mayB
 cases stR s
 · simp
 · by_cases h1:rgsOk F <;> by_cases h2:pcsOk K <;> simp [h1,h2]
theorem unk_in (l:List It) (F:List Rg) (K:List Pc):(inI F l).filter (fun x=>!hasPb K x.key x.rep x.cnt) = unkL l F K:=by
 unfold inI unkL
 rw [List.filter_filter]
 exact List.filter_congr fun x _=>by rw [Bool.and_comm]
theorem unk_len (l:List It) (F:List Rg) (K:List Pc):(unkL l F K).length ≤ l.length:=List.length_filter_le _ _
theorem unk_key {l:List It} {F:List Rg} {K:List Pc} (h:kOk l):kOk (unkL l F K):=fun x hx=>h x (List.mem_filter.1 hx).1
structure AkB (s:Sta) (F:List Rg) (K:List Pc) (lim:Int) (R:List Rg) (th:PV) (hs:Int → Int → Bool):Prop where
 st:StB s
 sl:s.its.length ≤ 100000
 fl:F.length ≤ 12
 rl:R.length ≤ 12
 km:pcsMid K
 ul:(unkL s.its F K).length ≤ 20
 l1:-9223372036854775808 ≤ lim
 l2:lim ≤ 9223372036854775807
 th:∀ r c,Fn Tryz.prog 186 [.per th,vrC r c] (boR (hs r c))
section
variable {s:Sta} {F:List Rg} {K:List Pc} {lim:Int} {R:List Rg} {th:PV} {hs:Int → Int → Bool}
theorem pl_mayA (h:AkB s F K lim R th hs):Fn Tryz.prog 47 [stC s,askC F K lim R th] (inR (mayS s F K)):=by
 have hf:=h.fl
 exact pl_may s F K lim R th _ _ _ (st_Right s h.st) (rgs_Right F (by omega) (decide (rgsOk F)) (by simp)) (know_Right K (pcsMid_sz h.km) (decide (pcsOk K)) (by simp))
theorem pl_unknownA (h:AkB s F K lim R th hs):Fn Tryz.prog 49 [stC s,askC F K lim R th] (.per (itsP (unkL s.its F K))):=by
 have hl:=h.sl
 have hi:(inI F s.its).length ≤ s.its.length:=List.length_filter_le _ _
 have:=(pl_unknown s F K lim R th (inI F s.its) (fun x=>hasPb K x.key x.rep x.cnt) (by omega) (item_In s.its F h.st.keys (by omega) h.fl).frz (fun x hx=>kn_Has K x.key x.rep x.cnt (pcsMid_sz h.km) (h.st.keys x (List.mem_filter.1 hx).1))).frz
 rw [unk_in] at this
 exact this
theorem pl_sendA (h:AkB s F K lim R th hs):Fn Tryz.prog 48 [askC F K lim R th,.per (itsP (unkL s.its F K))] (.tup2 (.per (lstP 1 ((splR lim (sortO R hs (unkL s.its F K))).map fun c=>[itsP c]))) (inR (badE lim (sortO R hs (unkL s.its F K))))):=by
 have h1:=(od_Sort R h.rl th hs h.th (unkL s.its F K) (unk_key h.st.keys) h.ul).frz
 have hl:(sortO R hs (unkL s.its F K)).length ≤ 1000000000:=by
   rw [sortO_len];have:=h.ul;omega
 exact pl_send F K lim R th _ _ _ _ h1 (batch_Split lim _ hl h.l1 h.l2)
theorem pl_Make (h:AkB s F K lim R th hs):Fn Tryz.prog 11 [stC s,askC F K lim R th] (.tup2 (.per (planP (makeS s F K lim R hs).1 (makeS s F K lim R hs).2.1)) (inR (makeS s F K lim R hs).2.2)):=by
 unfold makeS
 have a1:=pl_mayA h
 by_cases c:mayS s F K ≠ 0
 · rw [if_pos c]
   exact pl_MakeE s F K lim R th _ c a1
 · rw [if_neg c]
   have c:=Decidable.not_not.1 c
   rw [c] at a1
   obtain ⟨c1,c2,c3⟩:=mayS_0.1 c
   have hf:=h.fl
   have:=pl_MakeG s F K lim R th _ _ _ (restK s.know F) a1 (pl_unknownA h) (pl_sendA h) (fun _=>(kn_Restrict s.know F h.st.kmid c2 (by omega) h.st.kl (rgs_OfR F c2 (by omega))).frz)
   by_cases e:badE lim (sortO R hs (unkL s.its F K)) = 0
   · rw [if_pos e] at this ⊢
     rw [e] at this
     exact this
   · rw [if_neg e] at this ⊢
     exact this
end
theorem ex_Unk (s t:Sta) (hs:StB s) (ht:StB t) (hl:s.its.length ≤ 100000) (hf:t.flt.length ≤ 12) (h1:stR s = true) (h2:stR t = true):Fn Tryz.prog 13 [stC s,stC t] (.per (itsP (unkL s.its t.flt t.know))):=by
 have a1:=st_Right s hs
 have a2:=st_Right t ht
 rw [h1] at a1
 rw [h2] at a2
 have hi:(inI t.flt s.its).length ≤ s.its.length:=List.length_filter_le _ _
 have:=(ex_Unknown s t (inI t.flt s.its) (fun x=>hasPb t.know x.key x.rep x.cnt) (by omega) (ex_both s t true true a1 a2) (item_In s.its t.flt hs.keys (by omega) hf).frz (fun x hx=>kn_Has t.know x.key x.rep x.cnt (pcsMid_sz ht.kmid) (hs.keys x (List.mem_filter.1 hx).1))).frz
 rw [unk_in] at this
 exact this
def longS (s:Sta):Bool:=longRgs s.flt 8 || (longB s.its 24 || longPcs s.know 24)
section
theorem rst_Long (s:Sta):Fn Tryz.prog 8 [stC s] (boR (longS s)):=by
 have a1:=rgs_Long s.flt 8 (by decide)
 have a2:=item_Long s.its 24 (by decide)
 have a3:=rknow_Long s.know 24 (by decide)
 unfold longS
 generalize longRgs s.flt 8 = d1 at *
 generalize longPcs s.know 24 = d2 at *
 generalize longB s.its 24 = d3 at *
 refine fi Tryz.func8 Tryz.ntmps8 ?_
 (have kc1:=a1;have kc2:=a2;have kc3:=a3;refine w0 ?_;(repeat' first|refine W2.mk ?_ ?_|refine W1.mk fun hc=>?_);all_goals clear kc3 kc2 kc1)
 all_goals
   refine rt1 ?_
   refine rv_bool rfl ?_
   first|rfl|(simp [*];done)|(rw [Bool.eq_iff_iff];simp [*];done)|(rw [Bool.eq_iff_iff];simp [*];omega)
end
theorem longB_sz {l:List It} (h:longB l 24 = false):l.length ≤ 24 ∧ kOk l:=by
 unfold longB at h
 rw [Bool.or_eq_false_iff,decide_eq_false_iff_not] at h
 refine ⟨by omega,fun x hx=>?_⟩
 have:=List.any_eq_false.1 h.2 x hx
 simp [itL] at this
 omega
theorem longRgs_sz8 {l:List Rg} (h:longRgs l 8 = false):l.length ≤ 8:=by
 unfold longRgs at h
 rw [Bool.or_eq_false_iff,decide_eq_false_iff_not] at h
 omega
structure LgB (s:Sta):Prop where
 fl:s.flt.length ≤ 8
 il:s.its.length ≤ 24
 ik:kOk s.its
 kw:PcW s.know 24 256
theorem longS_lg {s:Sta} (h:longS s = false):LgB s:=by
 unfold longS at h
 simp only [Bool.or_eq_false_iff] at h
 obtain ⟨h1,h2,h3⟩:=h
 obtain ⟨q2,q3⟩:=longB_sz h2
 exact ⟨longRgs_sz8 h1,q2,q3,pcW_long h3⟩
theorem LgB.st {s:Sta} (h:LgB s):StB s:=by
 have h1:=h.fl
 have h2:=h.il
 have h3:=h.kw.len
 exact ⟨by omega,h.kw.mid (by decide) (by decide),by omega,by omega,h.ik⟩
section
end
section
theorem has_nil (r c:Int):Fn Tryz.prog 186 [.per (rawP (.pointer none)),vrC r c] (boR false):=by
 refine fi Tryz.func186 Tryz.ntmps186 ?_
 (refine w0 ?_;(repeat' first|refine W2.mk ?_ ?_|refine W1.mk fun hc=>?_))
 refine rt1 ?_
 exact rv_bool rfl rfl
end
abbrev nlP:PV:=rawP (.slice none 0 0)
abbrev nptP:PV:=rawP (.pointer none)
/-! ### the example -/
def ex35:Sta:=⟨1,[⟨emB,emB,true⟩],[],[],0⟩
def ex35x:It:=⟨⟨#[97]⟩,1,1,1,0,false,⟨#[120]⟩⟩
def ex35u:Sta:=⟨1,[⟨emB,emB,true⟩],[ex35x],oneK ⟨#[97]⟩ 1 1,1⟩
theorem ex35_R:stR ex35 = true:=by decide +kernel
theorem ex35_w:writeS ex35 ⟨#[97]⟩ 0 ⟨#[120]⟩ = (ex35u,0):=by
 have h1:keyR ⟨#[97]⟩ = true:=by decide
 have h2:anyR ex35.flt ⟨#[97]⟩ = true:=by decide +kernel
 unfold writeS
 rw [if_neg (by rw [ex35_R];simp),if_neg (by rw [h1];decide),if_neg (by rw [h2];simp),if_neg (by decide),if_neg (by decide)]
 have h3:newI ex35 ⟨#[97]⟩ 0 false ⟨#[120]⟩ = ex35x:=by decide +kernel
 rw [h3]
 unfold putS
 have h4:ofK (ex35.know ++ oneK ex35x.key ex35x.rep ex35x.cnt) = oneK ⟨#[97]⟩ 1 1:=ofK_id (k:=oneK ⟨#[97]⟩ 1 1) (one_ok (k:=⟨#[97]⟩) (r:=1) (c:=1) h1 (by decide)).1
 rw [h4]
 rfl
theorem ex35u_R:stR ex35u = true:=by
 have:=writeS_right (s:=ex35) (k:=⟨#[97]⟩) (prio:=0) (body:=⟨#[120]⟩) (by rw [ex35_w])
 rw [ex35_w] at this
 exact this.1
theorem ex35_1:makeS ex35u ex35u.flt ex35u.know 50 [] (fun _ _=>false) = ([[]],ex35u.know,0):=by
 obtain ⟨_,_,_,c4,_,c6,c7,_⟩:=stR_un ex35u_R
 have hu:unkL ex35u.its ex35u.flt ex35u.know = []:=by
   unfold unkL
   rw [List.filter_eq_nil_iff]
   intro x hx
   rw [((stR_un ex35u_R).2.2.2.2.2.2.2.2.2 x hx).2];simp
 unfold makeS
 rw [if_neg (by rw [mayS_0.2 ⟨ex35u_R,c4,c6⟩];simp),hu,c7]
 rfl
theorem ex35_2:makeS ex35u ex35u.flt [] 50 [] (fun _ _=>false) = ([[ex35x]],ex35u.know,0):=by
 obtain ⟨_,_,_,c4,_,c6,c7,_⟩:=stR_un ex35u_R
 have hu:unkL ex35u.its ex35u.flt [] = [ex35x]:=by
   have h2:anyR ex35.flt ⟨#[97]⟩ = true:=by decide +kernel
   unfold unkL
   refine List.filter_eq_self.2 ?_
   intro x hx
   have hx:x = ex35x:=List.mem_singleton.1 hx
   subst hx
   rw [show anyR ex35u.flt ex35x.key = true from h2];rfl
 have hq:splR 50 (sortO [] (fun _ _=>false) [ex35x]) = [[ex35x]] ∧ badE 50 (sortO [] (fun _ _=>false) [ex35x]) = 0:=by decide +kernel
 unfold makeS
 rw [if_neg (by rw [mayS_0.2 ⟨ex35u_R,c4,pcsOk_nil⟩];simp),hu,if_pos hq.2,hq.1,c7]
theorem stB_35:StB ex35:=⟨by decide,⟨by decide,by decide,by decide⟩,by decide,by decide,fun x hx=>by cases hx⟩
theorem pcM_35:pcsMid (oneK ⟨#[97]⟩ 1 1):=⟨by decide,by decide,by decide⟩
theorem stB_35u:StB ex35u:=⟨by decide,pcM_35,by decide,by decide,fun x hx=>by rw [List.mem_singleton.1 hx];decide⟩
section
theorem awake35:Fn Tryz.prog 7 [] (boR true):=by
 have a1:=(st_Write ex35 ⟨#[97]⟩ 0 ⟨#[120]⟩ stB_35 (by decide) (by decide) (by decide) (fun _ _=>pcM_35)).argsW (As:=[.per (aggP [rawP (.int .i64 1),rgsP [⟨emB,emB,true⟩],nlP,nlP,rawP (.int .i64 0)]),sC ⟨#[97]⟩,iC .i64 0,sC ⟨#[120]⟩]) (.per aI (.same (.same (.same .nil))))
 rw [ex35_w] at a1
 have a2:=(pl_Make (s:=ex35u) (F:=ex35u.flt) (K:=ex35u.know) (lim:=50) (R:=[]) (th:=nptP) (hs:=fun _ _=>false) ⟨stB_35u,by decide,by decide,by decide,pcM_35,by
   refine Nat.le_trans (unk_len _ _ _) (by decide),by decide,by decide,has_nil⟩).argsW (As:=[stC ex35u,.per (aggP [rgsP ex35u.flt,pcsP ex35u.know,rawP (.int .i64 50),nlP,nptP])]) (.same (.per aI .nil))
 rw [ex35_1] at a2
 have a3:=(pl_Make (s:=ex35u) (F:=ex35u.flt) (K:=[]) (lim:=50) (R:=[]) (th:=nptP) (hs:=fun _ _=>false) ⟨stB_35u,by decide,by decide,by decide,⟨by decide,by decide,by decide⟩,by
   refine Nat.le_trans (unk_len _ _ _) (by decide),by decide,by decide,has_nil⟩).argsW (As:=[stC ex35u,.per (aggP [rgsP ex35u.flt,nlP,rawP (.int .i64 50),nlP,nptP])]) (.same (.per aI .nil))
 rw [ex35_2] at a3
 have a4:=rknow_Same ex35u.know ex35u.know (pcsMid_sz pcM_35)
 rw [decide_eq_true rfl] at a4
 dsimp only at a1 a2 a3
 generalize ex35u = u at *
 refine fi Tryz.func7 Tryz.ntmps7 ?_
 (have kc1:=a1;have kf1:=a2;have kf2:=a3;have kc2:=a4;refine w0 ?_;(repeat' first|refine W2.mk ?_ ?_|refine W1.mk fun hc=>?_);all_goals clear kc2 kf2 kf1 kc1)
 all_goals
   refine rt1 ?_
   refine rv_bool rfl ?_
   first|rfl|(simp;done)
end
/-! ### nothing is sent again -/
theorem PcW.ofm {k:List Pc} {a b:Nat} (h:PcW k a b) (ha:a ≤ 1000) (hb:b ≤ 1000):pcsMid k:=h.mid (by omega) (Nat.le_trans (Nat.mul_le_mul ha hb) (by decide))
theorem sync_tk {s t:Sta} (hs:LgB s) (ht:LgB t) (h1:stR s = true) (h2:stR t = true):TkB t (unkL s.its t.flt t.know) (restK s.know t.flt):=by
 obtain ⟨_,_,_,_,_,c6,_⟩:=stR_un h1
 obtain ⟨_,_,_,_,_,d6,_⟩:=stR_un h2
 have hf:=ht.fl
 have w1:=(hs.kw.rest c6 t.flt).le (c:=65) (d:=256) (by omega) (Nat.le_refl _)
 have w2:=(w1.rest (restK_ok _ _).1 t.flt).le (c:=200) (d:=256) (by omega) (Nat.le_refl _)
 have hu:=unk_len s.its t.flt t.know
 have hi:=hs.il
 exact ⟨ht.st,by omega,by omega,unk_key hs.ik,by have:=ht.il;omega,w1.ofm (by decide) (by decide),by have:=w1.len;omega,fun _=>w2.ofm (by decide) (by decide),fun _=>by have:=w2.len;omega,fun _ _=>(ht.kw.app w2).ofm (by decide) (by decide)⟩
theorem key_all {l:List It} (h:l.all itR = true):kOk l:=fun x hx=>by
 have:=List.all_eq_true.1 h x hx
 unfold itR keyR at this
 simp only [Bool.and_eq_true,decide_eq_true_eq] at this
 omega
theorem sync_B {s t:Sta} (hs:LgB s) (ht:LgB t) (h:(syncS s t).2 = 0):StB (syncS s t).1 ∧ (syncS s t).1.its.length ≤ 48:=by
 obtain ⟨h1,h2,h3,h4,h5,_,_⟩:=sync_again h
 obtain ⟨_,_,_,_,_,c6,_⟩:=stR_un h1
 obtain ⟨_,_,_,_,_,d6,_⟩:=stR_un h2
 have hf:=ht.fl
 have w1:=(hs.kw.rest c6 t.flt).le (c:=65) (d:=256) (by omega) (Nat.le_refl _)
 have w2:=(ht.kw.join w1 d6 (restK_ok _ _).1).le (c:=200) (d:=512) (by omega) (by omega)
 have q1:=mergeK_ln [t.its ++ inL t.flt (unkL s.its t.flt t.know)]
 have q2:=unk_len s.its t.flt t.know
 have q3:=inL_len t.flt (unkL s.its t.flt t.know)
 have q4:=hs.il
 have q5:=ht.il
 simp only [List.flatten_cons,List.flatten_nil,List.append_nil,List.length_append] at q1
 have ha:=key_all (mergeK_all [t.its ++ inL t.flt (unkL s.its t.flt t.know)])
 rw [← h5] at q1 ha
 rw [← h4] at w2
 have hl:=w2.len
 exact ⟨⟨by rw [h3];omega,w2.ofm (by decide) (by decide),by omega,by omega,ha⟩,by omega⟩
section
theorem lawAgain (s t:Sta) (lim:Int) (l1:-9223372036854775808 ≤ lim) (l2:lim ≤ 9223372036854775807):Fn Tryz.prog 3 [stC s,stC t,iC .i64 lim] (boR true):=by
 have a0:=awake35
 have a1:=rst_Long s
 have a2:=rst_Long t
 by_cases hlg:longS s = true ∨ longS t = true
 · cases h1:longS s <;> cases h2:longS t
   case false.false=>rw [h1,h2] at hlg;simp at hlg
   all_goals
     rw [h1] at a1
     rw [h2] at a2
     clear hlg
     refine fi Tryz.func3 Tryz.ntmps3 ?_
     (have kc1:=a0;have kf1:=a1;have kf2:=a2;refine w0 ?_;(repeat' first|refine W2.mk ?_ ?_|refine W1.mk fun hc=>?_);all_goals clear kf2 kf1 kc1)
     refine rt1 ?_
     exact rv_bool rfl rfl
 have h1:longS s = false:=by cases h:longS s;rfl;exact absurd (.inl h) hlg
 have h2:longS t = false:=by cases h:longS t;rfl;exact absurd (.inr h) hlg
 rw [h1] at a1
 rw [h2] at a2
 have hs:=longS_lg h1
 have ht:=longS_lg h2
 have a3:=rst_Right s hs.st
 have a4:=rst_Right t ht.st
 by_cases hr:stR s = false ∨ stR t = false
 · cases r1:stR s <;> cases r2:stR t
   case true.true=>rw [r1,r2] at hr;simp at hr
   all_goals
     rw [r1] at a3
     rw [r2] at a4
     clear hlg hr
     refine fi Tryz.func3 Tryz.ntmps3 ?_
     (have kc1:=a0;have kf1:=a1;have kf2:=a2;have kf3:=a3;have kf4:=a4;refine w0 ?_;(repeat' first|refine W2.mk ?_ ?_|refine W1.mk fun hc=>?_);all_goals clear kf4 kf3 kf2 kf1 kc1)
     refine rt1 ?_
     exact rv_bool rfl rfl
 have r1:stR s = true:=by cases h:stR s;exact absurd (.inl h) hr;rfl
 have r2:stR t = true:=by cases h:stR t;exact absurd (.inr h) hr;rfl
 rw [r1] at a3
 rw [r2] at a4
 have a5:=rex_Sync s t hs.st ht.st (fun _ _=>sync_tk hs ht r1 r2)
 by_cases he:(syncS s t).2 = 0
 · obtain ⟨b1,b2⟩:=sync_B hs ht he
   obtain ⟨g1,g2,g3,g4,g5,g6,g7⟩:=sync_again he
   have gR:stR (syncS s t).1 = true:=by
     have:syncS s t = takeS t (unkL s.its t.flt t.know) (restK s.know t.flt):=by unfold syncS;rw [if_neg (by rw [r1,r2];simp)]
     rw [this] at he ⊢
     exact takeS_right he
   obtain ⟨_,_,_,c4,_,c6,c7,_⟩:=stR_un gR
   have w1:=(hs.kw.rest (stR_un r1).2.2.2.2.2.1 (syncS s t).1.flt).le (c:=65) (d:=256) (by rw [g3];have:=ht.fl;omega) (Nat.le_refl _)
   rw [he] at a5
   have a6:=(pl_Make (s:=s) (F:=(syncS s t).1.flt) (K:=(syncS s t).1.know) (lim:=lim) (R:=[]) (th:=nptP) (hs:=fun _ _=>false) ⟨hs.st,by have:=hs.il;omega,by rw [g3];have:=ht.fl;omega,by decide,b1.kmid,by rw [g6];decide,l1,l2,has_nil⟩).argsW (As:=[stC s,.per (aggP [rgsP (syncS s t).1.flt,pcsP (syncS s t).1.know,rawP (.int .i64 lim),nlP,nptP])]) (.same (.per aI .nil))
   have e6:makeS s (syncS s t).1.flt (syncS s t).1.know lim [] (fun _ _=>false) = ([[]],restK s.know (syncS s t).1.flt,0):=by
     unfold makeS
     rw [if_neg (by rw [mayS_0.2 ⟨r1,c4,c6⟩];simp),g6]
     rfl
   rw [e6] at a6
   have a7:=rkn_Less (restK s.know (syncS s t).1.flt) (syncS s t).1.know (w1.ofm (by decide) (by decide)) b1.kmid (by have:=w1.len;omega) b1.kl
   rw [g7] at a7
   have a8:=ex_Unk s (syncS s t).1 hs.st b1 (by have:=hs.il;omega) (by rw [g3];have:=ht.fl;omega) r1 gR
   rw [g6] at a8
   dsimp only at a6
   clear hlg hr hs ht b1 b2 g1 g2 g3 g4 g5 g6 g7 c4 c6 c7 w1 e6
   generalize (syncS s t).1 = u at *
   generalize restK s.know u.flt = J at *
   refine fi Tryz.func3 Tryz.ntmps3 ?_
   (have kc1:=a0;have kf1:=a1;have kf2:=a2;have kf3:=a3;have kf4:=a4;have kc2:=a5;have kc3:=a6;have kc4:=a7;have kc5:=a8;refine w0 ?_;(repeat' first|refine W2.mk ?_ ?_|refine W1.mk fun hc=>?_);all_goals clear kc5 kc4 kc3 kc2 kf4 kf3 kf2 kf1 kc1)
   all_goals
     refine rt1 ?_
     refine rv_bool rfl ?_
     first|rfl|(simp;done)
 · clear hlg hr hs ht
   generalize (syncS s t).2 = e at *
   refine fi Tryz.func3 Tryz.ntmps3 ?_
   (have kc1:=a0;have kf1:=a1;have kf2:=a2;have kf3:=a3;have kf4:=a4;have kc2:=a5;refine w0 ?_;(repeat' first|refine W2.mk ?_ ?_|refine W1.mk fun hc=>?_);all_goals clear kc2 kf4 kf3 kf2 kf1 kc1)
   refine rt1 ?_
   exact rv_bool rfl rfl
end
end Go.Proofs.YtembiemaiacdfaaGreat
