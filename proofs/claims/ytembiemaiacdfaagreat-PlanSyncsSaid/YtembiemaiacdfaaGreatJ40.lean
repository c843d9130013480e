/- Texts joined: PlR SwB PlS PlM Law34 LawFd. -/
import Derived.Test.YtembiemaiacdfaaGreatJ39
import Derived.Test.YtembiemaiacdfaaGreatJ05
import Derived.Test.YtembiemaiacdfaaGreatJ23
import Derived.Test.YtembiemaiacdfaaGreatJ28
import Derived.Test.YtembiemaiacdfaaGreatJ20
import Derived.Test.YtembiemaiacdfaaGreatJ35
import Derived.Test.YtembiemaiacdfaaGreatJ22
set_option maxRecDepth 10000
set_option maxHeartbeats 8000000
namespace Go.Proofs.YtembiemaiacdfaaGreat
open Go.RowKit
section
theorem Db (s:Sta) (l IN M:List It) (k OW J:List Pc) (mo:Int) (ap:Bool) (f g:It → Bool) (hl:IN.length ≤ 1000000) (hsl:s.its.length ≤ 1000000)
   (a1:Fn Tryz.prog 9 [cY s] (bO true)) (a2:Fn Tryz.prog 38 [di l] (bO true)) (a3:Fn Tryz.prog 39 [bS k] (bO true))
   (a4:Fn Tryz.prog 76 [di l,dg s.flt] (.per (cG IN))) (a5:Fn Tryz.prog 40 [bS k,dg s.flt] (.per (ff OW)))
   (a6:∀ x ∈ IN,Fn Tryz.prog 44 [bS s.know,sC x.key,lZ x.rep x.cnt] (bO (f x))) (a7:∀ x ∈ IN,Fn Tryz.prog 44 [bS OW,sC x.key,lZ x.rep x.cnt] (bO (g x)))
   (a8:Fn Tryz.prog 41 [bS OW,iC .i64 s.id] (fL mo)) (a9:Fn Tryz.prog 29 [di (s.its ++ IN)] (.per (cG M))) (a10:Fn Tryz.prog 42 [di M] (bO ap))
   (a11:Fn Tryz.prog 74 [bS s.know,bS OW] (.per (ff J))) :
   Fn Tryz.prog 31 [cY s,.per (cG l),gM k] (.tup2 (.per (sL (Ke s IN M J mo ap f g).1)) (fL (Ke s IN M J mo ap f g).2)):=by
 unfold Ke
 generalize hp:(fun x=>!f x && !g x) = p
 have a9':Fn Tryz.prog 29 [.bor 7 ([] ++ s.its.map itP ++ IN.map itP)] (.per (cG M)):=by rw [List.nil_append,← List.map_append];exact a9
 clear a9
 refine fi Tryz.func31 Tryz.ntmps31 ?_
 (have kc1:=a1;have kc2:=a2;have kc3:=a3;have kc4:=a4;have kc5:=a5;refine w0 ?_;(repeat' first|refine W2.mk ?_ ?_|refine W1.mk fun hc=>?_);all_goals clear kc5 kc4 kc3 kc2 kc1)
 clear a1 a2 a3 a4 a5
 refine ah (X:=Nat) (fun i=>i ≤ IN.length ∧ (IN.take i).any p = false) (fun i=>aN [(3,.ptr 3 0 0),(6,.ptr 6 0 0),(7,iC .i64 0),(8,.per (cG IN)),(9,gM OW),(10,iC .i64 (i:Nat))] [(3,.box 26 ((o6 s).map Cnt.per)),(6,MT)]) (fun i=>IN.length - i) 0 ⟨Nat.zero_le _,rfl⟩ ?_ ?_
 · exact ab
 · rintro i ⟨h1,h2⟩
   by_cases hi:i < IN.length
   · have c6:=a6 _ (List.getElem_mem hi)
     have c7:=a7 _ (List.getElem_mem hi)
     have hsn:=oH hi h2
     have hh:=ru (p:=p) hi
     have hpx:p IN[i] = (!f IN[i] && !g IN[i]):=by rw [← hp]
     clear a6 a7 a8 a9' a10 a11 hp h2
     generalize f IN[i] = x1 at *
     generalize g IN[i] = x2 at *
     generalize p IN[i] = px at *
     cases x1 with
     | true=>
       subst hpx
       clear hh
       (have kc1:=c6;have kc2:=c7;refine w0 ?_;(repeat' (first|refine W2.mk ?_ ?_|refine W1.mk fun hc=>?_|((first|apply aD rfl|apply aF rfl|apply aG rfl|apply aH rfl);(focus (first|((apply az 5;(focus rfl);first|exact ar ⟨rfl,rfl,rfl⟩ rfl inferInstance inferInstance rfl rfl rfl rfl|exact au ⟨rfl,rfl,rfl⟩ rfl inferInstance inferInstance rfl rfl rfl rfl))|(apply bx;(focus rfl);apply ag rfl rfl rfl rfl rfl;first|((apply az 5;(focus rfl);first|exact ar ⟨rfl,rfl,rfl⟩ rfl inferInstance inferInstance rfl rfl rfl rfl|exact au ⟨rfl,rfl,rfl⟩ rfl inferInstance inferInstance rfl rfl rfl rfl)))));refine w0 ?_)));all_goals clear kc2 kc1)
       refine ⟨i + 1,⟨by omega,hsn⟩,by omega,?_⟩
       exact ab
     | false=>
       cases x2 with
       | true=>
         subst hpx
         clear hh
         (have kc1:=c6;have kc2:=c7;refine w0 ?_;(repeat' (first|refine W2.mk ?_ ?_|refine W1.mk fun hc=>?_|((first|apply aD rfl|apply aF rfl|apply aG rfl|apply aH rfl);(focus (first|((apply az 5;(focus rfl);first|exact ar ⟨rfl,rfl,rfl⟩ rfl inferInstance inferInstance rfl rfl rfl rfl|exact au ⟨rfl,rfl,rfl⟩ rfl inferInstance inferInstance rfl rfl rfl rfl))|(apply bx;(focus rfl);apply ag rfl rfl rfl rfl rfl;first|((apply az 5;(focus rfl);first|exact ar ⟨rfl,rfl,rfl⟩ rfl inferInstance inferInstance rfl rfl rfl rfl|exact au ⟨rfl,rfl,rfl⟩ rfl inferInstance inferInstance rfl rfl rfl rfl)))));refine w0 ?_)));all_goals clear kc2 kc1)
         refine ⟨i + 1,⟨by omega,hsn⟩,by omega,?_⟩
         exact ab
       | false=>
         subst hpx
         rw [if_pos (hh rfl)]
         clear hsn hh
         (have kc1:=c6;have kc2:=c7;refine w0 ?_;(repeat' (first|refine W2.mk ?_ ?_|refine W1.mk fun hc=>?_|((first|apply aD rfl|apply aF rfl|apply aG rfl|apply aH rfl);(focus (first|((apply az 5;(focus rfl);first|exact ar ⟨rfl,rfl,rfl⟩ rfl inferInstance inferInstance rfl rfl rfl rfl|exact au ⟨rfl,rfl,rfl⟩ rfl inferInstance inferInstance rfl rfl rfl rfl))|(apply bx;(focus rfl);apply ag rfl rfl rfl rfl rfl;first|((apply az 5;(focus rfl);first|exact ar ⟨rfl,rfl,rfl⟩ rfl inferInstance inferInstance rfl rfl rfl rfl|exact au ⟨rfl,rfl,rfl⟩ rfl inferInstance inferInstance rfl rfl rfl rfl)))));refine w0 ?_)));all_goals clear kc2 kc1)
         refine j8 ?_ ?_
         · exact eX (cq inferInstance inferInstance rfl rfl rfl rfl rfl rfl) aI
         · exact aA rfl rfl
   · rw [List.take_of_length_le (by omega)] at h2
     rw [h2,if_neg (by simp)]
     clear a6 a7 hp h2
     by_cases q1:mo > s.cnt
     · rw [if_pos q1]
       clear a9' a10 a11
       (have kc1:=a8;refine w0 ?_;(repeat' first|refine W2.mk ?_ ?_|refine W1.mk fun hc=>?_);all_goals clear kc1)
       refine j8 ?_ ?_
       · exact eX (cq inferInstance inferInstance rfl rfl rfl rfl rfl rfl) aI
       · exact aA rfl rfl
     rw [if_neg q1]
     cases ap with
     | false=>
       rw [if_pos rfl]
       clear a11
       (have kc1:=a8;refine w0 ?_;(repeat' first|refine W2.mk ?_ ?_|refine W1.mk fun hc=>?_);all_goals clear kc1)
       refine js (bz 77 700 61 7 rfl rfl) ?_
       (have kc1:=a9';have kc2:=a10;refine w0 ?_;(repeat' first|refine W2.mk ?_ ?_|refine W1.mk fun hc=>?_);all_goals clear kc2 kc1)
       refine j8 ?_ ?_
       · exact eX (cq inferInstance inferInstance rfl rfl rfl rfl rfl rfl) aI
       · exact aA rfl rfl
     | true=>
       rw [if_neg (by simp)]
       by_cases q2:M.length > 4096
       · rw [if_pos q2]
         clear a11
         (have kc1:=a8;refine w0 ?_;(repeat' first|refine W2.mk ?_ ?_|refine W1.mk fun hc=>?_);all_goals clear kc1)
         refine js (bz 77 700 61 7 rfl rfl) ?_
         (have kc1:=a9';have kc2:=a10;refine w0 ?_;(repeat' first|refine W2.mk ?_ ?_|refine W1.mk fun hc=>?_);all_goals clear kc2 kc1)
         refine j8 ?_ ?_
         · exact eX (cq inferInstance inferInstance rfl rfl rfl rfl rfl rfl) aI
         · exact aA rfl rfl
       · rw [if_neg q2]
         (have kc1:=a8;refine w0 ?_;(repeat' first|refine W2.mk ?_ ?_|refine W1.mk fun hc=>?_);all_goals clear kc1)
         refine js (bz 77 700 61 7 rfl rfl) ?_
         (have kc1:=a9';have kc2:=a10;have kc3:=a11;refine w0 ?_;(repeat' first|refine W2.mk ?_ ?_|refine W1.mk fun hc=>?_);all_goals clear kc3 kc2 kc1)
         refine j8 ?_ ?_
         · exact cq inferInstance inferInstance rfl rfl rfl rfl rfl rfl
         · exact aA rfl rfl
theorem zN (s:Sta) (l:List It) (k:List Pc) (a1:Fn Tryz.prog 9 [cY s] (bO false)):Fn Tryz.prog 31 [cY s,.per (cG l),gM k] (.tup2 (.per (sL {})) (fL 41)):=by
 refine fi Tryz.func31 Tryz.ntmps31 ?_
 (have kc1:=a1;refine w0 ?_;(repeat' first|refine W2.mk ?_ ?_|refine W1.mk fun hc=>?_);all_goals clear kc1)
 refine j8 ?_ ?_
 · exact eX (cq inferInstance inferInstance rfl rfl rfl rfl rfl rfl) aI
 · exact aA rfl rfl
theorem Dc (s:Sta) (l:List It) (k:List Pc) (b c:Bool) (h:(b && c) = false) (a1:Fn Tryz.prog 9 [cY s] (bO true)) (a2:Fn Tryz.prog 38 [di l] (bO b)) (a3:Fn Tryz.prog 39 [bS k] (bO c)) :
   Fn Tryz.prog 31 [cY s,.per (cG l),gM k] (.tup2 (.per (sL {})) (fL 2)):=by
 cases b <;> cases c
 case true.true=>cases h
 all_goals
   refine fi Tryz.func31 Tryz.ntmps31 ?_
   (have kc1:=a1;have kc2:=a2;have kc3:=a3;refine w0 ?_;(repeat' first|refine W2.mk ?_ ?_|refine W1.mk fun hc=>?_);all_goals clear kc3 kc2 kc1)
   refine j8 ?_ ?_
   · exact eX (cq inferInstance inferInstance rfl rfl rfl rfl rfl rfl) aI
   · exact aA rfl rfl
theorem xA (s t:Sta) (f g:It → Bool) (hl:s.its.length ≤ 1000000) (a1:∀ x ∈ s.its,Fn Tryz.prog 43 [dg t.flt,sC x.key] (bO (f x))) (a2:∀ x ∈ s.its,Fn Tryz.prog 44 [bS t.know,sC x.key,lZ x.rep x.cnt] (bO (g x))) :
   Fn Tryz.prog 45 [cY s,cY t] (wC (s.its.filter fun x=>f x && !g x)):=by
 generalize hT:(s.its.filter fun x=>f x && !g x) = T
 refine fi Tryz.func45 Tryz.ntmps45 ?_
 (refine w0 ?_;(repeat' first|refine W2.mk ?_ ?_|refine W1.mk fun hc=>?_))
 refine ck (bz 5 600 61 7 rfl rfl) ?_
 refine ah (X:=Nat × List It) (fun x=>x.1 ≤ s.its.length ∧ x.2.length ≤ x.1 ∧ x.2 ++ (s.its.drop x.1).filter (fun x=>f x && !g x) = T)
   (fun x=>aN [(2,.ptr 2 0 0),(3,.ptr 3 0 0),(5,.row 600 0),(6,iC .i64 (x.1:Nat))] [(2,.box 26 ((o6 s).map Cnt.per)),(3,.box 26 ((o6 t).map Cnt.per)),(600,dR x.2)]) (fun x=>s.its.length - x.1) (0,[]) ⟨Nat.zero_le _,by simp,by simpa using hT⟩ ?_ ?_
 · exact ab
 · rintro ⟨i,ac⟩ ⟨h1,h2,h3⟩
   simp only at h1 h2 h3 ⊢
   by_cases hi:i < s.its.length
   · have c1:=a1 _ (List.getElem_mem hi)
     have c2:=a2 _ (List.getElem_mem hi)
     rw [List.drop_eq_getElem_cons hi,List.filter_cons] at h3
     clear a1 a2
     cases hf:f s.its[i] with
     | false=>
       rw [hf] at h3 c1
       (have kc1:=c1;have kc2:=c2;refine w0 ?_;(repeat' first|refine W2.mk ?_ ?_|refine W1.mk fun hc=>?_);all_goals clear kc2 kc1)
       refine ⟨(i + 1,ac),⟨by simp only;omega,by simp only;omega,by simpa using h3⟩,by simp only;omega,?_⟩
       exact ab
     | true=>
       cases hg:g s.its[i] with
       | true=>
         rw [hf,hg] at h3
         rw [hf] at c1
         rw [hg] at c2
         (have kc1:=c1;have kc2:=c2;refine w0 ?_;(repeat' first|refine W2.mk ?_ ?_|refine W1.mk fun hc=>?_);all_goals clear kc2 kc1)
         refine ⟨(i + 1,ac),⟨by simp only;omega,by simp only;omega,by simpa using h3⟩,by simp only;omega,?_⟩
         exact ab
       | false=>
         rw [hf,hg] at h3
         rw [hf] at c1
         rw [hg] at c2
         (have kc1:=c1;have kc2:=c2;refine w0 ?_;(repeat' first|refine W2.mk ?_ ?_|refine W1.mk fun hc=>?_);all_goals clear kc2 kc1)
         refine ⟨(i + 1,ac ++ [s.its[i]]),⟨by simp only;omega,by simp;omega,by simpa using h3⟩,by simp only;omega,ak (aM 600 601) (ak (aM 601 600) ?_)⟩
         exact ab
   · have h3:ac = T:=by rw [← h3,List.drop_of_length_le (by omega)];simp
     clear a1 a2
     (refine w0 ?_;(repeat' first|refine W2.mk ?_ ?_|refine W1.mk fun hc=>?_))
     refine aQ ?_
     exact dq rfl rfl rfl (by rw [h3])
theorem xB (s t:Sta) (J:List Pc) (a1:Fn Tryz.prog 40 [bS s.know,dg t.flt] (.per (ff J))):Fn Tryz.prog 46 [cY s,cY t] (.per (ff J)):=by
 refine fi Tryz.func46 Tryz.ntmps46 ?_
 (have kc1:=a1;refine w0 ?_;(repeat' first|refine W2.mk ?_ ?_|refine W1.mk fun hc=>?_);all_goals clear kc1)
 refine aQ ?_
 exact cu rfl
theorem Dd (s t:Sta) (p q:Bool) (h:(p && q) = false) (a1:Fn Tryz.prog 9 [cY s] (bO p)) (a2:Fn Tryz.prog 9 [cY t] (bO q)):Fn Tryz.prog 10 [cY s,cY t] (.tup2 (.per (sL {})) (fL 41)):=by
 cases p <;> cases q
 case true.true=>cases h
 all_goals
   refine fi Tryz.func10 Tryz.ntmps10 ?_
   (have kf1:=a1;have kf2:=a2;refine w0 ?_;(repeat' first|refine W2.mk ?_ ?_|refine W1.mk fun hc=>?_);all_goals clear kf2 kf1)
   refine j8 ?_ ?_
   · exact eX (cq inferInstance inferInstance rfl rfl rfl rfl rfl rfl) aI
   · exact aA rfl rfl
theorem De (s t u:Sta) (e:Int) (U:List It) (J:List Pc) (a1:Fn Tryz.prog 9 [cY s] (bO true)) (a2:Fn Tryz.prog 9 [cY t] (bO true)) (a3:Fn Tryz.prog 45 [cY s,cY t] (.per (cG U))) (a4:Fn Tryz.prog 46 [cY s,cY t] (.per (ff J)))
   (a5:Fn Tryz.prog 31 [cY t,.per (cG U),gM J] (.tup2 (.per (sL u)) (fL e))):Fn Tryz.prog 10 [cY s,cY t] (.tup2 (.per (sL u)) (fL e)):=by
 refine fi Tryz.func10 Tryz.ntmps10 ?_
 (have kf1:=a1;have kf2:=a2;have kc1:=a3;have kc2:=a4;have kc3:=a5;refine w0 ?_;(repeat' first|refine W2.mk ?_ ?_|refine W1.mk fun hc=>?_);all_goals clear kc3 kc2 kc1 kf2 kf1)
 refine j8 ?_ ?_
 · exact cq inferInstance inferInstance rfl rfl rfl rfl rfl rfl
 · exact aA rfl rfl
end
structure oJ (k:List Pc) (a b:Nat):Prop where
 len:k.length ≤ a
 set:∀ p ∈ k,p.set.length ≤ 16 ∧ (p.set.flatMap Kn.runs).length ≤ b
theorem oJ.mid {k:List Pc} {a b:Nat} (h:oJ k a b) (ha:a * 16 ≤ 1000000) (hb:a * b ≤ 1000000):b0 k:=by
 have key:∀ l:List Pc,(∀ p ∈ l,p.set.length ≤ 16 ∧ (p.set.flatMap Kn.runs).length ≤ b) → (l.flatMap Pc.set).length ≤ l.length * 16 ∧ ((l.flatMap Pc.set).flatMap Kn.runs).length ≤ l.length * b:=by
   intro l
   induction l with
   | nil=>intro _;simp
   | cons p l ih=>
     intro h
     obtain ⟨h1,h2⟩:=h p List.mem_cons_self
     obtain ⟨i1,i2⟩:=ih (fun q hq=>h q (List.mem_cons_of_mem _ hq))
     rw [List.flatMap_cons,List.flatMap_append,List.length_append,List.length_append,List.length_cons,Nat.succ_mul,Nat.succ_mul]
     constructor <;> omega
 obtain ⟨h1,h2⟩:=key k h.set
 have h3:k.length * 16 ≤ a * 16:=Nat.mul_le_mul_right _ h.len
 have h4:k.length * b ≤ a * b:=Nat.mul_le_mul_right _ h.len
 have h5:=h.len
 exact ⟨by omega,by omega,by omega⟩
theorem oJ.le {k:List Pc} {a b c d:Nat} (h:oJ k a b) (h1:a ≤ c) (h2:b ≤ d):oJ k c d:=⟨by have:=h.len;omega,fun p hp=>by have:=h.set p hp;omega⟩
theorem oJ.get {k:List Pc} {a b:Nat} (h:oJ k a b) (s:ByteArray):(cH k s).length ≤ 16 ∧ ((cH k s).flatMap Kn.runs).length ≤ b:=by
 have key:∀ l:List Pc,(∀ p ∈ l,p.set.length ≤ 16 ∧ (p.set.flatMap Kn.runs).length ≤ b) → (cH l s).length ≤ 16 ∧ ((cH l s).flatMap Kn.runs).length ≤ b:=by
   intro l
   induction l with
   | nil=>intro _;rw [jD];simp
   | cons p l ih=>
     intro h
     by_cases q:bL p.rg s = true
     · rw [g9 q];exact h p List.mem_cons_self
     · rw [dN q];exact ih (fun q hq=>h q (List.mem_cons_of_mem _ hq))
 exact key k h.set
theorem xC {k:List Pc} {m:Int} (h:eI k m = false):oJ k m.toNat 256:=by
 obtain ⟨h1,h2⟩:=y7 h
 refine ⟨by omega,fun p hp=>?_⟩
 obtain ⟨_,_,h3⟩:=h2 p hp
 obtain ⟨g1,g2⟩:=yT h3
 have key:∀ s:List Kn,(∀ x ∈ s,(x.runs.length:Int) ≤ 16) → (s.flatMap Kn.runs).length ≤ 16 * s.length:=by
   intro s
   induction s with
   | nil=>intro _;simp
   | cons x s ih=>
     intro h
     have h1:=h x List.mem_cons_self
     have h2:=ih (fun y hy=>h y (List.mem_cons_of_mem _ hy))
     rw [List.flatMap_cons,List.length_append,List.length_cons];omega
 have:=key _ g2
 omega
theorem xD (X:List Kn):(em ofR X).length ≤ 16:=(pt (X:=X) (Nat.le_refl _)).1
theorem oJ.rest {k:List Pc} {a b:Nat} (h:oJ k a b) (ok:aO k) (f:List Rg):oJ (aR k f) (1 + 2 * (a + f.length)) b:=by
 obtain ⟨h1,h2⟩:=dp k f
 refine ⟨?_,fun p hp=>?_⟩
 · have q1:=nc (iH k f) (kn k f)
   have q2:=jC (bB k ++ f) [emB]
   have q3:=h.len
   have q4:(bB k).length = k.length:=by unfold bB;simp
   rw [List.length_append,q4,List.length_singleton] at q2
   unfold aR
   have q5:(kn k f).length = (gF [emB] (bB k ++ f)).length:=rfl
   omega
 · obtain ⟨_,s,h3⟩:=ld h1 p hp
   rw [← h3,h2]
   unfold iH
   split
   · rw [dA ok];exact h.get s
   · simp
theorem oJ.join {k l:List Pc} {a b c d:Nat} (h:oJ k a b) (h':oJ l c d) (ok:aO k) (ok':aO l):oJ (ki (k ++ l)) (1 + 2 * (a + c)) (b + d):=by
 obtain ⟨h1,h2⟩:=fF (k ++ l)
 refine ⟨?_,fun p hp=>?_⟩
 · have q1:=nc (fh (k ++ l)) (fN (k ++ l))
   have q2:=qy (k ++ l)
   have q3:=h.len
   have q4:=h'.len
   rw [List.length_append] at q2
   unfold ki
   omega
 · obtain ⟨_,s,h3⟩:=ld h1 p hp
   rw [← h3,h2,oy]
   refine ⟨xD _,?_⟩
   have q1:=sF (fh k s ++ fh l s)
   rw [List.flatMap_append,List.length_append,dA ok,dA ok'] at q1
   rw [dA ok,dA ok']
   have q2:=(h.get s).2
   have q3:=(h'.get s).2
   omega
inductive CW:List Cnt → List Cnt → Prop
 | nil:CW [] []
 | same {c:Cnt} {l l':List Cnt} (k:CW l l'):CW (c :: l) (c :: l')
 | per {A B:PV} {l l':List Cnt} (h:Dr A B) (k:CW l l'):CW (.per A :: l) (.per B :: l')
theorem CW.len {l l':List Cnt} (h:CW l l'):l.length = l'.length:=by
 induction h with
 | nil=>rfl
 | same k ih=>simp [ih]
 | per h k ih=>simp [ih]
theorem CW.get {l l':List Cnt} (h:CW l l'):∀ (j:Nat) (c':Cnt),l'[j]? = some c' → ∃ c,l[j]? = some c ∧ (c = c' ∨ ∃ A B,c = .per A ∧ c' = .per B ∧ Dr A B):=by
 induction h with
 | nil=>intro j c h;simp at h
 | @same c l l' k ih=>
   intro j d hj
   cases j with
   | zero=>simp at hj;subst hj;exact ⟨c,rfl,.inl rfl⟩
   | succ j=>simpa using ih j d (by simpa using hj)
 | @per A B l l' h k ih=>
   intro j d hj
   cases j with
   | zero=>simp at hj;subst hj;exact ⟨_,rfl,.inr ⟨A,B,rfl,rfl,h⟩⟩
   | succ j=>simpa using ih j d (by simpa using hj)
theorem Fn.argsW {P:Program} {f:FuncId} {As Bs:List Cnt} {r:Ret} (h:Fn P f Bs r) (k:CW As Bs):Fn P f As r:=⟨h.ent,fun N0 w vs hN ha=>by
 refine h.run N0 w vs hN ⟨by rw [ha.1,k.len],fun i u c hi hj=>?_⟩
 obtain ⟨c0,q1,q2⟩:=k.get i c hj
 rcases q2 with rfl|⟨A,B,rfl,rfl,q3⟩
 · exact ha.2 i u c0 hi q1
 · exact q3 _ _ _ (ha.2 i u (.per A) hi q1)⟩
theorem oJ.app {k l:List Pc} {a b c d:Nat} (h:oJ k a b) (h':oJ l c d):oJ (k ++ l) (a + c) (max b d):=⟨by rw [List.length_append];have:=h.len;have:=h'.len;omega,fun p hp=>by
 rcases List.mem_append.1 hp with q|q
 · have:=h.set p q;omega
 · have:=h'.set p q;omega⟩
structure Lj (s:Sta) (l:List It) (k:List Pc):Prop where
 st:Ds s
 fl:s.flt.length ≤ 12
 ll:l.length ≤ 100000
 lk:jG l
 sl:s.its.length ≤ 100000
 km:b0 k
 kl:k.length ≤ 100000
 rm:aO k → b0 (aR k s.flt)
 rl:aO k → (aR k s.flt).length ≤ 100000
 jm:aO k → aO s.know → b0 (s.know ++ aR k s.flt)
theorem xE {s:Sta} {l:List It} {k:List Pc} (h1:ef s = true) (h2:cX l = true) (h3:aO k) :
   dS s l k = Ke s (jU s.flt l) (aV [s.its ++ jU s.flt l]) (ki (s.know ++ aR k s.flt)) (ee (aR k s.flt) s.id) (dF (aV [s.its ++ jU s.flt l])) (fun x=>aZ s.know x.key x.rep x.cnt) (fun x=>aZ (aR k s.flt) x.key x.rep x.cnt):=by
 unfold dS Ke
 rw [if_neg (by rw [h1];simp),if_neg (by rw [h2];simp [h3])]
theorem xF {s:Sta} {l:List It} {k:List Pc} (h1:ef s = false):dS s l k = ({},41):=by unfold dS;rw [if_pos h1]
theorem Bc {s:Sta} {l:List It} {k:List Pc} (h1:ef s = true) (h2:(cX l && decide (aO k)) = false):dS s l k = ({},2):=by
 unfold dS
 rw [if_neg (by rw [h1];simp),if_pos]
 rw [Bool.and_eq_false_iff,decide_eq_false_iff_not] at h2
 exact h2
theorem Bd {f:List Rg} {l:List It} (h:jG l):jG (jU f l):=fun x hx=>h x (List.mem_filter.1 hx).1
theorem Bf (f:List Rg) (l:List It):(jU f l).length ≤ l.length:=List.length_filter_le _ _
theorem Lk (a b:List It):aV [a,b] = aV [a ++ b]:=by unfold aV;simp
theorem mG (ls:List (List It)):(aV ls).all itR = true:=List.all_eq_true.2 (List.filter_eq_self.1 ul)
theorem lV (ls:List (List It)):(aV ls).length ≤ ls.flatten.length:=Nat.le_trans (qG ls) (List.length_filter_le _ _)
theorem oY {s:Sta} {l:List It} {k:List Pc} (h:Lj s l k):jG (jU s.flt l) ∧ (jU s.flt l).length ≤ 100000 ∧ (aV [s.its ++ jU s.flt l]).length ≤ 200000 ∧ jG (s.its ++ jU s.flt l):=by
 have h1:=Bf s.flt l
 have h2:=h.ll
 have h3:=h.sl
 refine ⟨Bd h.lk,by omega,?_,fun x hx=>?_⟩
 · have:=lV [s.its ++ jU s.flt l]
   simp only [List.flatten_cons,List.flatten_nil,List.append_nil,List.length_append] at this
   omega
 · rcases List.mem_append.1 hx with q|q
   · exact h.st.keys x q
   · exact Bd h.lk x q
theorem Bg (s:Sta) (l:List It) (k:List Pc) (h:Lj s l k):Fn Tryz.prog 28 [cY s,.per (cG l),gM k] (.tup2 (.per (sL (dS s l k).1)) (fL (dS s l k).2)):=by
 have a1:=qU s h.st
 cases hr:ef s with
 | false=>
   rw [hr] at a1
   rw [xF hr]
   exact Da s l k a1
 | true=>
   rw [hr] at a1
   have a2:=sE l h.lk (by have:=h.ll;omega) (cX l) im
   have a3:=iG k (bM h.km) (decide (aO k)) (by simp)
   by_cases hb:(cX l && decide (aO k)) = false
   · rw [Bc hr hb]
     exact Hd s l k _ _ hb a1 a2 a3
   · have hb:cX l = true ∧ aO k:=by simpa using hb
     obtain ⟨b1,b2⟩:=hb
     rw [b1] at a2
     rw [decide_eq_true b2] at a3
     obtain ⟨c1,c2,c3,c4,c5,c6,c7,c8,c9,c10⟩:=ei hr
     obtain ⟨f1,f2,f3,f4⟩:=oY h
     have hfl:=h.fl
     have hll:=h.ll
     have hsl:=h.sl
     have hz:eV (aR k s.flt):=bM (h.rm b2)
     rw [xE hr b1 b2]
     refine Hc s l (jU s.flt l) _ k (aR k s.flt) _ _ _ _ _ (by omega) a1 a2 a3 (A8 l s.flt h.lk (by omega) h.fl).frz ?_ (fun x hx=>?_) (fun x hx=>?_) ?_ ?_ ?_ ?_ ?_
     · exact (lc k s.flt h.km c4 (by omega) (by have:=h.kl;omega) (ux s.flt c4 (by omega))).frz
     · exact uu s.know x.key x.rep x.cnt (bM h.st.kmid) (f1 x hx)
     · exact uu (aR k s.flt) x.key x.rep x.cnt hz (f1 x hx)
     · exact AV _ _ hz
     · have:=(qE [s.its,jU s.flt l] (by
         refine Nat.le_trans (List.length_filter_le _ _) ?_
         simp;omega) (by simp) (fun m hm=>by
         simp at hm
         rcases hm with rfl|rfl <;> omega)).frz
       rw [Lk] at this
       exact this
     · exact wV _ (mG _) (by omega)
     · have:=(AJ [s.know,aR k s.flt] (by simp) (by simpa using h.jm b2 c6)).frz
       rw [show ([s.know,aR k s.flt]:List (List Pc)).flatten = s.know ++ aR k s.flt by simp] at this
       exact this
     · exact (qZ s.flt (by omega)).frz
theorem xG (s:Sta) (l:List It) (k:List Pc) (h:Lj s l k):Fn Tryz.prog 31 [cY s,.per (cG l),gM k] (.tup2 (.per (sL (dS s l k).1)) (fL (dS s l k).2)):=by
 have a1:=jS s h.st
 cases hr:ef s with
 | false=>
   rw [hr] at a1
   rw [xF hr]
   exact zN s l k a1
 | true=>
   rw [hr] at a1
   have a2:=wF l h.lk (by have:=h.ll;omega) (cX l) im
   have a3:=oV k (bM h.km) (decide (aO k)) (by simp)
   by_cases hb:(cX l && decide (aO k)) = false
   · rw [Bc hr hb]
     exact Dc s l k _ _ hb a1 a2 a3
   · have hb:cX l = true ∧ aO k:=by simpa using hb
     obtain ⟨b1,b2⟩:=hb
     rw [b1] at a2
     rw [decide_eq_true b2] at a3
     obtain ⟨c1,c2,c3,c4,c5,c6,c7,c8,c9,c10⟩:=ei hr
     obtain ⟨f1,f2,f3,f4⟩:=oY h
     have hfl:=h.fl
     have hll:=h.ll
     have hsl:=h.sl
     have hz:eV (aR k s.flt):=bM (h.rm b2)
     rw [xE hr b1 b2]
     refine Db s l (jU s.flt l) _ k (aR k s.flt) _ _ _ _ _ (by omega) (by omega) a1 a2 a3 (Lf l s.flt h.lk (by omega) (by omega)).frz ?_ (fun x hx=>?_) (fun x hx=>?_) ?_ ?_ ?_ ?_
     · exact (kt k s.flt h.km (by have:=h.kl;omega) (by omega)).frz
     · exact nl s.know x.key x.rep x.cnt (bM h.st.kmid) (f1 x hx)
     · exact nl (aR k s.flt) x.key x.rep x.cnt hz (f1 x hx)
     · exact xw _ _ (h.rm b2)
     · exact (s8 (s.its ++ jU s.flt l) f4 (by rw [List.length_append];omega)).frz
     · exact sZ _ (by omega)
     · exact (xx s.know (aR k s.flt) h.st.kmid (h.rm b2) (h.jm b2 c6) h.st.kl (by have:=h.rl b2;omega)).frz
theorem He (s t:Sta) (hs:Ds s) (ht:Ds t) (hk:ef s = true → ef t = true → Lj t (dh s.its t.flt t.know) (aR s.know t.flt)):Fn Tryz.prog 10 [cY s,cY t] (.tup2 (.per (sL (ej s t).1)) (fL (ej s t).2)):=by
 have a1:=jS s hs
 have a2:=jS t ht
 unfold ej
 by_cases hb:ef s = false ∨ ef t = false
 · rw [if_pos hb]
   exact Dd s t _ _ (by rw [Bool.and_eq_false_iff];exact hb) a1 a2
 · rw [if_neg hb]
   have hb:ef s = true ∧ ef t = true:=by simpa using hb
   have hT:=hk hb.1 hb.2
   rw [hb.1] at a1
   rw [hb.2] at a2
   have hf:=hT.fl
   have hU:=(xA s t (fun x=>bg t.flt x.key) (fun x=>aZ t.know x.key x.rep x.cnt) hs.its (fun x hx=>k4 t.flt x.key (by omega) (hs.keys x hx)) (fun x hx=>nl t.know x.key x.rep x.cnt (bM ht.kmid) (hs.keys x hx))).frz
   exact De s t _ _ _ _ a1 a2 hU (xB s t _ (kt s.know t.flt hs.kmid hs.kl (by omega)).frz) (xG t _ _ hT)
def xH (s:Sta) (F:List Rg) (K:List Pc):Int:=Lg (ef s) (decide (cV F)) (decide (aO K))
def iL (s:Sta) (F:List Rg) (K:List Pc) (lim:Int) (R:List Rg) (hs:Int → Int → Bool):List (List It) × List Pc × Int:=
 if xH s F K ≠ 0 then ([],[],xH s F K)
 else if iJ lim (fy R hs (dh s.its F K)) = 0 then (o7 lim (fy R hs (dh s.its F K)),aR s.know F,0)
 else ([],[],iJ lim (fy R hs (dh s.its F K)))
theorem zO {s:Sta} {F:List Rg} {K:List Pc}:xH s F K = 0 ↔ ef s = true ∧ cV F ∧ aO K:=by
 unfold xH Lg
 cases ef s
 · simp
 · by_cases h1:cV F <;> by_cases h2:aO K <;> simp [h1,h2]
theorem Ll (l:List It) (F:List Rg) (K:List Pc):(Kd F l).filter (fun x=>!aZ K x.key x.rep x.cnt) = dh l F K:=by
 unfold Kd dh
 rw [List.filter_filter]
 exact List.filter_congr fun x _=>by rw [Bool.and_comm]
theorem nG (l:List It) (F:List Rg) (K:List Pc):(dh l F K).length ≤ l.length:=List.length_filter_le _ _
theorem Bh {l:List It} {F:List Rg} {K:List Pc} (h:jG l):jG (dh l F K):=fun x hx=>h x (List.mem_filter.1 hx).1
structure L4 (s:Sta) (F:List Rg) (K:List Pc) (lim:Int) (R:List Rg) (th:PV) (hs:Int → Int → Bool):Prop where
 st:Ds s
 sl:s.its.length ≤ 100000
 fl:F.length ≤ 12
 rl:R.length ≤ 12
 km:b0 K
 l1:-9223372036854775808 ≤ lim
 l2:lim ≤ 9223372036854775807
 th:∀ r c,Fn Tryz.prog 186 [.per th,lZ r c] (bO (hs r c))
section
variable {s:Sta} {F:List Rg} {K:List Pc} {lim:Int} {R:List Rg} {th:PV} {hs:Int → Int → Bool}
theorem JO (h:L4 s F K lim R th hs):Fn Tryz.prog 47 [cY s,mF F K lim R th] (fL (xH s F K)):=by
 have hf:=h.fl
 exact Lh s F K lim R th _ _ _ (qU s h.st) (jA F (by omega) (decide (cV F)) (by simp)) (iG K (bM h.km) (decide (aO K)) (by simp))
theorem xI (h:L4 s F K lim R th hs):Fn Tryz.prog 49 [cY s,mF F K lim R th] (.per (cG (dh s.its F K))):=by
 have hl:=h.sl
 have hi:(Kd F s.its).length ≤ s.its.length:=List.length_filter_le _ _
 have:=(zJ s F K lim R th (Kd F s.its) (fun x=>aZ K x.key x.rep x.cnt) (by omega) (A8 s.its F h.st.keys (by omega) h.fl).frz (fun x hx=>uu K x.key x.rep x.cnt (bM h.km) (h.st.keys x (List.mem_filter.1 hx).1))).frz
 rw [Ll] at this
 exact this
theorem Hf (h:L4 s F K lim R th hs):Fn Tryz.prog 48 [mF F K lim R th,.per (cG (dh s.its F K))] (.tup2 (.per (ct 1 ((o7 lim (fy R hs (dh s.its F K))).map fun c=>[cG c]))) (fL (iJ lim (fy R hs (dh s.its F K))))):=by
 have h1:=(G8 R h.rl th hs h.th (dh s.its F K) (Bh h.st.keys) (by have:=nG s.its F K;have:=h.sl;omega)).frz
 have hl:(fy R hs (dh s.its F K)).length ≤ 1000000000:=by
   rw [sX];have:=nG s.its F K;have:=h.sl;omega
 exact JH F K lim R th _ _ _ _ h1 (xq lim _ hl h.l1 h.l2)
theorem uF (h:L4 s F K lim R th hs):Fn Tryz.prog 11 [cY s,mF F K lim R th] (.tup2 (.per (sY (iL s F K lim R hs).1 (iL s F K lim R hs).2.1)) (fL (iL s F K lim R hs).2.2)):=by
 unfold iL
 have a1:=JO h
 by_cases c:xH s F K ≠ 0
 · rw [if_pos c]
   exact G3 s F K lim R th _ c a1
 · rw [if_neg c]
   have c:=Decidable.not_not.1 c
   rw [c] at a1
   obtain ⟨c1,c2,c3⟩:=zO.1 c
   have hf:=h.fl
   have:=G4 s F K lim R th _ _ _ (aR s.know F) a1 (xI h) (Hf h) (fun _=>(lc s.know F h.st.kmid c2 (by omega) h.st.kl (ux F c2 (by omega))).frz)
   by_cases e:iJ lim (fy R hs (dh s.its F K)) = 0
   · rw [if_pos e] at this ⊢
     rw [e] at this
     exact this
   · rw [if_neg e] at this ⊢
     exact this
end
theorem Df (limit:Int) (l:List It):(lm limit l).D.flatten ++ (lm limit l).c.getD [] = l:=by
 have key:∀ (m:List It) (s:Spl),(m.foldl (nz limit) s).D.flatten ++ (m.foldl (nz limit) s).c.getD [] = s.D.flatten ++ s.c.getD [] ++ m:=by
   intro m
   induction m with
   | nil=>intro s;simp
   | cons x m ih=>
     intro s
     rw [List.foldl_cons,ih]
     obtain ⟨D,c,left⟩:=s
     cases c with
     | none=>simp [nz]
     | some c=>
       unfold nz;simp only
       split <;> simp
 have:=key l ⟨[],none,-1⟩
 simpa [lm] using this
theorem Bi {limit:Int} {l:List It} (h:iJ limit l = 0):∀ x ∈ l,A6 limit x:=by
 obtain ⟨m,hm,hall,hbad,_⟩:=A7 limit l
 by_cases hlt:m < l.length
 · rcases hbad hlt with ⟨_,hb⟩|⟨_,_,hb⟩ <;> omega
 · rw [List.take_of_length_le (by omega)] at hall;exact hall
theorem Bj {limit:Int} {l:List It} (h:iJ limit l = 0):o7 limit l = nA (lm limit l):=by
 unfold o7 nA;exact if_pos h
theorem Dg {limit:Int} {l:List It} (h2:limit ≤ 9223372036854775807) (h:iJ limit l = 0):(o7 limit l).flatten = l:=by
 have hI:=Ld limit l h2 (Bi h)
 have hF:=Df limit l
 rw [Bj h]
 unfold nA
 generalize lm limit l = s at *
 obtain ⟨D,c,left⟩:=s
 cases c with
 | none=>have:=(hI.none1 rfl).2;simp only at this;subst this;simpa using hF
 | some c=>simpa using hF
theorem Hg {limit:Int} {l:List It} (h2:limit ≤ 9223372036854775807) (h:iJ limit l = 0):(o7 limit l).length ≤ max 1 l.length ∧ 1 ≤ (o7 limit l).length:=by
 have hI:=Ld limit l h2 (Bi h)
 rw [Bj h]
 unfold nA
 generalize lm limit l = s at *
 obtain ⟨D,c,left⟩:=s
 cases c with
 | none=>simp;omega
 | some c=>have q4:=hI.len;have q5:=hI.ne c rfl;simp at q4 ⊢;omega
section
end
end Go.Proofs.YtembiemaiacdfaaGreat
