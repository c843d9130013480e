/- Texts joined: MsG MsH MsR MsU. -/
import Derived.Test.YthlffkjpklpkfaaGreatJ20
import Derived.Test.YthlffkjpklpkfaaGreatJ07
import Derived.Test.YthlffkjpklpkfaaGreatJ23
import Derived.Test.YthlffkjpklpkfaaGreatJ15
set_option maxRecDepth 10000
set_option maxHeartbeats 8000000
namespace Go.Proofs.YthlffkjpklpkfaaGreat
open Go.RowKit
theorem hd_ok {l:List UInt8} (h:(rdHd l).2.2 = 0):1 ≤ (rdHd l).1.kind ∧ (rdHd l).1.kind ≤ 6 ∧ 1 ≤ (rdHd l).1.ses ∧ isNum (rdHd l).1.ses = true ∧ isNum (rdHd l).1.num = true:=by
 unfold rdHd at h ⊢
 dsimp only at h ⊢
 obtain ⟨a1,a2,_⟩:=num_back h
 obtain ⟨b1,b2,b3,_,_⟩:=within_back a1
 obtain ⟨_,_,c3,c4,_⟩:=within_back b1
 exact ⟨c3,c4,b3,ok_isNum b2,ok_isNum a2⟩
theorem ns_ok {m:Msg} {l:List UInt8} {e:Int} (h:(rdNs m l e).2.2 = 0) (h1:isNum m.kind = true) (h2:isNum m.ses = true) (h3:isNum m.num = true):(msNums (rdNs m l e).1).all isNum = true:=by
 unfold rdNs at h ⊢
 unfold msNums
 by_cases c1:m.kind = 1
 · simp only [if_pos c1] at h ⊢
   obtain ⟨d1,d2,_⟩:=within_back h
   obtain ⟨e1,e2,_⟩:=within_back d1
   obtain ⟨f1,f2,_⟩:=num_back e1
   obtain ⟨g1,g2,_⟩:=num_back f1
   simp [h1,h2,h3,ok_isNum g2,ok_isNum f2,ok_isNum e2,isNum_bit]
 simp only [if_neg c1] at h ⊢
 by_cases c2:m.kind = 2
 · simp only [if_pos c2] at h ⊢
   simp [c1,h1,h2,h3,isNum_bit]
 simp only [if_neg c2] at h ⊢
 by_cases c3:m.kind = 3
 · simp only [if_pos c3] at h ⊢
   obtain ⟨g1,g2,_⟩:=num_back h
   simp [c1,c2,h1,h2,h3,ok_isNum g2]
 simp only [if_neg c3] at h ⊢
 by_cases c5:m.kind = 5
 · simp only [if_pos c5] at h ⊢
   obtain ⟨d1,d2,_⟩:=within_back h
   obtain ⟨g1,g2,_⟩:=num_back d1
   simp [c1,c2,c3,h1,h2,h3,ok_isNum g2,isNum_bit]
 simp only [if_neg c5] at h ⊢
 by_cases c6:m.kind = 6
 · simp only [if_pos c6] at h ⊢
   obtain ⟨d1,d2,_⟩:=within_back h
   simp [c1,c2,c3,c5,h1,h2,h3,ok_isNum d2]
 simp [if_neg c1,if_neg c2,if_neg c3,if_neg c5,if_neg c6,h1,h2,h3]
theorem ns_same (m:Msg) (l:List UInt8) (e:Int):(rdNs m l e).1.kind = m.kind ∧ (rdNs m l e).1.ses = m.ses ∧ (rdNs m l e).1.its = m.its ∧ (rdNs m l e).1.flt = m.flt ∧ (rdNs m l e).1.know = m.know ∧ (rdNs m l e).1.there = m.there ∧ (rdNs m l e).1.sum = m.sum ∧ (rdNs m l e).1.rg = m.rg:=by
 unfold rdNs
 dsimp only
 split
 · exact ⟨rfl,rfl,rfl,rfl,rfl,rfl,rfl,rfl⟩
 split
 · exact ⟨rfl,rfl,rfl,rfl,rfl,rfl,rfl,rfl⟩
 split
 · exact ⟨rfl,rfl,rfl,rfl,rfl,rfl,rfl,rfl⟩
 split
 · exact ⟨rfl,rfl,rfl,rfl,rfl,rfl,rfl,rfl⟩
 split
 · exact ⟨rfl,rfl,rfl,rfl,rfl,rfl,rfl,rfl⟩
 · exact ⟨rfl,rfl,rfl,rfl,rfl,rfl,rfl,rfl⟩
theorem ps_ok {m:Msg} {p:List (List UInt8)} (h0:m.its = []) (h:(rdPs m p).2 = 0):(prtP (rdPs m p).1).2 = true ∧ (rdPs m p).1.ses = m.ses ∧ (rdPs m p).1.its.length ≤ 4096:=by
 unfold rdPs at h ⊢
 unfold prtP
 by_cases c1:m.kind = 1
 · simp only [if_pos c1] at h ⊢
   by_cases a:(rdRgs (p.getD 0 [])).2 ≠ 0
   · rw [if_pos a] at h;exact absurd h a
   simp only [if_neg a] at h ⊢
   by_cases b:(rdKnow (p.getD 1 [])).2 ≠ 0
   · rw [if_pos b] at h;exact absurd h b
   simp only [if_neg b] at h ⊢
   have q1:=(rdRgs_back (Decidable.not_not.1 a)).1
   have q2:=(rdKnow_back (Decidable.not_not.1 b)).1
   simp only [if_pos c1]
   rw [decide_eq_true q1,decide_eq_true q2,h0]
   simp
 simp only [if_neg c1] at h ⊢
 by_cases c4:m.kind = 4
 · simp only [if_pos c4] at h ⊢
   by_cases a:(rdRgs (p.getD 0 [])).2 ≠ 0
   · rw [if_pos a] at h;exact absurd h a
   simp only [if_neg a] at h ⊢
   by_cases b:(rdRgs (p.getD 0 [])).1.length = 1 ∧ (p.getD 1 []).length = 8
   · simp only [if_pos b] at h ⊢
     have q1:=(rdRgs_back (Decidable.not_not.1 a)).1
     obtain ⟨r,hr⟩:∃ r,(rdRgs (p.getD 0 [])).1 = [r]:=by
       match (rdRgs (p.getD 0 [])).1,b.1 with
       | [r],_=>exact ⟨r,rfl⟩
     rw [hr] at q1
     simp only [if_neg c1,if_pos c4,hr,List.getD_cons_zero]
     rw [decide_eq_true q1,h0]
     simp
   · rw [if_neg b] at h;simp at h
 simp only [if_neg c4] at h ⊢
 by_cases c5:m.kind = 5
 · simp only [if_pos c5] at h ⊢
   by_cases a:(rdItems (p.getD 0 [])).2 ≠ 0
   · rw [if_pos a] at h;exact absurd h a
   simp only [if_neg a] at h ⊢
   by_cases b:(rdKnow (p.getD 1 [])).2 ≠ 0
   · rw [if_pos b] at h;exact absurd h b
   simp only [if_neg b] at h ⊢
   have q1:=rdItems_back (b:=p.getD 0 []) (Decidable.not_not.1 a)
   have q2:=(rdKnow_back (Decidable.not_not.1 b)).1
   simp only [if_neg c1,if_neg c4,if_pos c5]
   rw [decide_eq_true q2,q1.1]
   exact ⟨rfl,by trivial,q1.2.1⟩
 simp only [if_neg c5] at h ⊢
 simp only [if_neg c1,if_neg c4,h0]
 simp
/-- what the program looks at when all was read, is all -/
theorem rd_right {l:List UInt8} (h1:endSt (rdTs (ptsN (rdNs (rdHd l).1 (rdHd l).2.1 (rdHd l).2.2).1.kind) (rdNs (rdHd l).1 (rdHd l).2.1 (rdHd l).2.2).2.1 (rdNs (rdHd l).1 (rdHd l).2.1 (rdHd l).2.2).2.2).2.1 (rdTs (ptsN (rdNs (rdHd l).1 (rdHd l).2.1 (rdHd l).2.2).1.kind) (rdNs (rdHd l).1 (rdHd l).2.1 (rdHd l).2.2).2.1 (rdNs (rdHd l).1 (rdHd l).2.1 (rdHd l).2.2).2.2).2.2 = 0)
   (h2:(rdPs (rdNs (rdHd l).1 (rdHd l).2.1 (rdHd l).2.2).1 (rdTs (ptsN (rdNs (rdHd l).1 (rdHd l).2.1 (rdHd l).2.2).1.kind) (rdNs (rdHd l).1 (rdHd l).2.1 (rdHd l).2.2).2.1 (rdNs (rdHd l).1 (rdHd l).2.1 (rdHd l).2.2).2.2).1).2 = 0) :
   msR (rdPs (rdNs (rdHd l).1 (rdHd l).2.1 (rdHd l).2.2).1 (rdTs (ptsN (rdNs (rdHd l).1 (rdHd l).2.1 (rdHd l).2.2).1.kind) (rdNs (rdHd l).1 (rdHd l).2.1 (rdHd l).2.2).2.1 (rdNs (rdHd l).1 (rdHd l).2.1 (rdHd l).2.2).2.2).1).1
   = rgtP (rdPs (rdNs (rdHd l).1 (rdHd l).2.1 (rdHd l).2.2).1 (rdTs (ptsN (rdNs (rdHd l).1 (rdHd l).2.1 (rdHd l).2.2).1.kind) (rdNs (rdHd l).1 (rdHd l).2.1 (rdHd l).2.2).2.1 (rdNs (rdHd l).1 (rdHd l).2.1 (rdHd l).2.2).2.2).1).1:=by
 have hits:(rdHd l).1.its = []:=rfl
 generalize ha:rdHd l = a at *
 have hns:=ns_same a.1 a.2.1 a.2.2
 generalize hb:rdNs a.1 a.2.1 a.2.2 = b at *
 generalize hc:rdTs (ptsN b.1.kind) b.2.1 b.2.2 = c at *
 obtain ⟨e1,e2⟩:=end_back h1
 have t:=ts_back (ptsN b.1.kind) b.2.1 b.2.2 (by rw [hc];exact e2)
 rw [hc] at t
 obtain ⟨t1,t2,t3⟩:=t
 have n:=ns_back (m:=a.1) (l:=a.2.1) (e:=a.2.2) (by rw [hb];exact t1)
 rw [hb] at n
 obtain ⟨n1,_⟩:=n
 have g:=hd_ok (l:=l) (by rw [ha];exact n1)
 rw [ha] at g
 obtain ⟨g1,g2,g3,g4,g5⟩:=g
 have hno:=ns_ok (m:=a.1) (l:=a.2.1) (e:=a.2.2) (by rw [hb];exact t1) (ok_isNum ⟨by omega,by omega⟩) g4 g5
 rw [hb] at hno
 obtain ⟨p1,p2,p3⟩:=ps_ok (m:=b.1) (p:=c.1) (by rw [hns.2.2.1];exact hits) h2
 have p4:=(ps_back (m:=b.1) (p:=c.1) t3 h2).2
 rw [msR_iff _ p3,p4,hno,p1,decide_eq_true (by rw [p2,hns.2.1];exact g3)]
 simp
theorem openF_len (b:List UInt8):(openF b).1.length ≤ b.length:=by
 have h:(nextF b).1.length ≤ b.length:=by
   unfold nextF
   split
   · simp
   split
   · simp
   split
   · simp
   split
   · simp only [List.length_take,List.length_drop];omega
   · simp
 unfold openF
 split
 · simp
 · exact h
theorem rdTs_len:∀ (n:Nat) (l:List UInt8) (e:Int),(rdTs n l e).1.length = n ∧ (∀ p ∈ (rdTs n l e).1,p.length ≤ l.length) ∧ (rdTs n l e).2.1.length ≤ l.length:=by
 intro n
 induction n with
 | zero=>intro l e;exact ⟨rfl,fun p hp=>by simp [rdTs] at hp,Nat.le_refl _⟩
 | succ n ih=>
   intro l e
   rw [rdTs]
   dsimp only
   have h1:=textSt_len maxN l e
   have h2:=(textSt_suf maxN l e).length_le
   obtain ⟨i1,i2,i3⟩:=ih (textSt maxN l e).2.1 (textSt maxN l e).2.2
   refine ⟨by rw [List.length_cons,i1],fun p hp=>?_,by omega⟩
   rcases List.mem_cons.1 hp with q|q
   · subst q;exact h1
   · have:=i2 p q;omega
theorem rdHd_len (l:List UInt8):(rdHd l).2.1.length ≤ l.length:=by
 unfold rdHd
 dsimp only
 have h1:=(withinSt_suf 1 6 l 0).length_le
 have h2:=(withinSt_suf 1 maxN (withinSt 1 6 l 0).2.1 (withinSt 1 6 l 0).2.2).length_le
 have h3:=(numSt_suf (withinSt 1 maxN (withinSt 1 6 l 0).2.1 (withinSt 1 6 l 0).2.2).2.1 (withinSt 1 maxN (withinSt 1 6 l 0).2.1 (withinSt 1 6 l 0).2.2).2.2).length_le
 omega
theorem rdNs_len (m:Msg) (l:List UInt8) (e:Int):(rdNs m l e).2.1.length ≤ l.length:=by
 unfold rdNs
 dsimp only
 split
 · have h1:=(numSt_suf l e).length_le
   have h2:=(numSt_suf (numSt l e).2.1 (numSt l e).2.2).length_le
   generalize numSt (numSt l e).2.1 (numSt l e).2.2 = q at *
   have h3:=(withinSt_suf 0 64 q.2.1 q.2.2).length_le
   have h4:=(withinSt_suf 0 1 (withinSt 0 64 q.2.1 q.2.2).2.1 (withinSt 0 64 q.2.1 q.2.2).2.2).length_le
   simp only
   omega
 split
 · exact (withinSt_suf 0 1 l e).length_le
 split
 · exact (numSt_suf l e).length_le
 split
 · have h1:=(numSt_suf l e).length_le
   have h2:=(withinSt_suf 0 1 (numSt l e).2.1 (numSt l e).2.2).length_le
   simp only
   omega
 split
 · exact (withinSt_suf 1 maxN l e).length_le
 · exact Nat.le_refl _
theorem ps_there (m:Msg) (p:List (List UInt8)) (n:Nat) (h0:m.there.length ≤ n) (hp:∀ q ∈ p,q.length ≤ n) (h0':m.its.length ≤ 4096):(rdPs m p).1.there.length ≤ n ∧ (rdPs m p).1.its.length ≤ 4096:=by
 have hg:∀ i,(p.getD i []).length ≤ n:=fun i=>by
   rw [List.getD_eq_getElem?_getD]
   cases hi:p[i]? with
   | none=>simp
   | some q=>exact hp q (List.mem_of_getElem? hi)
 unfold rdPs
 dsimp only
 split
 · split
   · exact ⟨h0,h0'⟩
   · split
     · exact ⟨h0,h0'⟩
     · exact ⟨hg 2,h0'⟩
 · split
   · split
     · exact ⟨h0,h0'⟩
     · split
       · exact ⟨h0,h0'⟩
       · exact ⟨h0,h0'⟩
   · split
     · split
       · exact ⟨h0,h0'⟩
       · split
         · exact ⟨h0,h0'⟩
         · rename_i a b
           exact ⟨h0,(rdItems_back (Decidable.not_not.1 a)).2.1⟩
     · exact ⟨h0,h0'⟩
theorem rdL_eq (l:List UInt8):rdL l = (if endSt (rdHL l).2.2.1 (rdHL l).2.2.2 ≠ 0 then ({},endSt (rdHL l).2.2.1 (rdHL l).2.2.2) else if (rdPs (rdHL l).1 (rdHL l).2.1).2 ≠ 0 then ({},(rdPs (rdHL l).1 (rdHL l).2.1).2) else if msR (rdPs (rdHL l).1 (rdHL l).2.1).1 then ((rdPs (rdHL l).1 (rdHL l).2.1).1,0) else ({},11)):=rfl
section
theorem ms_Read (b:List UInt8) (hb:b.length ≤ 1000000):Fn Tryz.prog 24 [.per (bysP b)] (.tup2 (.per (msP (rdM b).1)) (inR (rdM b).2)):=by
 have a1:=fr_Open b (by omega)
 have hL:=openF_len b
 unfold rdM
 generalize openF b = q at *
 obtain ⟨L,e⟩:=q
 simp only at a1 hL ⊢
 by_cases he:e ≠ 0
 · rw [if_pos he]
   refine fi Tryz.func24 Tryz.ntmps24 ?_
   (have kc1:=a1;refine w0 ?_;(repeat' first|refine W2.mk ?_ ?_|refine W1.mk fun hc=>?_);all_goals clear kc1)
   refine rt2 ?_ ?_
   · exact rv_wk (rv_cA inferInstance inferInstance rfl rfl rfl rfl rfl rfl) aI
   · exact rv_int rfl rfl
 rw [if_neg he]
 have he:e = 0:=Decidable.not_not.1 he
 subst he
 have a2:=v_New L (by omega)
 have a3:=mr_message L (by omega)
 have a4:=r_End (rdHL L).2.2.1 (rdHL L).2.2.2
 rw [rdL_eq]
 have hps:(rdHL L).2.1.length = ptsN (rdHL L).1.kind:=(rdTs_len _ _ _).1
 have hn:=ns_same (rdHd L).1 (rdHd L).2.1 (rdHd L).2.2
 have hpl:∀ p ∈ (rdHL L).2.1,p.length ≤ 1000000:=fun p hp=>by
   have h1:=(rdTs_len _ _ _).2.1 p hp
   have h2:=rdNs_len (rdHd L).1 (rdHd L).2.1 (rdHd L).2.2
   have h3:=rdHd_len L
   omega
 have hit:(rdHL L).1.its.length ≤ 4096:=by
   show (rdNs (rdHd L).1 (rdHd L).2.1 (rdHd L).2.2).1.its.length ≤ 4096
   rw [hn.2.2.1];exact Nat.zero_le _
 have hth:(rdHL L).1.there.length ≤ 1000000:=by
   show (rdNs (rdHd L).1 (rdHd L).2.1 (rdHd L).2.2).1.there.length ≤ 1000000
   rw [hn.2.2.2.2.2.1];exact Nat.zero_le _
 have hsm:(rdHL L).1.sum = 0:=hn.2.2.2.2.2.2.1
 have hrr:endSt (rdHL L).2.2.1 (rdHL L).2.2.2 = 0 → (rdPs (rdHL L).1 (rdHL L).2.1).2 = 0 → msR (rdPs (rdHL L).1 (rdHL L).2.1).1 = rgtP (rdPs (rdHL L).1 (rdHL L).2.1).1:=rd_right
 obtain ⟨m',a5,hm'⟩:=ms_fill (rdHL L).1 (rdHL L).2.1 hps (fun p hp=>by have:=hpl p hp;omega) hsm
 have hB:=ps_there (rdHL L).1 (rdHL L).2.1 1000000 hth hpl hit
 clear hps hn hpl hit hth hsm
 generalize rdHL L = H at *
 obtain ⟨m,ps,l',e'⟩:=H
 simp only at a3 a4 a5 hm' hrr hB ⊢
 generalize endSt l' e' = v at *
 generalize rdPs m ps = D at *
 obtain ⟨d,f⟩:=D
 simp only at a5 hm' hrr hB ⊢
 by_cases hv:v ≠ 0
 · rw [if_pos hv]
   clear hrr hm' hB
   refine fi Tryz.func24 Tryz.ntmps24 ?_
   (have kc1:=a1;have kn1:=a2;have km1:=(show FnMs [(1000,19)] _ _ _ _ _ _ from a3);have kr1:=a4;have km2:=(show FnMs [(1000,7)] _ _ _ _ _ _ from a5);refine w0 ?_;(repeat' first|refine W2.mk ?_ ?_|refine W1.mk fun hc=>?_);all_goals clear km2 kr1 km1 kn1 kc1)
   refine rt2 ?_ ?_
   · exact rv_wk (rv_cA inferInstance inferInstance rfl rfl rfl rfl rfl rfl) aI
   · exact rv_int rfl rfl
 rw [if_neg hv]
 have hv:v = 0:=Decidable.not_not.1 hv
 subst hv
 by_cases hf:f ≠ 0
 · rw [if_pos hf]
   clear hrr hm' hB
   refine fi Tryz.func24 Tryz.ntmps24 ?_
   (have kc1:=a1;have kn1:=a2;have km1:=(show FnMs [(1000,19)] _ _ _ _ _ _ from a3);have kr1:=a4;have km2:=(show FnMs [(1000,7)] _ _ _ _ _ _ from a5);refine w0 ?_;(repeat' first|refine W2.mk ?_ ?_|refine W1.mk fun hc=>?_);all_goals clear km2 kr1 km1 kn1 kc1)
   refine rt2 ?_ ?_
   · exact rv_wk (rv_cA inferInstance inferInstance rfl rfl rfl rfl rfl rfl) aI
   · exact rv_int rfl rfl
 rw [if_neg hf]
 have hf:f = 0:=Decidable.not_not.1 hf
 subst hf
 obtain rfl:=hm' rfl
 rw [hrr rfl rfl]
 obtain ⟨b1,b2⟩:=hB
 have a6:=ms_right m' b1 b2
 clear hrr hm' b1 b2
 cases hr:rgtP m' with
 | false=>
   rw [hr] at a6
   rw [if_neg (by simp)]
   refine fi Tryz.func24 Tryz.ntmps24 ?_
   (have kc1:=a1;have kn1:=a2;have km1:=(show FnMs [(1000,19)] _ _ _ _ _ _ from a3);have kr1:=a4;have km2:=(show FnMs [(1000,7)] _ _ _ _ _ _ from a5);have kc2:=a6;refine w0 ?_;(repeat' first|refine W2.mk ?_ ?_|refine W1.mk fun hc=>?_);all_goals clear kc2 km2 kr1 km1 kn1 kc1)
   refine rt2 ?_ ?_
   · exact rv_wk (rv_cA inferInstance inferInstance rfl rfl rfl rfl rfl rfl) aI
   · exact rv_int rfl rfl
 | true=>
   rw [hr] at a6
   rw [if_pos rfl]
   refine fi Tryz.func24 Tryz.ntmps24 ?_
   (have kc1:=a1;have kn1:=a2;have km1:=(show FnMs [(1000,19)] _ _ _ _ _ _ from a3);have kr1:=a4;have km2:=(show FnMs [(1000,7)] _ _ _ _ _ _ from a5);have kc2:=a6;refine w0 ?_;(repeat' first|refine W2.mk ?_ ?_|refine W1.mk fun hc=>?_);all_goals clear kc2 km2 kr1 km1 kn1 kc1)
   refine rt2 ?_ ?_
   · exact rv_wk (rv_cA inferInstance inferInstance rfl rfl rfl rfl rfl rfl) aI
   · exact rv_int rfl rfl
end
theorem bit_one (b:Bool):[[rawP (.int .u8 (bitI b))]] = (numI (bitI b)).map byteP:=by
 cases b
 · exact numI_0.symm
 · exact numI_1.symm
section
theorem rm_many (n:Int):Fn Tryz.prog 42 [iC .i64 n] (boR (isNum n)):=by
 unfold isNum
 refine fi Tryz.func42 Tryz.ntmps42 ?_
 (refine w0 ?_;(repeat' first|refine W2.mk ?_ ?_|refine W1.mk fun hc=>?_))
 all_goals
   refine rt1 ?_
   refine rv_bool rfl ?_
   first|(simp [*];done)|(rw [Bool.eq_iff_iff];simp [*];done)|(rw [Bool.eq_iff_iff];simp [*];omega)
theorem rm_bit (b:Bool):Fn Tryz.prog 49 [bC b] (.per (rawP (.int .u8 (bitI b)))):=by
 cases b with
 | false=>
   refine fi Tryz.func49 Tryz.ntmps49 ?_
   (refine w0 ?_;(repeat' first|refine W2.mk ?_ ?_|refine W1.mk fun hc=>?_))
   refine rt1 ?_
   exact rv_int rfl rfl
 | true=>
   refine fi Tryz.func49 Tryz.ntmps49 ?_
   (refine w0 ?_;(repeat' first|refine W2.mk ?_ ?_|refine W1.mk fun hc=>?_))
   refine rt1 ?_
   exact rv_int rfl rfl
theorem rm_wrap (l:List UInt8) (hl:l.length ≤ 100000000):Fn Tryz.prog 50 [bytesB l] (ownB (txB l)):=by
 have a1:=ref_Text ⟨l.toArray⟩ (by show l.toArray.size ≤ _;rw [List.size_toArray];omega)
 unfold txB
 refine fi Tryz.func50 Tryz.ntmps50 ?_
 (have kc1:=a1;refine w0 ?_;(repeat' first|refine W2.mk ?_ ?_|refine W1.mk fun hc=>?_);all_goals clear kc1)
 refine rt1 ?_
 exact rv_own rfl rfl rfl
theorem rm_Unlike (l:List It) (hl:l.length ≤ 1000000000):Fn Tryz.prog 47 [itsB l] (boR (ulk l)):=by
 refine fi Tryz.func47 Tryz.ntmps47 ?_
 (refine w0 ?_;(repeat' first|refine W2.mk ?_ ?_|refine W1.mk fun hc=>?_))
 refine AW_loopP (X:=Nat) (fun i=>i ≤ l.length ∧ (l.take i).all itR = true ∧ ((l.take i).map It.key).Nodup) (fun i=>mkSt [(0,itsB l),(3,iC .i64 (i:Nat))] []) (fun i=>l.length - i) 0 ⟨Nat.zero_le _,rfl,by simp⟩ ?_ ?_
 · exact le_auto
 · rintro i ⟨h1,h2,h3⟩
   by_cases hi:i < l.length
   · have a1:=ritem_Right l[i]
     cases hr:itR l[i] with
     | false=>
       rw [hr] at a1
       have hu:ulk l = false:=by
         rw [← Bool.not_eq_true,ulk_iff,List.all_eq_true]
         exact fun q=>by have:=q.1 _ (List.getElem_mem hi);rw [hr] at this;cases this
       rw [hu]
       (have kc1:=a1;refine w0 ?_;(repeat' first|refine W2.mk ?_ ?_|refine W1.mk fun hc=>?_);all_goals clear kc1)
       refine rt1 ?_
       exact rv_bool rfl rfl
     | true=>
       rw [hr] at a1
       have h2:(l.take (i + 1)).all itR = true:=by rw [take_snoc' _ i hi,List.all_append,h2];simp [hr]
       (have kc1:=a1;refine w0 ?_;(repeat' first|refine W2.mk ?_ ?_|refine W1.mk fun hc=>?_);all_goals clear kc1)
       refine AW_loopP (X:=Nat) (fun k=>k ≤ i ∧ l[i].key ∉ (l.take k).map It.key) (fun k=>mkSt [(0,itsB l),(3,iC .i64 (i:Nat)),(4,iC .i64 (k:Nat))] []) (fun k=>i - k) 0 ⟨Nat.zero_le _,by simp⟩ ?_ ?_
       · exact le_auto
       · rintro k ⟨g1,g2⟩
         by_cases hk:k < i
         · have hkl:k < l.length:=by omega
           by_cases e:l[k].key = l[i].key
           · have e':=(toL_inj' _ _).2 e
             have hu:ulk l = false:=by
               rw [← Bool.not_eq_true,ulk_iff]
               intro q
               refine nodup_stop hi ?_ q.2
               rw [List.mem_map]
               exact ⟨l[k],List.mem_take_iff_getElem.2 ⟨k,by omega,rfl⟩,e⟩
             rw [hu]
             clear a1 h2
             (refine w0 ?_;(repeat' first|refine W2.mk ?_ ?_|refine W1.mk fun hc=>?_))
             refine rt1 ?_
             exact rv_bool rfl rfl
           · have g3:l[i].key ∉ (l.take (k + 1)).map It.key:=by
               rw [key_snoc hkl,List.mem_append,List.mem_singleton]
               exact fun q=>q.elim g2 (fun q=>e q.symm)
             have e':=fun q=>e ((toL_inj' _ _).1 q)
             clear a1 h2
             (refine w0 ?_;(repeat' first|refine W2.mk ?_ ?_|refine W1.mk fun hc=>?_))
             refine ⟨k + 1,⟨by omega,g3⟩,by omega,?_⟩
             exact le_auto
         · obtain rfl:k = i:=by omega
           have h3:=nodup_step hi h3 g2
           clear a1
           (refine w0 ?_;(repeat' first|refine W2.mk ?_ ?_|refine W1.mk fun hc=>?_))
           refine ⟨k + 1,⟨by omega,h2,h3⟩,by omega,?_⟩
           exact le_auto
   · rw [List.take_of_length_le (by omega)] at h2 h3
     rw [ulk_iff.2 ⟨h2,h3⟩]
     clear h2
     (refine w0 ?_;(repeat' first|refine W2.mk ?_ ?_|refine W1.mk fun hc=>?_))
     refine rt1 ?_
     exact rv_bool rfl rfl
theorem rm_Right (m:Msg) (h1:m.flt.length ≤ 1000000) (h2:pcsSz m.know) (h3:m.there.length ≤ 1000000) (h4:m.its.length ≤ 1000000):Fn Tryz.prog 18 [msC m] (boR (msR m)):=by
 have a1:=rrgs_Right m.flt (by omega) (decide (rgsOk m.flt)) (by simp)
 have a2:=rknow_Right m.know h2 (decide (pcsOk m.know)) (by simp)
 have a3:=rspan_Right m.rg
 have a4:=rm_Unlike m.its (by omega)
 have a5:=rb_Read m.there h3 0
 have hS:decide (1 ≤ m.ses) = !decide (m.ses < 1):=by
   rw [Bool.eq_iff_iff];simp
 unfold msR
 rw [hS,nil_len,nil_len]
 clear hS h2
 generalize decide (rgsOk m.flt) = d1 at *
 generalize decide (pcsOk m.know) = d2 at *
 generalize rgR m.rg = d3 at *
 generalize ulk m.its = d4 at *
 by_cases c1:m.kind = 1
 · rw [if_pos c1]
   obtain ⟨q,hq⟩:∃ q,rdBl m.there = q:=⟨_,rfl⟩
   obtain ⟨x,e⟩:=q
   rw [hq] at a5 ⊢
   clear hq
   unfold rdV at a5
   simp only at a5 ⊢
   by_cases he:e = 0
   · rw [if_pos he] at a5
     refine fi Tryz.func18 Tryz.ntmps18 ?_
     (have kc1:=a1;have kc2:=a2;have kc3:=a5;refine w0 ?_;(repeat' (first|refine W2.mk ?_ ?_|refine W1.mk fun hc=>?_|((first|apply AL_t rfl|apply AL_0 rfl|apply AD_t rfl|apply AD_0 rfl);(focus (first|exact c_A (rm_many _)|(apply u_g;(focus rfl);apply op_gyes rfl rfl rfl rfl rfl;first|exact c_A (rm_many _))));refine w0 ?_)));all_goals clear kc3 kc2 kc1)
     all_goals
       refine rt1 ?_
       refine rv_bool rfl ?_
       first|(simp [*];done)|(rw [Bool.eq_iff_iff];simp [*];done)|(rw [Bool.eq_iff_iff];simp [*];omega)
   · rw [if_neg he] at a5
     refine fi Tryz.func18 Tryz.ntmps18 ?_
     (have kc1:=a1;have kc2:=a2;have kc3:=a5;refine w0 ?_;(repeat' (first|refine W2.mk ?_ ?_|refine W1.mk fun hc=>?_|((first|apply AL_t rfl|apply AL_0 rfl|apply AD_t rfl|apply AD_0 rfl);(focus (first|exact c_A (rm_many _)|(apply u_g;(focus rfl);apply op_gyes rfl rfl rfl rfl rfl;first|exact c_A (rm_many _))));refine w0 ?_)));all_goals clear kc3 kc2 kc1)
     all_goals
       refine rt1 ?_
       refine rv_bool rfl ?_
       first|(simp [*];done)|(rw [Bool.eq_iff_iff];simp [*];done)|(rw [Bool.eq_iff_iff];simp [*];omega)|(rw [show (e == 0) = false by simpa using he,decide_eq_false he,decide_eq_false hc,Bool.or_self,Bool.and_false,Bool.and_false])
 rw [if_neg c1]
 by_cases c3:m.kind = 3
 · rw [if_pos c3]
   refine fi Tryz.func18 Tryz.ntmps18 ?_
   (refine w0 ?_;(repeat' (first|refine W2.mk ?_ ?_|refine W1.mk fun hc=>?_|((first|apply AL_t rfl|apply AL_0 rfl|apply AD_t rfl|apply AD_0 rfl);(focus (first|exact c_A (rm_many _)|(apply u_g;(focus rfl);apply op_gyes rfl rfl rfl rfl rfl;first|exact c_A (rm_many _))));refine w0 ?_))))
   all_goals
     refine rt1 ?_
     refine rv_bool rfl ?_
     first|(simp [*];done)|(rw [Bool.eq_iff_iff];simp [*];done)|(rw [Bool.eq_iff_iff];simp [*];omega)
 rw [if_neg c3]
 by_cases c4:m.kind = 4
 · rw [if_pos c4]
   refine fi Tryz.func18 Tryz.ntmps18 ?_
   (have kc1:=a3;refine w0 ?_;(repeat' (first|refine W2.mk ?_ ?_|refine W1.mk fun hc=>?_|((first|apply AL_t rfl|apply AL_0 rfl|apply AD_t rfl|apply AD_0 rfl);(focus (first|exact c_A (rm_many _)|(apply u_g;(focus rfl);apply op_gyes rfl rfl rfl rfl rfl;first|exact c_A (rm_many _))));refine w0 ?_)));all_goals clear kc1)
   all_goals
     refine rt1 ?_
     refine rv_bool rfl ?_
     first|(simp [*];done)|(rw [Bool.eq_iff_iff];simp [*];done)|(rw [Bool.eq_iff_iff];simp [*];omega)
 rw [if_neg c4]
 by_cases c5:m.kind = 5
 · rw [if_pos c5]
   refine fi Tryz.func18 Tryz.ntmps18 ?_
   (have kc1:=a4;have kc2:=a2;refine w0 ?_;(repeat' (first|refine W2.mk ?_ ?_|refine W1.mk fun hc=>?_|((first|apply AL_t rfl|apply AL_0 rfl|apply AD_t rfl|apply AD_0 rfl);(focus (first|exact c_A (rm_many _)|(apply u_g;(focus rfl);apply op_gyes rfl rfl rfl rfl rfl;first|exact c_A (rm_many _))));refine w0 ?_)));all_goals clear kc2 kc1)
   all_goals
     refine rt1 ?_
     refine rv_bool rfl ?_
     first|(simp [*];done)|(rw [Bool.eq_iff_iff];simp [*];done)|(rw [Bool.eq_iff_iff];simp [*];omega)
 rw [if_neg c5]
 refine fi Tryz.func18 Tryz.ntmps18 ?_
 (refine w0 ?_;(repeat' (first|refine W2.mk ?_ ?_|refine W1.mk fun hc=>?_|((first|apply AL_t rfl|apply AL_0 rfl|apply AD_t rfl|apply AD_0 rfl);(focus (first|exact c_A (rm_many _)|(apply u_g;(focus rfl);apply op_gyes rfl rfl rfl rfl rfl;first|exact c_A (rm_many _))));refine w0 ?_))))
 all_goals
   refine rt1 ?_
   refine rv_bool rfl ?_
   first|(simp [*];done)|(rw [Bool.eq_iff_iff];simp [*];done)|(rw [Bool.eq_iff_iff];simp [*];omega)
end
section
theorem txB_oct (s:Nat):txB (oct s) = numI 8 ++ oct s:=by
 have h:(⟨(oct s).toArray⟩:ByteArray).size = 8:=by show (oct s).toArray.size = 8;rw [List.size_toArray];simp [oct]
 unfold txB textB
 rw [h];rfl
theorem numI_8:(numI 8).map byteP = [[rawP (.int .u8 8)]]:=by unfold numI;rw [numB_lt (by decide)];rfl
theorem rm_Load (m:Msg) (hR:msR m = true) (hB:MsB m) (hs:m.sum < 18446744073709551616):Fn Tryz.prog 19 [msC m] (ownB (loadB m)):=by
 obtain ⟨p1,p2,p3,p4,p5,k1,k3,k4,k5,k6⟩:=msR_parts hR
 have hK:=isNum_ok p2
 have hN:=isNum_ok p3
 have hk:okNum m.kind:=⟨by omega,by omega⟩
 obtain ⟨b1,b2,b3,b4,b5,b6,b7⟩:=hB
 have hpl:∀ p ∈ msParts m,p.length ≤ 100000000:=by
   have e:=prt_ok (m:=m) (by
     have:=msR_iff m b6
     rw [hR] at this
     have:=this.symm
     simp only [Bool.and_eq_true] at this
     exact this.1.1.2)
   rw [← e];exact b7
 clear b7
 have h1:=ref_Put [m.kind,m.ses,m.num] (by simp) (fun n hn=>by
   simp at hn
   rcases hn with rfl|rfl|rfl <;> assumption)
 have l1:([m.kind,m.ses,m.num].flatMap numI).length ≤ 27:=by
   have q1:=numI_le _ hk
   have q2:=numI_le _ hK
   have q3:=numI_le _ hN
   simp;omega
 unfold loadB
 rw [show msNums m = [m.kind,m.ses,m.num] ++ (msNums m).drop 3 from rfl,List.flatMap_append]
 have e:(msNums m).drop 3 = (if m.kind = 1 then [m.lim,m.seed,m.bits,bitI m.wants] else if m.kind = 2 then [bitI m.same] else if m.kind = 3 then [m.nxt] else if m.kind = 5 then [m.nxt,bitI m.last] else if m.kind = 6 then [m.err] else []):=rfl
 rw [e]
 clear e
 unfold msParts at hpl ⊢
 generalize hH:[m.kind,m.ses,m.num].flatMap numI = H at *
 by_cases c1:m.kind = 1
 · obtain ⟨a1,a2,a3,a4,a5,a6,a7⟩:=k1 c1
   simp only [if_pos c1] at hpl ⊢
   have h2:=ref_Put [m.lim,m.seed,m.bits] (by simp) (fun n hn=>by
     simp at hn
     rcases hn with rfl|rfl|rfl
     · exact isNum_ok a1
     · exact isNum_ok a2
     · exact ⟨by omega,by omega⟩)
   have l2:([m.lim,m.seed,m.bits].flatMap numI).length ≤ 27:=by
     have q1:=numI_le _ (isNum_ok a1)
     have q2:=numI_le _ (isNum_ok a2)
     have q3:=numI_le m.bits ⟨by omega,by omega⟩
     simp;omega
   have w1:=bit_one m.wants
   have h3:=rm_bit m.wants
   have h4:=ref_Ranges m.flt b1 a5
   have h5:=rkc_Know m.know b3 b4 a6
   have h6:=rm_wrap (rgsBy m.flt) (hpl _ (by simp))
   have h7:=rm_wrap (knowB m.know) (hpl _ (by simp))
   have h8:=rm_wrap m.there (hpl _ (by simp))
   have q6:=txB_len (rgsBy m.flt) (hpl _ (by simp))
   have q7:=txB_len (knowB m.know) (hpl _ (by simp))
   have q8:=txB_len m.there (hpl _ (by simp))
   have q6':=hpl (rgsBy m.flt) (by simp)
   have q7':=hpl (knowB m.know) (by simp)
   have q8':=hpl m.there (by simp)
   have fin:H ++ [m.lim,m.seed,m.bits,bitI m.wants].flatMap numI ++ [rgsBy m.flt,knowB m.know,m.there].flatMap txB = H ++ [m.lim,m.seed,m.bits].flatMap numI ++ numI (bitI m.wants) ++ txB (rgsBy m.flt) ++ txB (knowB m.know) ++ txB m.there:=by simp
   rw [fin]
   clear fin hpl k1 k3 k4 k5 k6 a1 a2 a5 a6 a7 b3 hR hH p2 p3 hK hN hk
   generalize [m.lim,m.seed,m.bits].flatMap numI = G at *
   generalize txB (rgsBy m.flt) = T1 at *
   generalize txB (knowB m.know) = T2 at *
   generalize txB m.there = T3 at *
   refine fi Tryz.func19 Tryz.ntmps19 ?_
   (have ko1:=h1;have ko2:=h2;have kc1:=h3;have kc2:=h4;have kc3:=h5;have ko3:=h6;have ko4:=h7;have ko5:=h8;refine w0 ?_;(repeat' first|refine W2.mk ?_ ?_|refine W1.mk fun hc=>?_);all_goals clear ko5 ko4 ko3 kc3 kc2 kc1 ko2 ko1)
   refine rt1 ?_
   refine rv_own rfl rfl ?_
   show _ = Blk.row _ _ ((H ++ G ++ numI (bitI m.wants) ++ T1 ++ T2 ++ T3).map byteP)
   rw [List.map_append,List.map_append,List.map_append,List.map_append,List.map_append,← w1];rfl
 simp only [if_neg c1] at hpl ⊢
 by_cases c2:m.kind = 2
 · simp only [if_pos c2,if_neg (show ¬ m.kind = 4 by omega),if_neg (show ¬ m.kind = 5 by omega)]
   have w1:=bit_one m.same
   have h3:=rm_bit m.same
   rw [List.flatMap_nil,List.append_nil,List.flatMap_cons,List.flatMap_nil,List.append_nil]
   clear hpl k1 k3 k4 k5 k6 b3 hR hH p2 p3 hK hN hk
   refine fi Tryz.func19 Tryz.ntmps19 ?_
   (have kc1:=h1;have kc2:=h3;refine w0 ?_;(repeat' first|refine W2.mk ?_ ?_|refine W1.mk fun hc=>?_);all_goals clear kc2 kc1)
   refine rt1 ?_
   refine rv_own rfl rfl ?_
   show _ = Blk.row _ _ ((H ++ numI (bitI m.same)).map byteP)
   rw [List.map_append,← w1];rfl
 simp only [if_neg c2]
 by_cases c3:m.kind = 3
 · simp only [if_pos c3,if_neg (show ¬ m.kind = 4 by omega),if_neg (show ¬ m.kind = 5 by omega)]
   have h3:=ref_Bytes m.nxt (isNum_ok (k3 c3))
   have q3:=numI_le _ (isNum_ok (k3 c3))
   rw [List.flatMap_nil,List.append_nil,List.flatMap_cons,List.flatMap_nil,List.append_nil]
   clear hpl k1 k3 k4 k5 k6 b3 hR hH p2 p3 hK hN hk
   refine fi Tryz.func19 Tryz.ntmps19 ?_
   (have kc1:=h1;have kc2:=h3;refine w0 ?_;(repeat' first|refine W2.mk ?_ ?_|refine W1.mk fun hc=>?_);all_goals clear kc2 kc1)
   refine rt1 ?_
   refine rv_own rfl rfl ?_
   show _ = Blk.row _ _ ((H ++ numI m.nxt).map byteP)
   rw [List.map_append];rfl
 simp only [if_neg c3]
 by_cases c5:m.kind = 5
 · obtain ⟨a1,a2,a3,a4,a5⟩:=k5 c5
   simp only [if_pos c5,if_neg (show ¬ m.kind = 4 by omega)] at hpl ⊢
   have w1:=bit_one m.last
   have h2:=ref_Bytes m.nxt (isNum_ok a1)
   have q2:=numI_le _ (isNum_ok a1)
   have h3:=rm_bit m.last
   have h4:=ref_Items m.its b6 (ulk_all a3)
   have h5:=rkc_Know m.know b3 b4 a4
   have h6:=rm_wrap (itemsB m.its) (hpl _ (by simp))
   have h7:=rm_wrap (knowB m.know) (hpl _ (by simp))
   have q6:=txB_len (itemsB m.its) (hpl _ (by simp))
   have q7:=txB_len (knowB m.know) (hpl _ (by simp))
   have q6':=hpl (itemsB m.its) (by simp)
   have q7':=hpl (knowB m.know) (by simp)
   have fin:H ++ [m.nxt,bitI m.last].flatMap numI ++ [itemsB m.its,knowB m.know].flatMap txB = H ++ numI m.nxt ++ numI (bitI m.last) ++ txB (itemsB m.its) ++ txB (knowB m.know):=by simp
   rw [fin]
   clear fin hpl k1 k3 k4 k5 k6 a1 a3 a4 a5 b3 hR hH p2 p3 hK hN hk
   generalize txB (itemsB m.its) = T1 at *
   generalize txB (knowB m.know) = T2 at *
   generalize numI m.nxt = G at *
   refine fi Tryz.func19 Tryz.ntmps19 ?_
   (have kc1:=h1;have kc2:=h2;have kc3:=h3;have kc4:=h4;have kc5:=h5;have ko1:=h6;have ko2:=h7;refine w0 ?_;(repeat' first|refine W2.mk ?_ ?_|refine W1.mk fun hc=>?_);all_goals clear ko2 ko1 kc5 kc4 kc3 kc2 kc1)
   refine rt1 ?_
   refine rv_own rfl rfl ?_
   show _ = Blk.row _ _ ((H ++ G ++ numI (bitI m.last) ++ T1 ++ T2).map byteP)
   rw [List.map_append,List.map_append,List.map_append,List.map_append,← w1];rfl
 simp only [if_neg c5]
 by_cases c6:m.kind = 6
 · simp only [if_pos c6,if_neg (show ¬ m.kind = 4 by omega)]
   have h3:=ref_Bytes m.err (isNum_ok (k6 c6).2)
   have q3:=numI_le _ (isNum_ok (k6 c6).2)
   rw [List.flatMap_nil,List.append_nil,List.flatMap_cons,List.flatMap_nil,List.append_nil]
   clear hpl k1 k3 k4 k5 k6 b3 hR hH p2 p3 hK hN hk
   refine fi Tryz.func19 Tryz.ntmps19 ?_
   (have kc1:=h1;have kc2:=h3;refine w0 ?_;(repeat' first|refine W2.mk ?_ ?_|refine W1.mk fun hc=>?_);all_goals clear kc2 kc1)
   refine rt1 ?_
   refine rv_own rfl rfl ?_
   show _ = Blk.row _ _ ((H ++ numI m.err).map byteP)
   rw [List.map_append];rfl
 simp only [if_neg c6]
 have c4:m.kind = 4:=by omega
 simp only [if_pos c4] at hpl ⊢
 have h4:=ref_Ranges [m.rg] (by simp) (rgsOk_one (k4 c4))
 have h6:=rm_wrap (rgsBy [m.rg]) (hpl _ (by simp))
 have q6:=txB_len (rgsBy [m.rg]) (hpl _ (by simp))
 have q6':=hpl (rgsBy [m.rg]) (by simp)
 have fin:H ++ ([]:List Int).flatMap numI ++ [rgsBy [m.rg],oct m.sum].flatMap txB = H ++ txB (rgsBy [m.rg]) ++ numI 8 ++ tlN 8 m.sum:=by
   simp [txB_oct];rfl
 rw [fin]
 clear fin hpl k1 k3 k4 k5 k6 b3 hR hH p2 p3 hK hN hk
 generalize txB (rgsBy [m.rg]) = T1 at *
 refine fi Tryz.func19 Tryz.ntmps19 ?_
 (have kc1:=h1;have kc2:=h4;have kc3:=h6;refine w0 ?_;(repeat' first|refine W2.mk ?_ ?_|refine W1.mk fun hc=>?_);all_goals clear kc3 kc2 kc1)
 refine AW_le (Le_mv 13 600) ?_
 have hl8:(numI 8).length = 1:=by unfold numI;rw [numB_lt (by decide)];rfl
 refine AW_loopP (X:=Nat) (fun k=>k ≤ 8) (fun k=>mkSt [(1,.ptr 1 0 0),(3,.row 600 0),(4,iC .u64 (m.sum / 256 ^ k:Nat)),(5,iC .i64 (k:Nat))] [(1,.box 33 ((msCs m).map Cnt.per)),(600,.row 5 1 ((H ++ T1 ++ numI 8 ++ tlN k m.sum).map byteP))]) (fun k=>8 - k) 0 (by omega) ?_ ?_
 · (refine Le_mk ?_ ?_;(focus ((repeat (first|exact AllG.nil|(refine AllG.cons ?_ ?_;rotate_left)));(all_goals try (first|rfl|(refine eqI ?_;first|omega|(simp;done)|(simp;omega))|(refine eqBo ?_;first|(simp;done)|(simp [*];done))))));(focus ((repeat (first|exact AllB.nil|(refine AllB.cons ?_ ?_;rotate_left)));(all_goals try (first|rfl|(refine eqRw ?_;(rw [List.map_append] <;> rfl);done)|(refine eqMix ?_;(rw [List.map_append] <;> rfl);done))))))
   show Blk.row _ _ _ = Blk.row _ _ ((H ++ T1 ++ numI 8 ++ []).map byteP)
   rw [List.append_nil,List.map_append,List.map_append,numI_8];rfl
 · intro k hk
   by_cases hlt:k < 8
   · have hS:=tlN_succ k m.sum
     have hl:=tlN_len k m.sum
     have hp:m.sum / 256 ^ (k + 1) = m.sum / 256 ^ k / 256:=by rw [Nat.pow_succ,Nat.div_div_eq_div_mul]
     have hb:m.sum / 256 ^ k < 18446744073709551616:=Nat.lt_of_le_of_lt (Nat.div_le_self _ _) hs
     generalize m.sum / 256 ^ k = q at *
     generalize hq':m.sum / 256 ^ (k + 1) = q' at *
     have hW:IntKind.u8.wrap ((q:Int) % 256) = ((UInt8.ofNat q).toNat:Int):=by rw [← wrap_u8_nat,IntKind.wrap_u8',IntKind.wrap_u8'];omega
     have hq:IntKind.u64.wrap ((q:Int).tdiv 256) = (q':Int):=by
       rw [Int.tdiv_eq_ediv_of_nonneg (by omega),IntKind.wrap_u64];omega
     have hAl:(H ++ T1 ++ numI 8 ++ tlN k m.sum).length ≤ 100000100:=by simp only [List.length_append];omega
     generalize hA:H ++ T1 ++ numI 8 ++ tlN k m.sum = A at *
     clear h1 h4 h6
     (repeat' (first|refine AW_seq ?_|refine AW_block ?_|refine AW_skip ?_|refine AW_exit ?_|refine AW_ret ?_|refine AW_region ?_|refine AW_draw mixed0 ?_|refine AL_nil ?_|refine AD_nil (by kernel_rfl) ?_|(refine AW_cl rfl rfl ⟨fun hc=>?_,fun hc=>?_⟩ <;> (repeat rw [List.length_map] at hc) <;> (try exact absd hc))|((first|apply AL_t rfl|apply AL_0 rfl|apply AD_t rfl|apply AD_0 rfl);focus (first|((apply u_k 10;(focus rfl);exact u_conv ⟨rfl,rfl,rfl⟩ rfl inferInstance inferInstance rfl hW))|(apply u_g;(focus rfl);apply op_gyes rfl rfl rfl rfl rfl;((apply u_k 10;(focus rfl);exact u_conv ⟨rfl,rfl,rfl⟩ rfl inferInstance inferInstance rfl hW)))|((exact op_quo ⟨rfl,rfl,rfl⟩ rfl rfl rfl (by decide) hq))|(apply u_g;(focus rfl);apply op_gyes rfl rfl rfl rfl rfl;((exact op_quo ⟨rfl,rfl,rfl⟩ rfl rfl rfl (by decide) hq)))|exact z_auto|fail))|refine thenA_n ?_|refine thenA_r ?_|refine thenA_e ?_|refine inB_n ?_|refine inB_r ?_|refine inB_hit ?_|refine inB_miss rfl ?_|((first|refine AL_cl rfl rfl rfl ⟨fun hc=>?_,fun hc=>?_⟩|refine AD_cl rfl rfl rfl ⟨fun hc=>?_,fun hc=>?_⟩) <;> (fail_if_success (have q:(true = true):=hc)) <;> (fail_if_success (have q:(false = false):=hc)) <;> (repeat rw [List.length_map] at hc) <;> (try exact absd hc))|refine AW_cond_nil rfl rfl (fun hc=>?_) ?_))
     refine ⟨k + 1,by omega,by omega,?_⟩
     rw [hS,hq',← List.append_assoc (H ++ T1 ++ numI 8),hA]
     exact le_auto
   · obtain rfl:k = 8:=by omega
     clear h1 h4 h6
     (refine w0 ?_;(repeat' first|refine W2.mk ?_ ?_|refine W1.mk fun hc=>?_))
     refine rt1 ?_
     exact rv_ownM rfl rfl rfl rfl
theorem rm_Put (m:Msg) (hB:MsB m) (hs:m.sum < 18446744073709551616):Fn Tryz.prog 7 [msC m] (.tup2 (ownB (putM m).1) (inR (putM m).2)):=by
 have a1:=rm_Right m (by have:=hB.flt;omega) hB.ksz hB.thr (by have:=hB.its;omega)
 unfold putM
 cases hR:msR m with
 | false=>
   rw [hR] at a1
   simp only [Bool.false_eq_true,if_false]
   clear hB
   refine fi Tryz.func7 Tryz.ntmps7 ?_
   (have kc1:=a1;refine w0 ?_;(repeat' first|refine W2.mk ?_ ?_|refine W1.mk fun hc=>?_);all_goals clear kc1)
   refine rt2 ?_ ?_
   · exact rv_nil rfl
   · exact rv_int rfl rfl
 | true=>
   rw [hR] at a1
   simp only [if_true]
   have a2:=rm_Load m hR hB hs
   have hl:(loadB m).length ≤ 1000000000:=by
     have hI:=msR_iff m hB.its
     rw [hR] at hI
     have hI:=hI.symm
     simp only [Bool.and_eq_true] at hI
     have e:loadB m = (msNums m).flatMap numI ++ (prtP m).1.flatMap txB:=by rw [prt_ok hI.1.1.2];rfl
     rw [e,List.length_append]
     have h1:=nums_len2 m (nums_ok.1 hI.1.1.1)
     have h2:=prtP_len m
     have h3:=hB.prt
     have key:∀ l:List (List UInt8),(∀ p ∈ l,p.length ≤ 100000000) → (l.flatMap txB).length ≤ 100000009 * l.length:=by
       intro l
       induction l with
       | nil=>intro _;simp
       | cons n l ih=>
         intro h
         have h2:=h n (by simp)
         have h3:=txB_len n h2
         have h4:=ih (fun k hk=>h k (List.mem_cons_of_mem _ hk))
         rw [List.flatMap_cons,List.length_append,List.length_cons];omega
     have:=key _ h3
     omega
   generalize loadB m = L at *
   have a3:=rfr_Make L hl
   clear hB
   by_cases hL:L.length ≤ 32768
   · simp only [if_pos hL]
     refine fi Tryz.func7 Tryz.ntmps7 ?_
     (have kc1:=a1;have kc2:=a2;have kc3:=a3;refine w0 ?_;(repeat' first|refine W2.mk ?_ ?_|refine W1.mk fun hc=>?_);all_goals clear kc3 kc2 kc1)
     refine rt2 ?_ ?_
     · exact rv_own rfl rfl rfl
     · exact rv_int rfl rfl
   · simp only [if_neg hL]
     refine fi Tryz.func7 Tryz.ntmps7 ?_
     (have kc1:=a1;have kc2:=a2;have kc3:=a3;refine w0 ?_;(repeat' first|refine W2.mk ?_ ?_|refine W1.mk fun hc=>?_);all_goals clear kc3 kc2 kc1)
     refine rt2 ?_ ?_
     · exact rv_nil rfl
     · exact rv_int rfl rfl
end
end Go.Proofs.YthlffkjpklpkfaaGreat
