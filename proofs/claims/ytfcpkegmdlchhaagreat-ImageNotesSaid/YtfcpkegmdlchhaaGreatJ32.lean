/- Texts joined: ImX. -/
import Derived.Test.YtfcpkegmdlchhaaGreatJ30
import Derived.Test.YtfcpkegmdlchhaaGreatJ17
import Derived.Test.YtfcpkegmdlchhaaGreatJ12
import Derived.Test.YtfcpkegmdlchhaaGreatJ11
import Derived.Test.YtfcpkegmdlchhaaGreatJ26
import Derived.Test.YtfcpkegmdlchhaaGreatJ31
import Derived.Test.YtfcpkegmdlchhaaGreatJ06
set_option maxRecDepth 10000
set_option maxHeartbeats 8000000
namespace Go.Proofs.YtfcpkegmdlchhaaGreat
open Go.RowKit
theorem textSt_ln (most:Int) (l:List UInt8) (e:Int):(textSt most l e).1.length ≤ l.length:=by
 unfold textSt
 split
 · simp
 · split
   · simp
   · simp only [List.length_take]
     have:=(withinSt_suf 0 most l e).length_le
     omega
theorem flat_ge {α β:Type} {A:List α} {f:α → List β} (h:∀ x ∈ A,1 ≤ (f x).length):A.length ≤ (A.flatMap f).length:=by
 induction A with
 | nil=>simp
 | cons x A ih=>
   have h1:=h x List.mem_cons_self
   have h2:=ih (fun y hy=>h y (List.mem_cons_of_mem _ hy))
   rw [List.flatMap_cons,List.length_append,List.length_cons];omega
theorem flat_len_le {α β γ:Type} {f:α → List β} {g:α → List γ} (h:∀ x,(f x).length ≤ (g x).length):∀ l:List α,(l.flatMap f).length ≤ (l.flatMap g).length:=by
 intro l
 induction l with
 | nil=>simp
 | cons x l ih=>
   have:=h x
   rw [List.flatMap_cons,List.flatMap_cons,List.length_append,List.length_append];omega
theorem numI_ps (n:Int):1 ≤ (numI n).length:=numB_pos _
theorem runsB_ge:∀ (l:List Rn) (was:Int),l.length ≤ (runsB was l).length:=by
 intro l
 induction l with
 | nil=>intro was;simp [runsB]
 | cons r l ih=>
   intro was
   have h1:=ih r.to
   have h2:=numI_ps (r.fr - was)
   rw [runsB,List.length_append,List.length_append,List.length_cons];omega
theorem knB_ge (k:Kn):1 ≤ (knB k).length ∧ k.runs.length ≤ (knB k).length:=by
 have h1:=runsB_ge k.runs 0
 have h2:=numI_ps k.rep
 unfold knB
 rw [List.length_append,List.length_append]
 constructor <;> omega
theorem setB_ge (s:List Kn):1 ≤ (setB s).length ∧ s.length ≤ (setB s).length ∧ (s.flatMap Kn.runs).length ≤ (setB s).length:=by
 have h1:=flat_ge (A:=s) (f:=knB) (fun x _=>(knB_ge x).1)
 have h2:=flat_len_le (f:=Kn.runs) (g:=knB) (fun x=>(knB_ge x).2) s
 have h3:=numI_ps ((s.length:Nat):Int)
 unfold setB
 rw [List.length_append]
 refine ⟨?_,?_,?_⟩ <;> omega
theorem pcB_ge (p:Pc):1 ≤ (pcB p).length ∧ p.set.length ≤ (pcB p).length ∧ (p.set.flatMap Kn.runs).length ≤ (pcB p).length:=by
 obtain ⟨h1,h2,h3⟩:=setB_ge p.set
 unfold pcB
 rw [List.length_append]
 refine ⟨?_,?_,?_⟩ <;> omega
theorem knowB_ge (k:List Pc):k.length ≤ (knowB k).length ∧ (k.flatMap Pc.set).length ≤ (knowB k).length ∧ ((k.flatMap Pc.set).flatMap Kn.runs).length ≤ (knowB k).length:=by
 have h1:=flat_ge (A:=k) (f:=pcB) (fun x _=>(pcB_ge x).1)
 have h2:=flat_len_le (f:=Pc.set) (g:=pcB) (fun x=>(pcB_ge x).2.1) k
 have h3:=flat_len_le (f:=fun p:Pc=>p.set.flatMap Kn.runs) (g:=pcB) (fun x=>(pcB_ge x).2.2) k
 unfold knowB
 rw [List.length_append,List.flatMap_assoc]
 refine ⟨?_,?_,?_⟩ <;> omega
theorem knowB_mid {k:List Pc} (h:(knowB k).length ≤ 1000000):pcsMid k:=by
 obtain ⟨h1,h2,h3⟩:=knowB_ge k
 exact ⟨by omega,by omega,by omega⟩
/-- parts that were read are in bounds -/
theorem sta_B {f i k:List UInt8} (id cnt:Int) (h1:(rdRgs f).2 = 0) (h2:(rdItems i).2 = 0) (h3:(rdKnow k).2 = 0) (hk:k.length ≤ 1000000):StB ⟨id,(rdRgs f).1,(rdItems i).1,(rdKnow k).1,cnt⟩:=by
 have q1:=(rdRgs_back h1).2.1
 obtain ⟨q2,q3,_⟩:=rdItems_back h2
 obtain ⟨_,q4,q5⟩:=rdKnow_back h3
 refine ⟨by simp only;omega,knowB_mid (by simp only;rw [q5];omega),by simp only;omega,by simp only;omega,fun x hx=>?_⟩
 rw [List.all_eq_true] at q2
 have:=(itR_nums (q2 x hx)).2.2.2
 omega
section
theorem im_ReadState (b:List UInt8) (hb:b.length ≤ 1000000):Fn Tryz.prog 10 [.per (bysP b)] (.tup2 (.per (stP (rdSt b).1)) (inR (rdSt b).2)):=by
 generalize hR:rdSt b = R
 unfold rdSt rdSh at hR
 dsimp only at hR
 have a0:=v_New b (by omega)
 have a1:=r_Within b 0 1 16
 have s1:=(withinSt_suf 1 16 b 0).length_le
 generalize withinSt 1 16 b 0 = q1 at *
 obtain ⟨id,l1,e1⟩:=q1
 dsimp only at a1 s1 hR
 have a2:=r_Within l1 e1 0 1099511627776
 have s2:=(withinSt_suf 0 1099511627776 l1 e1).length_le
 generalize withinSt 0 1099511627776 l1 e1 = q2 at *
 obtain ⟨cnt,l2,e2⟩:=q2
 dsimp only [maxN] at a2 s2 hR
 have a3:=r_Text l2 e2 281474976710656
 have s3:=(textSt_suf 281474976710656 l2 e2).length_le
 have t3:=textSt_ln 281474976710656 l2 e2
 generalize textSt 281474976710656 l2 e2 = q3 at *
 obtain ⟨f,l3,e3⟩:=q3
 dsimp only at a3 s3 t3 hR
 have a4:=r_Text l3 e3 281474976710656
 have s4:=(textSt_suf 281474976710656 l3 e3).length_le
 have t4:=textSt_ln 281474976710656 l3 e3
 generalize textSt 281474976710656 l3 e3 = q4 at *
 obtain ⟨i,l4,e4⟩:=q4
 dsimp only at a4 s4 t4 hR
 have a5:=r_Text l4 e4 281474976710656
 have t5:=textSt_ln 281474976710656 l4 e4
 generalize textSt 281474976710656 l4 e4 = q5 at *
 obtain ⟨k,l5,e5⟩:=q5
 dsimp only at a5 t5 hR
 have a6:=r_End l5 e5
 generalize endSt l5 e5 = v at *
 have hx:(⟨f.toArray⟩:ByteArray).size ≤ 1000000000000:=by show f.toArray.size ≤ _;rw [List.size_toArray];omega
 have hy:(⟨i.toArray⟩:ByteArray).size ≤ 1000000000000:=by show i.toArray.size ≤ _;rw [List.size_toArray];omega
 have hz:(⟨k.toArray⟩:ByteArray).size ≤ 1000000000000:=by show k.toArray.size ≤ _;rw [List.size_toArray];omega
 have c1:=(fcode_ReadRanges f (by omega)).frz
 have c2:=(icode_ReadItems i (by omega)).frz
 have c3:=(kc_ReadKnow k (by omega)).frz
 have hkl:k.length ≤ 1000000:=by omega
 clear s1 s2 s3 s4 t3 t4 t5 hb
 by_cases hv:v ≠ 0
 · rw [if_pos hv] at hR
   subst hR
   clear c1 c2 c3
   refine fi Tryz.func10 Tryz.ntmps10 ?_
   (have kn1:=a0;have kr1:=a1;have kr2:=a2;have kr3:=a3;have kr4:=a4;have kr5:=a5;have kr6:=a6;refine w0 ?_;(repeat' first|refine W2.mk ?_ ?_|refine W1.mk fun hc=>?_);all_goals clear kr6 kr5 kr4 kr3 kr2 kr1 kn1)
   refine rt2 ?_ ?_
   · exact rv_wk (rv_cA inferInstance inferInstance rfl rfl rfl rfl rfl rfl) aI
   · exact rv_int rfl rfl
 rw [if_neg hv] at hR
 have hv:v = 0:=Decidable.not_not.1 hv
 subst hv
 unfold rdSp at hR
 have hB:=sta_B (f:=f) (i:=i) (k:=k) id cnt
 generalize rdRgs f = F at *
 generalize rdItems i = I at *
 generalize rdKnow k = K at *
 obtain ⟨f1,f2⟩:=F
 obtain ⟨i1,i2⟩:=I
 obtain ⟨k1,k2⟩:=K
 dsimp only at c1 c2 c3 hB hR
 by_cases hf:f2 ≠ 0
 · rw [if_pos hf] at hR
   subst hR
   clear c2 c3 hB
   refine fi Tryz.func10 Tryz.ntmps10 ?_
   (have kn1:=a0;have kr1:=a1;have kr2:=a2;have kr3:=a3;have kr4:=a4;have kr5:=a5;have kr6:=a6;have kc1:=c1;refine w0 ?_;(repeat' (first|refine W2.mk ?_ ?_|refine W1.mk fun hc=>?_|((first|apply AL_t rfl|apply AL_0 rfl|apply AD_t rfl|apply AD_0 rfl);(focus (first|((apply u_k 10;(focus rfl);exact op_bs ⟨rfl,rfl,rfl⟩ rfl inferInstance inferInstance inferInstance rfl (by first|exact hx|exact hy|exact hz)))|(apply u_g;(focus rfl);apply op_gyes rfl rfl rfl rfl rfl;first|((apply u_k 10;(focus rfl);exact op_bs ⟨rfl,rfl,rfl⟩ rfl inferInstance inferInstance inferInstance rfl (by first|exact hx|exact hy|exact hz))))));refine w0 ?_)));all_goals clear kc1 kr6 kr5 kr4 kr3 kr2 kr1 kn1)
   refine rt2 ?_ ?_
   · exact rv_wk (rv_cA inferInstance inferInstance rfl rfl rfl rfl rfl rfl) aI
   · exact rv_int rfl rfl
 rw [if_neg hf] at hR
 have hf:f2 = 0:=Decidable.not_not.1 hf
 subst hf
 by_cases hi:i2 ≠ 0
 · rw [if_pos hi] at hR
   subst hR
   clear c3 hB
   refine fi Tryz.func10 Tryz.ntmps10 ?_
   (have kn1:=a0;have kr1:=a1;have kr2:=a2;have kr3:=a3;have kr4:=a4;have kr5:=a5;have kr6:=a6;have kc1:=c1;have kc2:=c2;refine w0 ?_;(repeat' (first|refine W2.mk ?_ ?_|refine W1.mk fun hc=>?_|((first|apply AL_t rfl|apply AL_0 rfl|apply AD_t rfl|apply AD_0 rfl);(focus (first|((apply u_k 10;(focus rfl);exact op_bs ⟨rfl,rfl,rfl⟩ rfl inferInstance inferInstance inferInstance rfl (by first|exact hx|exact hy|exact hz)))|(apply u_g;(focus rfl);apply op_gyes rfl rfl rfl rfl rfl;first|((apply u_k 10;(focus rfl);exact op_bs ⟨rfl,rfl,rfl⟩ rfl inferInstance inferInstance inferInstance rfl (by first|exact hx|exact hy|exact hz))))));refine w0 ?_)));all_goals clear kc2 kc1 kr6 kr5 kr4 kr3 kr2 kr1 kn1)
   refine rt2 ?_ ?_
   · exact rv_wk (rv_cA inferInstance inferInstance rfl rfl rfl rfl rfl rfl) aI
   · exact rv_int rfl rfl
 rw [if_neg hi] at hR
 have hi:i2 = 0:=Decidable.not_not.1 hi
 subst hi
 by_cases hk:k2 ≠ 0
 · rw [if_pos hk] at hR
   subst hR
   clear hB
   refine fi Tryz.func10 Tryz.ntmps10 ?_
   (have kn1:=a0;have kr1:=a1;have kr2:=a2;have kr3:=a3;have kr4:=a4;have kr5:=a5;have kr6:=a6;have kc1:=c1;have kc2:=c2;have kc3:=c3;refine w0 ?_;(repeat' (first|refine W2.mk ?_ ?_|refine W1.mk fun hc=>?_|((first|apply AL_t rfl|apply AL_0 rfl|apply AD_t rfl|apply AD_0 rfl);(focus (first|((apply u_k 10;(focus rfl);exact op_bs ⟨rfl,rfl,rfl⟩ rfl inferInstance inferInstance inferInstance rfl (by first|exact hx|exact hy|exact hz)))|(apply u_g;(focus rfl);apply op_gyes rfl rfl rfl rfl rfl;first|((apply u_k 10;(focus rfl);exact op_bs ⟨rfl,rfl,rfl⟩ rfl inferInstance inferInstance inferInstance rfl (by first|exact hx|exact hy|exact hz))))));refine w0 ?_)));all_goals clear kc3 kc2 kc1 kr6 kr5 kr4 kr3 kr2 kr1 kn1)
   refine rt2 ?_ ?_
   · exact rv_wk (rv_cA inferInstance inferInstance rfl rfl rfl rfl rfl rfl) aI
   · exact rv_int rfl rfl
 rw [if_neg hk] at hR
 have hk:k2 = 0:=Decidable.not_not.1 hk
 subst hk
 have c4:=st_Right _ (hB rfl rfl rfl hkl)
 clear hB
 generalize stR ⟨id,f1,i1,k1,cnt⟩ = br at *
 cases br with
 | false=>
   rw [if_neg (by simp)] at hR
   subst hR
   refine fi Tryz.func10 Tryz.ntmps10 ?_
   (have kn1:=a0;have kr1:=a1;have kr2:=a2;have kr3:=a3;have kr4:=a4;have kr5:=a5;have kr6:=a6;have kc1:=c1;have kc2:=c2;have kc3:=c3;have kc4:=c4;refine w0 ?_;(repeat' (first|refine W2.mk ?_ ?_|refine W1.mk fun hc=>?_|((first|apply AL_t rfl|apply AL_0 rfl|apply AD_t rfl|apply AD_0 rfl);(focus (first|((apply u_k 10;(focus rfl);exact op_bs ⟨rfl,rfl,rfl⟩ rfl inferInstance inferInstance inferInstance rfl (by first|exact hx|exact hy|exact hz)))|(apply u_g;(focus rfl);apply op_gyes rfl rfl rfl rfl rfl;first|((apply u_k 10;(focus rfl);exact op_bs ⟨rfl,rfl,rfl⟩ rfl inferInstance inferInstance inferInstance rfl (by first|exact hx|exact hy|exact hz))))));refine w0 ?_)));all_goals clear kc4 kc3 kc2 kc1 kr6 kr5 kr4 kr3 kr2 kr1 kn1)
   refine rt2 ?_ ?_
   · exact rv_wk (rv_cA inferInstance inferInstance rfl rfl rfl rfl rfl rfl) aI
   · exact rv_int rfl rfl
 | true=>
   rw [if_pos rfl] at hR
   subst hR
   refine fi Tryz.func10 Tryz.ntmps10 ?_
   (have kn1:=a0;have kr1:=a1;have kr2:=a2;have kr3:=a3;have kr4:=a4;have kr5:=a5;have kr6:=a6;have kc1:=c1;have kc2:=c2;have kc3:=c3;have kc4:=c4;refine w0 ?_;(repeat' (first|refine W2.mk ?_ ?_|refine W1.mk fun hc=>?_|((first|apply AL_t rfl|apply AL_0 rfl|apply AD_t rfl|apply AD_0 rfl);(focus (first|((apply u_k 10;(focus rfl);exact op_bs ⟨rfl,rfl,rfl⟩ rfl inferInstance inferInstance inferInstance rfl (by first|exact hx|exact hy|exact hz)))|(apply u_g;(focus rfl);apply op_gyes rfl rfl rfl rfl rfl;first|((apply u_k 10;(focus rfl);exact op_bs ⟨rfl,rfl,rfl⟩ rfl inferInstance inferInstance inferInstance rfl (by first|exact hx|exact hy|exact hz))))));refine w0 ?_)));all_goals clear kc4 kc3 kc2 kc1 kr6 kr5 kr4 kr3 kr2 kr1 kn1)
   refine rt2 ?_ ?_
   · exact rv_wk (rv_cA inferInstance inferInstance rfl rfl rfl rfl rfl rfl) aI
   · exact rv_int rfl rfl
theorem im_note (l:List UInt8) (hl:l.length ≤ 1000000):FnM Tryz.prog 61 [.aggK rdC .aggN] [(1000,rdBox l 0)] (.tup3 (ntC (rdNh l).1) (.per (bysP (rdNh l).2.1)) (.per (bysP (rdNh l).2.2.1))) [(1000,rdBox (rdNh l).2.2.2.1 (rdNh l).2.2.2.2)]:=by
 generalize hR:rdNh l = R
 dsimp only [rdNh,maxN] at hR
 have a1:=r_Within l 0 1 5
 have s1:=(withinSt_suf 1 5 l 0).length_le
 generalize withinSt 1 5 l 0 = q1 at *
 obtain ⟨k,l1,e1⟩:=q1
 dsimp only at a1 s1 hR
 by_cases c1:k = 1
 · subst c1
   simp only [if_true] at hR
   have a2:=r_Text l1 e1 281474976710656
   have t2:=textSt_ln 281474976710656 l1 e1
   generalize textSt 281474976710656 l1 e1 = q2 at *
   obtain ⟨x,l2,e2⟩:=q2
   dsimp only at a2 t2 hR
   have hx:(⟨x.toArray⟩:ByteArray).size ≤ 1000000000000:=by show x.toArray.size ≤ _;rw [List.size_toArray];omega
   subst hR
   clear s1 t2 hl
   refine fmi Tryz.func61 Tryz.ntmps61 ?_
   (have kr1:=a1;have kr2:=a2;refine w0 ?_;(repeat' (first|refine W2.mk ?_ ?_|refine W1.mk fun hc=>?_|((first|apply AL_t rfl|apply AL_0 rfl|apply AD_t rfl|apply AD_0 rfl);(focus (first|((apply u_k 10;(focus rfl);exact op_bs ⟨rfl,rfl,rfl⟩ rfl inferInstance inferInstance inferInstance rfl (by first|exact hx|decide)))|(apply u_g;(focus rfl);apply op_gyes rfl rfl rfl rfl rfl;first|((apply u_k 10;(focus rfl);exact op_bs ⟨rfl,rfl,rfl⟩ rfl inferInstance inferInstance inferInstance rfl (by first|exact hx|decide))))));refine w0 ?_)));all_goals clear kr2 kr1)
   (refine ⟨(by first|exact .inl rfl|exact .inr rfl),resM3 [(1000,1000)] rfl rfl ?_ ?_ ?_ ?_⟩;(focus (repeat (first|exact AllX.nil|(refine AllX.cons rfl ?_ ?_;(focus first|rfl|skip))))))
   · exact rvm_wk (rvm_cellA inferInstance inferInstance rfl rfl rfl rfl rfl rfl) aI
   · exact rvm rfl rfl
   · exact rvm rfl rfl
 rw [if_neg c1] at hR
 by_cases c2:k = 2
 · subst c2
   simp only [if_true] at hR
   have a2:=r_Text l1 e1 16
   generalize textSt 16 l1 e1 = q2 at *
   obtain ⟨x,l2,e2⟩:=q2
   dsimp only at a2 hR
   have a3:=r_Within l2 e2 0 255
   generalize withinSt 0 255 l2 e2 = q3 at *
   obtain ⟨p,l3,e3⟩:=q3
   dsimp only at a3 hR
   have a4:=r_Text l3 e3 64
   generalize textSt 64 l3 e3 = q4 at *
   obtain ⟨y,l4,e4⟩:=q4
   dsimp only at a4 hR
   subst hR
   clear s1 hl
   refine fmi Tryz.func61 Tryz.ntmps61 ?_
   (have kr1:=a1;have kr2:=a2;have kr3:=a3;have kr4:=a4;refine w0 ?_;(repeat' (first|refine W2.mk ?_ ?_|refine W1.mk fun hc=>?_|((first|apply AL_t rfl|apply AL_0 rfl|apply AD_t rfl|apply AD_0 rfl);(focus (first|((apply u_k 10;(focus rfl);exact op_bs ⟨rfl,rfl,rfl⟩ rfl inferInstance inferInstance inferInstance rfl (by decide)))|(apply u_g;(focus rfl);apply op_gyes rfl rfl rfl rfl rfl;first|((apply u_k 10;(focus rfl);exact op_bs ⟨rfl,rfl,rfl⟩ rfl inferInstance inferInstance inferInstance rfl (by decide))))));refine w0 ?_)));all_goals clear kr4 kr3 kr2 kr1)
   (refine ⟨(by first|exact .inl rfl|exact .inr rfl),resM3 [(1000,1000)] rfl rfl ?_ ?_ ?_ ?_⟩;(focus (repeat (first|exact AllX.nil|(refine AllX.cons rfl ?_ ?_;(focus first|rfl|skip))))))
   · exact rvm_wk (rvm_cellA inferInstance inferInstance rfl rfl rfl rfl rfl rfl) aI
   · exact rvm rfl rfl
   · exact rvm rfl rfl
 rw [if_neg c2] at hR
 by_cases c3:k = 3
 · subst c3
   simp only [if_true] at hR
   have a2:=r_Text l1 e1 16
   generalize textSt 16 l1 e1 = q2 at *
   obtain ⟨x,l2,e2⟩:=q2
   dsimp only at a2 hR
   subst hR
   clear s1 hl
   refine fmi Tryz.func61 Tryz.ntmps61 ?_
   (have kr1:=a1;have kr2:=a2;refine w0 ?_;(repeat' (first|refine W2.mk ?_ ?_|refine W1.mk fun hc=>?_|((first|apply AL_t rfl|apply AL_0 rfl|apply AD_t rfl|apply AD_0 rfl);(focus (first|((apply u_k 10;(focus rfl);exact op_bs ⟨rfl,rfl,rfl⟩ rfl inferInstance inferInstance inferInstance rfl (by decide)))|(apply u_g;(focus rfl);apply op_gyes rfl rfl rfl rfl rfl;first|((apply u_k 10;(focus rfl);exact op_bs ⟨rfl,rfl,rfl⟩ rfl inferInstance inferInstance inferInstance rfl (by decide))))));refine w0 ?_)));all_goals clear kr2 kr1)
   (refine ⟨(by first|exact .inl rfl|exact .inr rfl),resM3 [(1000,1000)] rfl rfl ?_ ?_ ?_ ?_⟩;(focus (repeat (first|exact AllX.nil|(refine AllX.cons rfl ?_ ?_;(focus first|rfl|skip))))))
   · exact rvm_wk (rvm_cellA inferInstance inferInstance rfl rfl rfl rfl rfl rfl) aI
   · exact rvm rfl rfl
   · exact rvm rfl rfl
 rw [if_neg c3] at hR
 by_cases c4:k = 4
 · subst c4
   simp only [if_true] at hR
   have a2:=r_Number l1 e1
   generalize numSt l1 e1 = q2 at *
   obtain ⟨x,l2,e2⟩:=q2
   dsimp only at a2 hR
   subst hR
   clear s1 hl
   refine fmi Tryz.func61 Tryz.ntmps61 ?_
   (have kr1:=a1;have kr2:=a2;refine w0 ?_;(repeat' (first|refine W2.mk ?_ ?_|refine W1.mk fun hc=>?_|((first|apply AL_t rfl|apply AL_0 rfl|apply AD_t rfl|apply AD_0 rfl);(focus (first|((apply u_k 10;(focus rfl);exact op_bs ⟨rfl,rfl,rfl⟩ rfl inferInstance inferInstance inferInstance rfl (by decide)))|(apply u_g;(focus rfl);apply op_gyes rfl rfl rfl rfl rfl;first|((apply u_k 10;(focus rfl);exact op_bs ⟨rfl,rfl,rfl⟩ rfl inferInstance inferInstance inferInstance rfl (by decide))))));refine w0 ?_)));all_goals clear kr2 kr1)
   (refine ⟨(by first|exact .inl rfl|exact .inr rfl),resM3 [(1000,1000)] rfl rfl ?_ ?_ ?_ ?_⟩;(focus (repeat (first|exact AllX.nil|(refine AllX.cons rfl ?_ ?_;(focus first|rfl|skip))))))
   · exact rvm_wk (rvm_cellA inferInstance inferInstance rfl rfl rfl rfl rfl rfl) aI
   · exact rvm rfl rfl
   · exact rvm rfl rfl
 rw [if_neg c4] at hR
 by_cases c5:k = 5
 · subst c5
   simp only [if_true] at hR
   have a2:=r_Number l1 e1
   have s2:=(numSt_suf l1 e1).length_le
   generalize numSt l1 e1 = q2 at *
   obtain ⟨n2,l2,e2⟩:=q2
   dsimp only at a2 s2 hR
   have a3:=r_Number l2 e2
   have s3:=(numSt_suf l2 e2).length_le
   generalize numSt l2 e2 = q3 at *
   obtain ⟨n3,l3,e3⟩:=q3
   dsimp only at a3 s3 hR
   have a4:=r_Number l3 e3
   have s4:=(numSt_suf l3 e3).length_le
   generalize numSt l3 e3 = q4 at *
   obtain ⟨n4,l4,e4⟩:=q4
   dsimp only at a4 s4 hR
   have a5:=r_Text l4 e4 281474976710656
   have s5:=(textSt_suf 281474976710656 l4 e4).length_le
   have t5:=textSt_ln 281474976710656 l4 e4
   generalize textSt 281474976710656 l4 e4 = q5 at *
   obtain ⟨x,l5,e5⟩:=q5
   dsimp only at a5 s5 t5 hR
   have a6:=r_Text l5 e5 281474976710656
   have t6:=textSt_ln 281474976710656 l5 e5
   generalize textSt 281474976710656 l5 e5 = q6 at *
   obtain ⟨y,l6,e6⟩:=q6
   dsimp only at a6 t6 hR
   have hx:(⟨x.toArray⟩:ByteArray).size ≤ 1000000000000:=by show x.toArray.size ≤ _;rw [List.size_toArray];omega
   have hy:(⟨y.toArray⟩:ByteArray).size ≤ 1000000000000:=by show y.toArray.size ≤ _;rw [List.size_toArray];omega
   subst hR
   clear s1 s2 s3 s4 s5 t5 t6 hl
   refine fmi Tryz.func61 Tryz.ntmps61 ?_
   (have kr1:=a1;have kr2:=a2;have kr3:=a3;have kr4:=a4;have kr5:=a5;have kr6:=a6;refine w0 ?_;(repeat' (first|refine W2.mk ?_ ?_|refine W1.mk fun hc=>?_|((first|apply AL_t rfl|apply AL_0 rfl|apply AD_t rfl|apply AD_0 rfl);(focus (first|((apply u_k 10;(focus rfl);exact op_bs ⟨rfl,rfl,rfl⟩ rfl inferInstance inferInstance inferInstance rfl (by first|exact hx|exact hy)))|(apply u_g;(focus rfl);apply op_gyes rfl rfl rfl rfl rfl;first|((apply u_k 10;(focus rfl);exact op_bs ⟨rfl,rfl,rfl⟩ rfl inferInstance inferInstance inferInstance rfl (by first|exact hx|exact hy))))));refine w0 ?_)));all_goals clear kr6 kr5 kr4 kr3 kr2 kr1)
   (refine ⟨(by first|exact .inl rfl|exact .inr rfl),resM3 [(1000,1000)] rfl rfl ?_ ?_ ?_ ?_⟩;(focus (repeat (first|exact AllX.nil|(refine AllX.cons rfl ?_ ?_;(focus first|rfl|skip))))))
   · exact rvm_wk (rvm_cellA inferInstance inferInstance rfl rfl rfl rfl rfl rfl) aI
   · exact rvm rfl rfl
   · exact rvm rfl rfl
 rw [if_neg c5] at hR
 subst hR
 clear s1 hl
 refine fmi Tryz.func61 Tryz.ntmps61 ?_
 (have kr1:=a1;refine w0 ?_;(repeat' (first|refine W2.mk ?_ ?_|refine W1.mk fun hc=>?_|((first|apply AL_t rfl|apply AL_0 rfl|apply AD_t rfl|apply AD_0 rfl);(focus (first|((apply u_k 10;(focus rfl);exact op_bs ⟨rfl,rfl,rfl⟩ rfl inferInstance inferInstance inferInstance rfl (by decide)))|(apply u_g;(focus rfl);apply op_gyes rfl rfl rfl rfl rfl;first|((apply u_k 10;(focus rfl);exact op_bs ⟨rfl,rfl,rfl⟩ rfl inferInstance inferInstance inferInstance rfl (by decide))))));refine w0 ?_)));all_goals clear kr1)
 (refine ⟨(by first|exact .inl rfl|exact .inr rfl),resM3 [(1000,1000)] rfl rfl ?_ ?_ ?_ ?_⟩;(focus (repeat (first|exact AllX.nil|(refine AllX.cons rfl ?_ ?_;(focus first|rfl|skip))))))
 · exact rvm_wk (rvm_cellA inferInstance inferInstance rfl rfl rfl rfl rfl rfl) aI
 · exact rvm rfl rfl
 · exact rvm rfl rfl
end
end Go.Proofs.YtfcpkegmdlchhaaGreat
