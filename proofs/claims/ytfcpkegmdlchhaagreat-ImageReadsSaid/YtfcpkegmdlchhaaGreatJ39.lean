/- Texts joined: ImUf. -/
import Derived.Test.YtfcpkegmdlchhaaGreatJ38
import Derived.Test.YtfcpkegmdlchhaaGreatJ06
set_option maxRecDepth 10000
set_option maxHeartbeats 8000000
namespace Go.Proofs.YtfcpkegmdlchhaaGreat
open Go.RowKit
section
theorem rim_Read_5 (b:List UInt8) (hb:b.length ≤ 1000000) (hk:(withinSt 1 5 b 0).1 = 5) :
   Fn Tryz.prog 22 [.per (bysP b)] (.tup2 (.per (ntP (rdNt b).1)) (inR (rdNt b).2)):=by
 have hL0:b.length ≤ 1000000000000:=by omega
 have hs0:b <:+ b:=List.suffix_refl b
 generalize hR:rdNh b = R
 rw [rdNt_of hR]
 dsimp only [rdNh,maxN] at hR
 have a1:=rr_Within b b 0 hs0 hL0 1 5
 have s1:=(withinSt_suf 1 5 b 0).trans hs0
 generalize withinSt 1 5 b 0 = q1 at *
 obtain ⟨k,l1,e1⟩:=q1
 dsimp only at a1 s1 hR
 have e0:((b.length - b.length:Nat):Int) = 0:=by omega
 unfold rrBox at a1
 rw [e0] at a1
 clear e0 hs0
 have hk:k = 5:=hk
 subst hk
 rw [if_neg (show ¬ (5:Int) = 1 by decide)] at hR
 rw [if_neg (show ¬ (5:Int) = 2 by decide)] at hR
 rw [if_neg (show ¬ (5:Int) = 3 by decide)] at hR
 rw [if_neg (show ¬ (5:Int) = 4 by decide)] at hR
 rw [if_pos (show (5:Int) = 5 from rfl)] at hR
 try dsimp only at hR
 have a2:=rr_Number b l1 e1 s1 hL0
 have s2:=(numSt_suf l1 e1).trans s1
 generalize numSt l1 e1 = q2 at *
 obtain ⟨s,l2,e2⟩:=q2
 dsimp only at a2 s2 hR
 have a3:=rr_Number b l2 e2 s2 hL0
 have s3:=(numSt_suf l2 e2).trans s2
 generalize numSt l2 e2 = q3 at *
 obtain ⟨m,l3,e3⟩:=q3
 dsimp only at a3 s3 hR
 have a4:=rr_Number b l3 e3 s3 hL0
 have s4:=(numSt_suf l3 e3).trans s3
 generalize numSt l3 e3 = q4 at *
 obtain ⟨t,l4,e4⟩:=q4
 dsimp only at a4 s4 hR
 have a5:=rr_Text b l4 e4 s4 hL0 281474976710656
 have s5:=(textSt_suf 281474976710656 l4 e4).trans s4
 have t5:=textSt_ln 281474976710656 l4 e4
 have u5:=s4.length_le
 generalize textSt 281474976710656 l4 e4 = q5 at *
 obtain ⟨x,l5,e5⟩:=q5
 dsimp only at a5 s5 t5 hR
 have a6:=rr_Text b l5 e5 s5 hL0 281474976710656
 have s6:=(textSt_suf 281474976710656 l5 e5).trans s5
 have t6:=textSt_ln 281474976710656 l5 e5
 have u6:=s5.length_le
 generalize textSt 281474976710656 l5 e5 = q6 at *
 obtain ⟨y,l6,e6⟩:=q6
 dsimp only at a6 s6 t6 hR
 have z1:=rr_End b l6 e6 s6
 subst hR
 try dsimp only
 generalize endSt l6 e6 = v at *
 dsimp only [rrBox] at a1 a2 a3 a4 a5 a6 z1
 generalize ((b.length - l1.length:Nat):Int) = o1 at a1 a2 a3 a4 a5 a6 z1
 generalize ((b.length - l2.length:Nat):Int) = o2 at a1 a2 a3 a4 a5 a6 z1
 generalize ((b.length - l3.length:Nat):Int) = o3 at a1 a2 a3 a4 a5 a6 z1
 generalize ((b.length - l4.length:Nat):Int) = o4 at a1 a2 a3 a4 a5 a6 z1
 generalize ((b.length - l5.length:Nat):Int) = o5 at a1 a2 a3 a4 a5 a6 z1
 generalize ((b.length - l6.length:Nat):Int) = o6 at a1 a2 a3 a4 a5 a6 z1
 have hlx:x.length ≤ 1000000:=by omega
 have hx:(⟨x.toArray⟩:ByteArray).size ≤ 1000000000000:=by show x.toArray.size ≤ _;rw [List.size_toArray];omega
 have hly:y.length ≤ 1000000:=by omega
 have hy:(⟨y.toArray⟩:ByteArray).size ≤ 1000000000000:=by show y.toArray.size ≤ _;rw [List.size_toArray];omega
 clear s1 s2 s3 s4 s5 s6 t5 u5 t6 u6 hL0 hb
 by_cases hv:v ≠ 0
 · rw [if_pos hv]
   refine fi Tryz.func22 Tryz.ntmps22 ?_
   (refine w0 ?_;(repeat' first|refine W2.mk ?_ ?_|refine W1.mk fun hc=>?_))
   refine AL_le (Le_boxW 5 _ 39 zntCs (ntCs {}) rfl rfl znt_pw) ?_
   (have kr1:=a1;have kr2:=a2;have kr3:=a3;have kr4:=a4;have kr5:=a5;have kr6:=a6;have kr7:=z1;refine w0 ?_;(repeat' first|refine W2.mk ?_ ?_|refine W1.mk fun hc=>?_);all_goals clear kr7 kr6 kr5 kr4 kr3 kr2 kr1)
   refine rt2 ?_ ?_
   · exact rv_wk (rv_cA inferInstance inferInstance rfl rfl rfl rfl rfl rfl) aI
   · exact rv_int rfl rfl
 rw [if_neg hv]
 have hv:v = 0:=Decidable.not_not.1 hv
 subst hv
 have b1:=(ref_ReadItems x (by omega)).frz
 have b2:=(rkc_ReadKnow y (by omega)).frz
 have hB1:=rdItems_back (b:=x)
 have hB2:=(rdKnow_sz y).1
 unfold rdNp
 rw [if_neg (show ¬ (5:Int) = 1 by decide),if_pos (show (5:Int) = 5 from rfl)]
 generalize rdItems x = I at *
 obtain ⟨i,ie⟩:=I
 generalize rdKnow y = K at *
 obtain ⟨k,ke⟩:=K
 dsimp only at b1 b2 hB1 hB2 ⊢
 by_cases hi:ie ≠ 0
 · rw [if_pos hi]
   dsimp only
   rw [if_pos hi]
   clear hB1 hB2 b2
   refine fi Tryz.func22 Tryz.ntmps22 ?_
   (refine w0 ?_;(repeat' first|refine W2.mk ?_ ?_|refine W1.mk fun hc=>?_))
   refine AL_le (Le_boxW 5 _ 39 zntCs (ntCs {}) rfl rfl znt_pw) ?_
   (have kr1:=a1;have kr2:=a2;have kr3:=a3;have kr4:=a4;have kr5:=a5;have kr6:=a6;have kr7:=z1;have kc1:=b1;refine w0 ?_;(repeat' (first|refine W2.mk ?_ ?_|refine W1.mk fun hc=>?_|((first|apply AL_t rfl|apply AL_0 rfl|apply AD_t rfl|apply AD_0 rfl);(focus (first|((apply u_k 10;(focus rfl);exact op_bs ⟨rfl,rfl,rfl⟩ rfl inferInstance inferInstance inferInstance rfl (by first|exact hx|exact hy|decide)))|(apply u_g;(focus rfl);apply op_gyes rfl rfl rfl rfl rfl;first|((apply u_k 10;(focus rfl);exact op_bs ⟨rfl,rfl,rfl⟩ rfl inferInstance inferInstance inferInstance rfl (by first|exact hx|exact hy|decide))))));refine w0 ?_)));all_goals clear kc1 kr7 kr6 kr5 kr4 kr3 kr2 kr1)
   refine rt2 ?_ ?_
   · exact rv_wk (rv_cA inferInstance inferInstance rfl rfl rfl rfl rfl rfl) aI
   · exact rv_int rfl rfl
 rw [if_neg hi]
 have hi:ie = 0:=Decidable.not_not.1 hi
 subst hi
 by_cases hc2:ke ≠ 0
 · rw [if_pos hc2]
   dsimp only
   rw [if_pos hc2]
   clear hB1 hB2
   refine fi Tryz.func22 Tryz.ntmps22 ?_
   (refine w0 ?_;(repeat' first|refine W2.mk ?_ ?_|refine W1.mk fun hc=>?_))
   refine AL_le (Le_boxW 5 _ 39 zntCs (ntCs {}) rfl rfl znt_pw) ?_
   (have kr1:=a1;have kr2:=a2;have kr3:=a3;have kr4:=a4;have kr5:=a5;have kr6:=a6;have kr7:=z1;have kc1:=b1;have kc2:=b2;refine w0 ?_;(repeat' (first|refine W2.mk ?_ ?_|refine W1.mk fun hc=>?_|((first|apply AL_t rfl|apply AL_0 rfl|apply AD_t rfl|apply AD_0 rfl);(focus (first|((apply u_k 10;(focus rfl);exact op_bs ⟨rfl,rfl,rfl⟩ rfl inferInstance inferInstance inferInstance rfl (by first|exact hx|exact hy|decide)))|(apply u_g;(focus rfl);apply op_gyes rfl rfl rfl rfl rfl;first|((apply u_k 10;(focus rfl);exact op_bs ⟨rfl,rfl,rfl⟩ rfl inferInstance inferInstance inferInstance rfl (by first|exact hx|exact hy|decide))))));refine w0 ?_)));all_goals clear kc2 kc1 kr7 kr6 kr5 kr4 kr3 kr2 kr1)
   refine rt2 ?_ ?_
   · exact rv_wk (rv_cA inferInstance inferInstance rfl rfl rfl rfl rfl rfl) aI
   · exact rv_int rfl rfl
 rw [if_neg hc2]
 have hc2:ke = 0:=Decidable.not_not.1 hc2
 subst hc2
 dsimp only
 rw [if_neg (show ¬ (0:Int) ≠ 0 by decide)]
 obtain ⟨g1,g2,_⟩:=hB1 rfl
 have b3:=rim_Right { kind:=5,ses:=s,num:=m,nxt:=t,its:=i,know:=k } stB_z (fun w hw=>by
   rw [List.all_eq_true] at g1
   have:=(itR_nums (g1 w hw)).2.2.2
   omega) (by simp only;omega) hB2
 clear hB1 hB2 g1 g2
 generalize ntR { kind:=5,ses:=s,num:=m,nxt:=t,its:=i,know:=k } = br at *
 cases br with
 | false=>
   rw [if_neg (by simp)]
   refine fi Tryz.func22 Tryz.ntmps22 ?_
   (refine w0 ?_;(repeat' first|refine W2.mk ?_ ?_|refine W1.mk fun hc=>?_))
   refine AL_le (Le_boxW 5 _ 39 zntCs (ntCs {}) rfl rfl znt_pw) ?_
   (have kr1:=a1;have kr2:=a2;have kr3:=a3;have kr4:=a4;have kr5:=a5;have kr6:=a6;have kr7:=z1;have kc1:=b1;have kc2:=b2;have kc3:=b3;refine w0 ?_;(repeat' (first|refine W2.mk ?_ ?_|refine W1.mk fun hc=>?_|((first|apply AL_t rfl|apply AL_0 rfl|apply AD_t rfl|apply AD_0 rfl);(focus (first|((apply u_k 10;(focus rfl);exact op_bs ⟨rfl,rfl,rfl⟩ rfl inferInstance inferInstance inferInstance rfl (by first|exact hx|exact hy|decide)))|(apply u_g;(focus rfl);apply op_gyes rfl rfl rfl rfl rfl;first|((apply u_k 10;(focus rfl);exact op_bs ⟨rfl,rfl,rfl⟩ rfl inferInstance inferInstance inferInstance rfl (by first|exact hx|exact hy|decide))))));refine w0 ?_)));all_goals clear kc3 kc2 kc1 kr7 kr6 kr5 kr4 kr3 kr2 kr1)
   refine rt2 ?_ ?_
   · exact rv_wk (rv_cA inferInstance inferInstance rfl rfl rfl rfl rfl rfl) aI
   · exact rv_int rfl rfl
 | true=>
   rw [if_pos rfl]
   refine fi Tryz.func22 Tryz.ntmps22 ?_
   (refine w0 ?_;(repeat' first|refine W2.mk ?_ ?_|refine W1.mk fun hc=>?_))
   refine AL_le (Le_boxW 5 _ 39 zntCs (ntCs {}) rfl rfl znt_pw) ?_
   (have kr1:=a1;have kr2:=a2;have kr3:=a3;have kr4:=a4;have kr5:=a5;have kr6:=a6;have kr7:=z1;have kc1:=b1;have kc2:=b2;have kc3:=b3;refine w0 ?_;(repeat' (first|refine W2.mk ?_ ?_|refine W1.mk fun hc=>?_|((first|apply AL_t rfl|apply AL_0 rfl|apply AD_t rfl|apply AD_0 rfl);(focus (first|((apply u_k 10;(focus rfl);exact op_bs ⟨rfl,rfl,rfl⟩ rfl inferInstance inferInstance inferInstance rfl (by first|exact hx|exact hy|decide)))|(apply u_g;(focus rfl);apply op_gyes rfl rfl rfl rfl rfl;first|((apply u_k 10;(focus rfl);exact op_bs ⟨rfl,rfl,rfl⟩ rfl inferInstance inferInstance inferInstance rfl (by first|exact hx|exact hy|decide))))));refine w0 ?_)));all_goals clear kc3 kc2 kc1 kr7 kr6 kr5 kr4 kr3 kr2 kr1)
   refine rt2 ?_ ?_
   · exact rv_wk (rv_cA inferInstance inferInstance rfl rfl rfl rfl rfl rfl) aI
   · exact rv_int rfl rfl
end
end Go.Proofs.YtfcpkegmdlchhaaGreat
