/- Texts joined: ImSr. -/
import Derived.Test.YtfcpkegmdlchhaaGreatJ36
import Derived.Test.YtfcpkegmdlchhaaGreatJ06
set_option maxRecDepth 10000
set_option maxHeartbeats 8000000
namespace Go.Proofs.YtfcpkegmdlchhaaGreat
open Go.RowKit
section
theorem rim_ReadState (b:List UInt8) (hb:b.length ≤ 1000000):Fn Tryz.prog 21 [.per (bysP b)] (.tup2 (.per (stP (rdSt b).1)) (inR (rdSt b).2)):=by
 generalize hR:rdSt b = R
 unfold rdSt rdSh at hR
 dsimp only at hR
 have hL0:b.length ≤ 1000000000000:=by omega
 have hs0:b <:+ b:=List.suffix_refl b
 have a1:=rr_Within b b 0 hs0 hL0 1 16
 have e0:((b.length - b.length:Nat):Int) = 0:=by omega
 unfold rrBox at a1
 rw [e0] at a1
 clear e0
 have s1:=(withinSt_suf 1 16 b 0).trans hs0
 generalize withinSt 1 16 b 0 = q1 at *
 obtain ⟨id,l1,e1⟩:=q1
 dsimp only at a1 s1 hR
 have a2:=rr_Within b l1 e1 s1 hL0 0 1099511627776
 have s2:=(withinSt_suf 0 1099511627776 l1 e1).trans s1
 generalize withinSt 0 1099511627776 l1 e1 = q2 at *
 obtain ⟨cnt,l2,e2⟩:=q2
 dsimp only [maxN] at a2 s2 hR
 have a3:=rr_Text b l2 e2 s2 hL0 281474976710656
 have s3:=(textSt_suf 281474976710656 l2 e2).trans s2
 have t3:=textSt_ln 281474976710656 l2 e2
 have u2:=s2.length_le
 generalize textSt 281474976710656 l2 e2 = q3 at *
 obtain ⟨f,l3,e3⟩:=q3
 dsimp only at a3 s3 t3 hR
 have a4:=rr_Text b l3 e3 s3 hL0 281474976710656
 have s4:=(textSt_suf 281474976710656 l3 e3).trans s3
 have t4:=textSt_ln 281474976710656 l3 e3
 have u3:=s3.length_le
 generalize textSt 281474976710656 l3 e3 = q4 at *
 obtain ⟨i,l4,e4⟩:=q4
 dsimp only at a4 s4 t4 hR
 have a5:=rr_Text b l4 e4 s4 hL0 281474976710656
 have s5:=(textSt_suf 281474976710656 l4 e4).trans s4
 have t5:=textSt_ln 281474976710656 l4 e4
 have u4:=s4.length_le
 generalize textSt 281474976710656 l4 e4 = q5 at *
 obtain ⟨k,l5,e5⟩:=q5
 dsimp only at a5 s5 t5 hR
 have a6:=rr_End b l5 e5 s5
 generalize endSt l5 e5 = v at *
 dsimp only [rrBox] at a1 a2 a3 a4 a5 a6
 generalize ((b.length - l1.length:Nat):Int) = o1 at a1 a2 a3 a4 a5 a6
 generalize ((b.length - l2.length:Nat):Int) = o2 at a1 a2 a3 a4 a5 a6
 generalize ((b.length - l3.length:Nat):Int) = o3 at a1 a2 a3 a4 a5 a6
 generalize ((b.length - l4.length:Nat):Int) = o4 at a1 a2 a3 a4 a5 a6
 generalize ((b.length - l5.length:Nat):Int) = o5 at a1 a2 a3 a4 a5 a6
 have hx:(⟨f.toArray⟩:ByteArray).size ≤ 1000000000000:=by show f.toArray.size ≤ _;rw [List.size_toArray];omega
 have hy:(⟨i.toArray⟩:ByteArray).size ≤ 1000000000000:=by show i.toArray.size ≤ _;rw [List.size_toArray];omega
 have hz:(⟨k.toArray⟩:ByteArray).size ≤ 1000000000000:=by show k.toArray.size ≤ _;rw [List.size_toArray];omega
 have c1:=(ref_ReadRanges f (by omega)).frz
 have c2:=(ref_ReadItems i (by omega)).frz
 have c3:=(rkc_ReadKnow k (by omega)).frz
 have hkl:k.length ≤ 1000000:=by omega
 clear s1 s2 s3 s4 s5 t3 t4 t5 u2 u3 u4 hs0 hL0 hb
 by_cases hv:v ≠ 0
 · rw [if_pos hv] at hR
   subst hR
   clear c1 c2 c3
   refine fi Tryz.func21 Tryz.ntmps21 ?_
   (have kr1:=a1;have kr2:=a2;have kr3:=a3;have kr4:=a4;have kr5:=a5;have kr6:=a6;refine w0 ?_;(repeat' first|refine W2.mk ?_ ?_|refine W1.mk fun hc=>?_);all_goals clear kr6 kr5 kr4 kr3 kr2 kr1)
   refine rt2 ?_ ?_
   · exact rv_wk (rv_cA inferInstance inferInstance rfl rfl rfl rfl rfl rfl) aI
   · exact rv_int rfl rfl
 rw [if_neg hv] at hR
 have hv:v = 0:=Decidable.not_not.1 hv
 subst hv
 unfold rdSp at hR
 have hB:=sta_B (f:=f) (i:=i) (k:=k) id cnt
 generalize rdRgs f = F at *
 generalize rdItems i = I at *
 generalize rdKnow k = K at *
 obtain ⟨f1,f2⟩:=F
 obtain ⟨i1,i2⟩:=I
 obtain ⟨k1,k2⟩:=K
 dsimp only at c1 c2 c3 hB hR
 by_cases hf:f2 ≠ 0
 · rw [if_pos hf] at hR
   subst hR
   clear c2 c3 hB
   refine fi Tryz.func21 Tryz.ntmps21 ?_
   (have kr1:=a1;have kr2:=a2;have kr3:=a3;have kr4:=a4;have kr5:=a5;have kr6:=a6;have kc1:=c1;refine w0 ?_;(repeat' (first|refine W2.mk ?_ ?_|refine W1.mk fun hc=>?_|((first|apply AL_t rfl|apply AL_0 rfl|apply AD_t rfl|apply AD_0 rfl);(focus (first|((apply u_k 10;(focus rfl);exact op_bs ⟨rfl,rfl,rfl⟩ rfl inferInstance inferInstance inferInstance rfl (by first|exact hx|exact hy|exact hz)))|(apply u_g;(focus rfl);apply op_gyes rfl rfl rfl rfl rfl;first|((apply u_k 10;(focus rfl);exact op_bs ⟨rfl,rfl,rfl⟩ rfl inferInstance inferInstance inferInstance rfl (by first|exact hx|exact hy|exact hz))))));refine w0 ?_)));all_goals clear kc1 kr6 kr5 kr4 kr3 kr2 kr1)
   refine rt2 ?_ ?_
   · exact rv_wk (rv_cA inferInstance inferInstance rfl rfl rfl rfl rfl rfl) aI
   · exact rv_int rfl rfl
 rw [if_neg hf] at hR
 have hf:f2 = 0:=Decidable.not_not.1 hf
 subst hf
 by_cases hi:i2 ≠ 0
 · rw [if_pos hi] at hR
   subst hR
   clear c3 hB
   refine fi Tryz.func21 Tryz.ntmps21 ?_
   (have kr1:=a1;have kr2:=a2;have kr3:=a3;have kr4:=a4;have kr5:=a5;have kr6:=a6;have kc1:=c1;have kc2:=c2;refine w0 ?_;(repeat' (first|refine W2.mk ?_ ?_|refine W1.mk fun hc=>?_|((first|apply AL_t rfl|apply AL_0 rfl|apply AD_t rfl|apply AD_0 rfl);(focus (first|((apply u_k 10;(focus rfl);exact op_bs ⟨rfl,rfl,rfl⟩ rfl inferInstance inferInstance inferInstance rfl (by first|exact hx|exact hy|exact hz)))|(apply u_g;(focus rfl);apply op_gyes rfl rfl rfl rfl rfl;first|((apply u_k 10;(focus rfl);exact op_bs ⟨rfl,rfl,rfl⟩ rfl inferInstance inferInstance inferInstance rfl (by first|exact hx|exact hy|exact hz))))));refine w0 ?_)));all_goals clear kc2 kc1 kr6 kr5 kr4 kr3 kr2 kr1)
   refine rt2 ?_ ?_
   · exact rv_wk (rv_cA inferInstance inferInstance rfl rfl rfl rfl rfl rfl) aI
   · exact rv_int rfl rfl
 rw [if_neg hi] at hR
 have hi:i2 = 0:=Decidable.not_not.1 hi
 subst hi
 by_cases hk:k2 ≠ 0
 · rw [if_pos hk] at hR
   subst hR
   clear hB
   refine fi Tryz.func21 Tryz.ntmps21 ?_
   (have kr1:=a1;have kr2:=a2;have kr3:=a3;have kr4:=a4;have kr5:=a5;have kr6:=a6;have kc1:=c1;have kc2:=c2;have kc3:=c3;refine w0 ?_;(repeat' (first|refine W2.mk ?_ ?_|refine W1.mk fun hc=>?_|((first|apply AL_t rfl|apply AL_0 rfl|apply AD_t rfl|apply AD_0 rfl);(focus (first|((apply u_k 10;(focus rfl);exact op_bs ⟨rfl,rfl,rfl⟩ rfl inferInstance inferInstance inferInstance rfl (by first|exact hx|exact hy|exact hz)))|(apply u_g;(focus rfl);apply op_gyes rfl rfl rfl rfl rfl;first|((apply u_k 10;(focus rfl);exact op_bs ⟨rfl,rfl,rfl⟩ rfl inferInstance inferInstance inferInstance rfl (by first|exact hx|exact hy|exact hz))))));refine w0 ?_)));all_goals clear kc3 kc2 kc1 kr6 kr5 kr4 kr3 kr2 kr1)
   refine rt2 ?_ ?_
   · exact rv_wk (rv_cA inferInstance inferInstance rfl rfl rfl rfl rfl rfl) aI
   · exact rv_int rfl rfl
 rw [if_neg hk] at hR
 have hk:k2 = 0:=Decidable.not_not.1 hk
 subst hk
 have c4:=rst_Right _ (hB rfl rfl rfl hkl)
 clear hB
 generalize stR ⟨id,f1,i1,k1,cnt⟩ = br at *
 cases br with
 | false=>
   rw [if_neg (by simp)] at hR
   subst hR
   refine fi Tryz.func21 Tryz.ntmps21 ?_
   (have kr1:=a1;have kr2:=a2;have kr3:=a3;have kr4:=a4;have kr5:=a5;have kr6:=a6;have kc1:=c1;have kc2:=c2;have kc3:=c3;have kc4:=c4;refine w0 ?_;(repeat' (first|refine W2.mk ?_ ?_|refine W1.mk fun hc=>?_|((first|apply AL_t rfl|apply AL_0 rfl|apply AD_t rfl|apply AD_0 rfl);(focus (first|((apply u_k 10;(focus rfl);exact op_bs ⟨rfl,rfl,rfl⟩ rfl inferInstance inferInstance inferInstance rfl (by first|exact hx|exact hy|exact hz)))|(apply u_g;(focus rfl);apply op_gyes rfl rfl rfl rfl rfl;first|((apply u_k 10;(focus rfl);exact op_bs ⟨rfl,rfl,rfl⟩ rfl inferInstance inferInstance inferInstance rfl (by first|exact hx|exact hy|exact hz))))));refine w0 ?_)));all_goals clear kc4 kc3 kc2 kc1 kr6 kr5 kr4 kr3 kr2 kr1)
   refine rt2 ?_ ?_
   · exact rv_wk (rv_cA inferInstance inferInstance rfl rfl rfl rfl rfl rfl) aI
   · exact rv_int rfl rfl
 | true=>
   rw [if_pos rfl] at hR
   subst hR
   refine fi Tryz.func21 Tryz.ntmps21 ?_
   (have kr1:=a1;have kr2:=a2;have kr3:=a3;have kr4:=a4;have kr5:=a5;have kr6:=a6;have kc1:=c1;have kc2:=c2;have kc3:=c3;have kc4:=c4;refine w0 ?_;(repeat' (first|refine W2.mk ?_ ?_|refine W1.mk fun hc=>?_|((first|apply AL_t rfl|apply AL_0 rfl|apply AD_t rfl|apply AD_0 rfl);(focus (first|((apply u_k 10;(focus rfl);exact op_bs ⟨rfl,rfl,rfl⟩ rfl inferInstance inferInstance inferInstance rfl (by first|exact hx|exact hy|exact hz)))|(apply u_g;(focus rfl);apply op_gyes rfl rfl rfl rfl rfl;first|((apply u_k 10;(focus rfl);exact op_bs ⟨rfl,rfl,rfl⟩ rfl inferInstance inferInstance inferInstance rfl (by first|exact hx|exact hy|exact hz))))));refine w0 ?_)));all_goals clear kc4 kc3 kc2 kc1 kr6 kr5 kr4 kr3 kr2 kr1)
   refine rt2 ?_ ?_
   · exact rv_wk (rv_cA inferInstance inferInstance rfl rfl rfl rfl rfl rfl) aI
   · exact rv_int rfl rfl
end
end Go.Proofs.YtfcpkegmdlchhaaGreat
