/- Texts joined: MsT1. -/
import Derived.Test.YthlffkjpklpkfaaGreatJ27
import Derived.Test.YthlffkjpklpkfaaGreatJ07
set_option maxRecDepth 10000
set_option maxHeartbeats 8000000
namespace Go.Proofs.YthlffkjpklpkfaaGreat
open Go.RowKit
section
theorem rm_Read_1 {L:List UInt8} (hL:L.length ≤ 1000000) {b:List UInt8} (a0:Fn Tryz.prog 57 [.per (bysP b)] (.tup2 (.per (bysP L)) (inR 0))) (hk:(withinSt 1 6 L 0).1 = 1) :
   Fn Tryz.prog 21 [.per (bysP b)] (.tup2 (.per (msP (rdL L).1)) (inR (rdL L).2)):=by
 have hL0:L.length ≤ 1000000000000:=by omega
 have hs0:L <:+ L:=List.suffix_refl L
 generalize hR:rdHL L = R
 rw [rdL_of hR]
 dsimp only [rdHL,rdHd] at hR
 have a1:=rr_Within L L 0 hs0 hL0 1 6
 have s1:=(withinSt_suf 1 6 L 0).trans hs0
 generalize withinSt 1 6 L 0 = q1 at *
 obtain ⟨k,l1,e1⟩:=q1
 dsimp only at a1 s1 hR
 have e0:((L.length - L.length:Nat):Int) = 0:=by omega
 unfold rrBox at a1
 rw [e0] at a1
 clear e0
 have a2:=rr_Within L l1 e1 s1 hL0 1 281474976710656
 have s2:=(withinSt_suf 1 281474976710656 l1 e1).trans s1
 generalize withinSt 1 281474976710656 l1 e1 = q2 at *
 obtain ⟨s,l2,e2⟩:=q2
 dsimp only at a2 s2 hR
 have a3:=rr_Number L l2 e2 s2 hL0
 have s3:=(numSt_suf l2 e2).trans s2
 generalize numSt l2 e2 = q3 at *
 obtain ⟨n,l3,e3⟩:=q3
 dsimp only at a3 s3 hR
 dsimp only [rdNs] at hR
 clear s1 s2 hs0
 have hk:k = 1:=hk
 subst hk
 rw [if_pos (show (1:Int) = 1 from rfl)] at hR
 dsimp only at hR
 have a4:=rr_Number L l3 e3 s3 hL0
 have s4:=(numSt_suf l3 e3).trans s3
 generalize numSt l3 e3 = q4 at *
 obtain ⟨n4,l4,e4⟩:=q4
 dsimp only at a4 s4 hR
 have a5:=rr_Number L l4 e4 s4 hL0
 have s5:=(numSt_suf l4 e4).trans s4
 generalize numSt l4 e4 = q5 at *
 obtain ⟨n5,l5,e5⟩:=q5
 dsimp only at a5 s5 hR
 have a6:=rr_Within L l5 e5 s5 hL0 0 64
 have s6:=(withinSt_suf 0 64 l5 e5).trans s5
 generalize withinSt 0 64 l5 e5 = q6 at *
 obtain ⟨n6,l6,e6⟩:=q6
 dsimp only at a6 s6 hR
 have a7:=rr_Within L l6 e6 s6 hL0 0 1
 have s7:=(withinSt_suf 0 1 l6 e6).trans s6
 generalize withinSt 0 1 l6 e6 = q7 at *
 obtain ⟨n7,l7,e7⟩:=q7
 dsimp only at a7 s7 hR
 rw [show ptsN 1 = 3 from rfl] at hR
 dsimp only [rdTs,maxN] at hR
 have z7:=s7.length_le
 have a8:=rr_Text L l7 e7 s7 hL0 281474976710656
 have t8:=textSt_len 281474976710656 l7 e7
 have u8:=(textSt_suf 281474976710656 l7 e7).length_le
 have s8:=(textSt_suf 281474976710656 l7 e7).trans s7
 generalize textSt 281474976710656 l7 e7 = q8 at *
 obtain ⟨x,l8,e8⟩:=q8
 dsimp only at a8 t8 u8 s8 hR
 have a9:=rr_Text L l8 e8 s8 hL0 281474976710656
 have t9:=textSt_len 281474976710656 l8 e8
 have u9:=(textSt_suf 281474976710656 l8 e8).length_le
 have s9:=(textSt_suf 281474976710656 l8 e8).trans s8
 generalize textSt 281474976710656 l8 e8 = q9 at *
 obtain ⟨y,l9,e9⟩:=q9
 dsimp only at a9 t9 u9 s9 hR
 have a10:=rr_Text L l9 e9 s9 hL0 281474976710656
 have t10:=textSt_len 281474976710656 l9 e9
 have u10:=(textSt_suf 281474976710656 l9 e9).length_le
 have s10:=(textSt_suf 281474976710656 l9 e9).trans s9
 generalize textSt 281474976710656 l9 e9 = q10 at *
 obtain ⟨z,l10,e10⟩:=q10
 dsimp only at a10 t10 u10 s10 hR
 have hx:(⟨x.toArray⟩:ByteArray).size ≤ 1000000000000:=by show x.toArray.size ≤ _;rw [List.size_toArray];omega
 have hy:(⟨y.toArray⟩:ByteArray).size ≤ 1000000000000:=by show y.toArray.size ≤ _;rw [List.size_toArray];omega
 have hz:(⟨z.toArray⟩:ByteArray).size ≤ 1000000000000:=by show z.toArray.size ≤ _;rw [List.size_toArray];omega
 subst hR
 dsimp only
 have b1:=rr_End L l10 e10 s10
 generalize endSt l10 e10 = v at *
 dsimp only [rrBox] at a1 a2 a3 a4 a5 a6 a7 a8 a9 a10 b1
 generalize ((L.length - l1.length:Nat):Int) = o1 at a1 a2 a3 a4 a5 a6 a7 a8 a9 a10 b1
 generalize ((L.length - l2.length:Nat):Int) = o2 at a1 a2 a3 a4 a5 a6 a7 a8 a9 a10 b1
 generalize ((L.length - l3.length:Nat):Int) = o3 at a1 a2 a3 a4 a5 a6 a7 a8 a9 a10 b1
 generalize ((L.length - l4.length:Nat):Int) = o4 at a1 a2 a3 a4 a5 a6 a7 a8 a9 a10 b1
 generalize ((L.length - l5.length:Nat):Int) = o5 at a1 a2 a3 a4 a5 a6 a7 a8 a9 a10 b1
 generalize ((L.length - l6.length:Nat):Int) = o6 at a1 a2 a3 a4 a5 a6 a7 a8 a9 a10 b1
 generalize ((L.length - l7.length:Nat):Int) = o7 at a1 a2 a3 a4 a5 a6 a7 a8 a9 a10 b1
 generalize ((L.length - l8.length:Nat):Int) = o8 at a1 a2 a3 a4 a5 a6 a7 a8 a9 a10 b1
 generalize ((L.length - l9.length:Nat):Int) = o9 at a1 a2 a3 a4 a5 a6 a7 a8 a9 a10 b1
 generalize ((L.length - l10.length:Nat):Int) = o10 at a1 a2 a3 a4 a5 a6 a7 a8 a9 a10 b1
 have b3:=(ref_ReadRanges x (by omega)).frz
 have b4:=(rkc_ReadKnow y (by omega)).frz
 have k1:(rdRgs x).2 = 0 → (rdRgs x).1.length ≤ 4096:=fun h=>by have:=(rdRgs_back h).2.1;omega
 have k2:=rdKnow_sz y
 have hP:rdPs { kind:=1,ses:=s,num:=n,lim:=n4,seed:=n5,bits:=n6,wants:=n7 == 1 } [x,y,z] = (if (rdRgs x).2 ≠ 0 then ({ kind:=1,ses:=s,num:=n,lim:=n4,seed:=n5,bits:=n6,wants:=n7 == 1 },(rdRgs x).2) else if (rdKnow y).2 ≠ 0 then ({ kind:=1,ses:=s,num:=n,lim:=n4,seed:=n5,bits:=n6,wants:=n7 == 1 },(rdKnow y).2) else ({ kind:=1,ses:=s,num:=n,lim:=n4,seed:=n5,bits:=n6,wants:=n7 == 1,flt:=(rdRgs x).1,know:=(rdKnow y).1,there:=z },0)):=by
   unfold rdPs;rw [if_pos (show (1:Int) = 1 from rfl)];rfl
 rw [hP]
 clear hP
 generalize rdRgs x = f at *
 generalize rdKnow y = g at *
 obtain ⟨f1,f2⟩:=f
 obtain ⟨g1,g2⟩:=g
 dsimp only at b3 b4 k1 k2 ⊢
 try clear s3 s4 s5 s6 s7 s8 s9 s10
 by_cases hv:v ≠ 0
 · rw [if_pos hv]
   clear b3 b4 k1 k2
   refine fi Tryz.func21 Tryz.ntmps21 ?_
   (have kc1:=a0;refine w0 ?_;(repeat' first|refine W2.mk ?_ ?_|refine W1.mk fun hc=>?_);all_goals clear kc1)
   refine AL_le (Le_boxW 7 _ 33 zmCs (msCs {}) rfl rfl zm_pw) ?_
   (have kr1:=a1;have kr2:=a2;have kr3:=a3;refine w0 ?_;(repeat' first|refine W2.mk ?_ ?_|refine W1.mk fun hc=>?_);all_goals clear kr3 kr2 kr1)
   refine AL_le (show Le _ _ (mkSt [(2,.ptr 2 0 0),(5,iC .i64 0),(6,.ptr 25 0 0),(7,.ptr 7 0 0),(39,.ptr 25 0 0)] [(2,.box 33 (zmCs.map Cnt.per)),(7,.box 33 ((msCs { kind:=1,ses:=s,num:=n }).map Cnt.per)),(25,.box 110 [.per (bysP L),iC .i64 o3,iC .i64 e3])]) from (by exact le_auto)) ?_
   (have kr1:=a4;have kr2:=a5;have kr3:=a6;have kr4:=a7;refine w0 ?_;(repeat' first|refine W2.mk ?_ ?_|refine W1.mk fun hc=>?_);all_goals clear kr4 kr3 kr2 kr1)
   refine AL_le (show Le _ _ (mkSt [(2,.ptr 2 0 0),(5,iC .i64 0),(6,.ptr 25 0 0),(7,.ptr 7 0 0),(96,.ptr 25 0 0),(8,sC ⟨#[]⟩),(9,sC ⟨#[]⟩),(10,sC ⟨#[]⟩)] [(2,.box 33 (zmCs.map Cnt.per)),(7,.box 33 ((msCs { kind:=1,ses:=s,num:=n,lim:=n4,seed:=n5,bits:=n6,wants:=n7 == 1 }).map Cnt.per)),(25,.box 110 [.per (bysP L),iC .i64 o7,iC .i64 e7])]) from (by exact le_auto)) ?_
   (have kr1:=a8;have kr2:=a9;have kr3:=a10;refine w0 ?_;(repeat' first|refine W2.mk ?_ ?_|refine W1.mk fun hc=>?_);all_goals clear kr3 kr2 kr1)
   refine AL_le (show Le _ _ (mkSt [(2,.ptr 2 0 0),(5,iC .i64 0),(6,.ptr 25 0 0),(7,.ptr 7 0 0),(105,.ptr 25 0 0),(8,sC ⟨x.toArray⟩),(9,sC ⟨y.toArray⟩),(10,sC ⟨z.toArray⟩)] [(2,.box 33 (zmCs.map Cnt.per)),(7,.box 33 ((msCs { kind:=1,ses:=s,num:=n,lim:=n4,seed:=n5,bits:=n6,wants:=n7 == 1 }).map Cnt.per)),(25,.box 110 [.per (bysP L),iC .i64 o10,iC .i64 e10])]) from (by exact le_auto)) ?_
   (have kr1:=b1;refine w0 ?_;(repeat' first|refine W2.mk ?_ ?_|refine W1.mk fun hc=>?_);all_goals clear kr1)
   refine rt2 ?_ ?_
   · exact rv_wk (rv_cA inferInstance inferInstance rfl rfl rfl rfl rfl rfl) aI
   · exact rv_int rfl rfl
 rw [if_neg hv]
 have hv:v = 0:=Decidable.not_not.1 hv
 subst hv
 by_cases hf:f2 ≠ 0
 · rw [if_pos hf,if_pos hf]
   clear b4 k1 k2
   refine fi Tryz.func21 Tryz.ntmps21 ?_
   (have kc1:=a0;refine w0 ?_;(repeat' first|refine W2.mk ?_ ?_|refine W1.mk fun hc=>?_);all_goals clear kc1)
   refine AL_le (Le_boxW 7 _ 33 zmCs (msCs {}) rfl rfl zm_pw) ?_
   (have kr1:=a1;have kr2:=a2;have kr3:=a3;refine w0 ?_;(repeat' first|refine W2.mk ?_ ?_|refine W1.mk fun hc=>?_);all_goals clear kr3 kr2 kr1)
   refine AL_le (show Le _ _ (mkSt [(2,.ptr 2 0 0),(5,iC .i64 0),(6,.ptr 25 0 0),(7,.ptr 7 0 0),(39,.ptr 25 0 0)] [(2,.box 33 (zmCs.map Cnt.per)),(7,.box 33 ((msCs { kind:=1,ses:=s,num:=n }).map Cnt.per)),(25,.box 110 [.per (bysP L),iC .i64 o3,iC .i64 e3])]) from (by exact le_auto)) ?_
   (have kr1:=a4;have kr2:=a5;have kr3:=a6;have kr4:=a7;refine w0 ?_;(repeat' first|refine W2.mk ?_ ?_|refine W1.mk fun hc=>?_);all_goals clear kr4 kr3 kr2 kr1)
   refine AL_le (show Le _ _ (mkSt [(2,.ptr 2 0 0),(5,iC .i64 0),(6,.ptr 25 0 0),(7,.ptr 7 0 0),(96,.ptr 25 0 0),(8,sC ⟨#[]⟩),(9,sC ⟨#[]⟩),(10,sC ⟨#[]⟩)] [(2,.box 33 (zmCs.map Cnt.per)),(7,.box 33 ((msCs { kind:=1,ses:=s,num:=n,lim:=n4,seed:=n5,bits:=n6,wants:=n7 == 1 }).map Cnt.per)),(25,.box 110 [.per (bysP L),iC .i64 o7,iC .i64 e7])]) from (by exact le_auto)) ?_
   (have kr1:=a8;have kr2:=a9;have kr3:=a10;refine w0 ?_;(repeat' first|refine W2.mk ?_ ?_|refine W1.mk fun hc=>?_);all_goals clear kr3 kr2 kr1)
   refine AL_le (show Le _ _ (mkSt [(2,.ptr 2 0 0),(5,iC .i64 0),(6,.ptr 25 0 0),(7,.ptr 7 0 0),(105,.ptr 25 0 0),(8,sC ⟨x.toArray⟩),(9,sC ⟨y.toArray⟩),(10,sC ⟨z.toArray⟩)] [(2,.box 33 (zmCs.map Cnt.per)),(7,.box 33 ((msCs { kind:=1,ses:=s,num:=n,lim:=n4,seed:=n5,bits:=n6,wants:=n7 == 1 }).map Cnt.per)),(25,.box 110 [.per (bysP L),iC .i64 o10,iC .i64 e10])]) from (by exact le_auto)) ?_
   (have kr1:=b1;have kc1:=b3;refine w0 ?_;(repeat' (first|refine W2.mk ?_ ?_|refine W1.mk fun hc=>?_|((first|apply AL_t rfl|apply AL_0 rfl|apply AD_t rfl|apply AD_0 rfl);(focus (first|((apply u_k 10;(focus rfl);exact op_bs ⟨rfl,rfl,rfl⟩ rfl inferInstance inferInstance inferInstance rfl (by first|exact hx|exact hy|exact hz)))|(apply u_g;(focus rfl);apply op_gyes rfl rfl rfl rfl rfl;first|((apply u_k 10;(focus rfl);exact op_bs ⟨rfl,rfl,rfl⟩ rfl inferInstance inferInstance inferInstance rfl (by first|exact hx|exact hy|exact hz))))));refine w0 ?_)));all_goals clear kc1 kr1)
   refine rt2 ?_ ?_
   · exact rv_wk (rv_cA inferInstance inferInstance rfl rfl rfl rfl rfl rfl) aI
   · exact rv_int rfl rfl
 rw [if_neg hf]
 have hf:f2 = 0:=Decidable.not_not.1 hf
 subst hf
 by_cases hg:g2 ≠ 0
 · rw [if_pos hg,if_pos hg]
   clear k1 k2
   refine fi Tryz.func21 Tryz.ntmps21 ?_
   (have kc1:=a0;refine w0 ?_;(repeat' first|refine W2.mk ?_ ?_|refine W1.mk fun hc=>?_);all_goals clear kc1)
   refine AL_le (Le_boxW 7 _ 33 zmCs (msCs {}) rfl rfl zm_pw) ?_
   (have kr1:=a1;have kr2:=a2;have kr3:=a3;refine w0 ?_;(repeat' first|refine W2.mk ?_ ?_|refine W1.mk fun hc=>?_);all_goals clear kr3 kr2 kr1)
   refine AL_le (show Le _ _ (mkSt [(2,.ptr 2 0 0),(5,iC .i64 0),(6,.ptr 25 0 0),(7,.ptr 7 0 0),(39,.ptr 25 0 0)] [(2,.box 33 (zmCs.map Cnt.per)),(7,.box 33 ((msCs { kind:=1,ses:=s,num:=n }).map Cnt.per)),(25,.box 110 [.per (bysP L),iC .i64 o3,iC .i64 e3])]) from (by exact le_auto)) ?_
   (have kr1:=a4;have kr2:=a5;have kr3:=a6;have kr4:=a7;refine w0 ?_;(repeat' first|refine W2.mk ?_ ?_|refine W1.mk fun hc=>?_);all_goals clear kr4 kr3 kr2 kr1)
   refine AL_le (show Le _ _ (mkSt [(2,.ptr 2 0 0),(5,iC .i64 0),(6,.ptr 25 0 0),(7,.ptr 7 0 0),(96,.ptr 25 0 0),(8,sC ⟨#[]⟩),(9,sC ⟨#[]⟩),(10,sC ⟨#[]⟩)] [(2,.box 33 (zmCs.map Cnt.per)),(7,.box 33 ((msCs { kind:=1,ses:=s,num:=n,lim:=n4,seed:=n5,bits:=n6,wants:=n7 == 1 }).map Cnt.per)),(25,.box 110 [.per (bysP L),iC .i64 o7,iC .i64 e7])]) from (by exact le_auto)) ?_
   (have kr1:=a8;have kr2:=a9;have kr3:=a10;refine w0 ?_;(repeat' first|refine W2.mk ?_ ?_|refine W1.mk fun hc=>?_);all_goals clear kr3 kr2 kr1)
   refine AL_le (show Le _ _ (mkSt [(2,.ptr 2 0 0),(5,iC .i64 0),(6,.ptr 25 0 0),(7,.ptr 7 0 0),(105,.ptr 25 0 0),(8,sC ⟨x.toArray⟩),(9,sC ⟨y.toArray⟩),(10,sC ⟨z.toArray⟩)] [(2,.box 33 (zmCs.map Cnt.per)),(7,.box 33 ((msCs { kind:=1,ses:=s,num:=n,lim:=n4,seed:=n5,bits:=n6,wants:=n7 == 1 }).map Cnt.per)),(25,.box 110 [.per (bysP L),iC .i64 o10,iC .i64 e10])]) from (by exact le_auto)) ?_
   (have kr1:=b1;have kc1:=b3;have kc2:=b4;refine w0 ?_;(repeat' (first|refine W2.mk ?_ ?_|refine W1.mk fun hc=>?_|((first|apply AL_t rfl|apply AL_0 rfl|apply AD_t rfl|apply AD_0 rfl);(focus (first|((apply u_k 10;(focus rfl);exact op_bs ⟨rfl,rfl,rfl⟩ rfl inferInstance inferInstance inferInstance rfl (by first|exact hx|exact hy|exact hz)))|(apply u_g;(focus rfl);apply op_gyes rfl rfl rfl rfl rfl;first|((apply u_k 10;(focus rfl);exact op_bs ⟨rfl,rfl,rfl⟩ rfl inferInstance inferInstance inferInstance rfl (by first|exact hx|exact hy|exact hz))))));refine w0 ?_)));all_goals clear kc2 kc1 kr1)
   refine rt2 ?_ ?_
   · exact rv_wk (rv_cA inferInstance inferInstance rfl rfl rfl rfl rfl rfl) aI
   · exact rv_int rfl rfl
 rw [if_neg hg,if_neg (show ¬ (0:Int) ≠ 0 by decide)]
 have hg:g2 = 0:=Decidable.not_not.1 hg
 subst hg
 have k1:=k1 rfl
 have k2:=k2.1
 have b5:=rm_Right { kind:=1,ses:=s,num:=n,lim:=n4,seed:=n5,bits:=n6,wants:=n7 == 1,flt:=f1,know:=g1,there:=z } (by simp only;omega) k2 (by simp only;omega) (by simp)
 dsimp only
 clear k1 k2
 cases hr:msR { kind:=1,ses:=s,num:=n,lim:=n4,seed:=n5,bits:=n6,wants:=n7 == 1,flt:=f1,know:=g1,there:=z } with
 | false=>
   rw [hr] at b5
   rw [if_neg (by simp)]
   refine fi Tryz.func21 Tryz.ntmps21 ?_
   (have kc1:=a0;refine w0 ?_;(repeat' first|refine W2.mk ?_ ?_|refine W1.mk fun hc=>?_);all_goals clear kc1)
   refine AL_le (Le_boxW 7 _ 33 zmCs (msCs {}) rfl rfl zm_pw) ?_
   (have kr1:=a1;have kr2:=a2;have kr3:=a3;refine w0 ?_;(repeat' first|refine W2.mk ?_ ?_|refine W1.mk fun hc=>?_);all_goals clear kr3 kr2 kr1)
   refine AL_le (show Le _ _ (mkSt [(2,.ptr 2 0 0),(5,iC .i64 0),(6,.ptr 25 0 0),(7,.ptr 7 0 0),(39,.ptr 25 0 0)] [(2,.box 33 (zmCs.map Cnt.per)),(7,.box 33 ((msCs { kind:=1,ses:=s,num:=n }).map Cnt.per)),(25,.box 110 [.per (bysP L),iC .i64 o3,iC .i64 e3])]) from (by exact le_auto)) ?_
   (have kr1:=a4;have kr2:=a5;have kr3:=a6;have kr4:=a7;refine w0 ?_;(repeat' first|refine W2.mk ?_ ?_|refine W1.mk fun hc=>?_);all_goals clear kr4 kr3 kr2 kr1)
   refine AL_le (show Le _ _ (mkSt [(2,.ptr 2 0 0),(5,iC .i64 0),(6,.ptr 25 0 0),(7,.ptr 7 0 0),(96,.ptr 25 0 0),(8,sC ⟨#[]⟩),(9,sC ⟨#[]⟩),(10,sC ⟨#[]⟩)] [(2,.box 33 (zmCs.map Cnt.per)),(7,.box 33 ((msCs { kind:=1,ses:=s,num:=n,lim:=n4,seed:=n5,bits:=n6,wants:=n7 == 1 }).map Cnt.per)),(25,.box 110 [.per (bysP L),iC .i64 o7,iC .i64 e7])]) from (by exact le_auto)) ?_
   (have kr1:=a8;have kr2:=a9;have kr3:=a10;refine w0 ?_;(repeat' first|refine W2.mk ?_ ?_|refine W1.mk fun hc=>?_);all_goals clear kr3 kr2 kr1)
   refine AL_le (show Le _ _ (mkSt [(2,.ptr 2 0 0),(5,iC .i64 0),(6,.ptr 25 0 0),(7,.ptr 7 0 0),(105,.ptr 25 0 0),(8,sC ⟨x.toArray⟩),(9,sC ⟨y.toArray⟩),(10,sC ⟨z.toArray⟩)] [(2,.box 33 (zmCs.map Cnt.per)),(7,.box 33 ((msCs { kind:=1,ses:=s,num:=n,lim:=n4,seed:=n5,bits:=n6,wants:=n7 == 1 }).map Cnt.per)),(25,.box 110 [.per (bysP L),iC .i64 o10,iC .i64 e10])]) from (by exact le_auto)) ?_
   (have kr1:=b1;have kc1:=b3;have kc2:=b4;have kc3:=b5;refine w0 ?_;(repeat' (first|refine W2.mk ?_ ?_|refine W1.mk fun hc=>?_|((first|apply AL_t rfl|apply AL_0 rfl|apply AD_t rfl|apply AD_0 rfl);(focus (first|((apply u_k 10;(focus rfl);exact op_bs ⟨rfl,rfl,rfl⟩ rfl inferInstance inferInstance inferInstance rfl (by first|exact hx|exact hy|exact hz)))|(apply u_g;(focus rfl);apply op_gyes rfl rfl rfl rfl rfl;first|((apply u_k 10;(focus rfl);exact op_bs ⟨rfl,rfl,rfl⟩ rfl inferInstance inferInstance inferInstance rfl (by first|exact hx|exact hy|exact hz))))));refine w0 ?_)));all_goals clear kc3 kc2 kc1 kr1)
   refine rt2 ?_ ?_
   · exact rv_wk (rv_cA inferInstance inferInstance rfl rfl rfl rfl rfl rfl) aI
   · exact rv_int rfl rfl
 | true=>
   rw [hr] at b5
   rw [if_pos rfl]
   refine fi Tryz.func21 Tryz.ntmps21 ?_
   (have kc1:=a0;refine w0 ?_;(repeat' first|refine W2.mk ?_ ?_|refine W1.mk fun hc=>?_);all_goals clear kc1)
   refine AL_le (Le_boxW 7 _ 33 zmCs (msCs {}) rfl rfl zm_pw) ?_
   (have kr1:=a1;have kr2:=a2;have kr3:=a3;refine w0 ?_;(repeat' first|refine W2.mk ?_ ?_|refine W1.mk fun hc=>?_);all_goals clear kr3 kr2 kr1)
   refine AL_le (show Le _ _ (mkSt [(2,.ptr 2 0 0),(5,iC .i64 0),(6,.ptr 25 0 0),(7,.ptr 7 0 0),(39,.ptr 25 0 0)] [(2,.box 33 (zmCs.map Cnt.per)),(7,.box 33 ((msCs { kind:=1,ses:=s,num:=n }).map Cnt.per)),(25,.box 110 [.per (bysP L),iC .i64 o3,iC .i64 e3])]) from (by exact le_auto)) ?_
   (have kr1:=a4;have kr2:=a5;have kr3:=a6;have kr4:=a7;refine w0 ?_;(repeat' first|refine W2.mk ?_ ?_|refine W1.mk fun hc=>?_);all_goals clear kr4 kr3 kr2 kr1)
   refine AL_le (show Le _ _ (mkSt [(2,.ptr 2 0 0),(5,iC .i64 0),(6,.ptr 25 0 0),(7,.ptr 7 0 0),(96,.ptr 25 0 0),(8,sC ⟨#[]⟩),(9,sC ⟨#[]⟩),(10,sC ⟨#[]⟩)] [(2,.box 33 (zmCs.map Cnt.per)),(7,.box 33 ((msCs { kind:=1,ses:=s,num:=n,lim:=n4,seed:=n5,bits:=n6,wants:=n7 == 1 }).map Cnt.per)),(25,.box 110 [.per (bysP L),iC .i64 o7,iC .i64 e7])]) from (by exact le_auto)) ?_
   (have kr1:=a8;have kr2:=a9;have kr3:=a10;refine w0 ?_;(repeat' first|refine W2.mk ?_ ?_|refine W1.mk fun hc=>?_);all_goals clear kr3 kr2 kr1)
   refine AL_le (show Le _ _ (mkSt [(2,.ptr 2 0 0),(5,iC .i64 0),(6,.ptr 25 0 0),(7,.ptr 7 0 0),(105,.ptr 25 0 0),(8,sC ⟨x.toArray⟩),(9,sC ⟨y.toArray⟩),(10,sC ⟨z.toArray⟩)] [(2,.box 33 (zmCs.map Cnt.per)),(7,.box 33 ((msCs { kind:=1,ses:=s,num:=n,lim:=n4,seed:=n5,bits:=n6,wants:=n7 == 1 }).map Cnt.per)),(25,.box 110 [.per (bysP L),iC .i64 o10,iC .i64 e10])]) from (by exact le_auto)) ?_
   (have kr1:=b1;have kc1:=b3;have kc2:=b4;have kc3:=b5;refine w0 ?_;(repeat' (first|refine W2.mk ?_ ?_|refine W1.mk fun hc=>?_|((first|apply AL_t rfl|apply AL_0 rfl|apply AD_t rfl|apply AD_0 rfl);(focus (first|((apply u_k 10;(focus rfl);exact op_bs ⟨rfl,rfl,rfl⟩ rfl inferInstance inferInstance inferInstance rfl (by first|exact hx|exact hy|exact hz)))|(apply u_g;(focus rfl);apply op_gyes rfl rfl rfl rfl rfl;first|((apply u_k 10;(focus rfl);exact op_bs ⟨rfl,rfl,rfl⟩ rfl inferInstance inferInstance inferInstance rfl (by first|exact hx|exact hy|exact hz))))));refine w0 ?_)));all_goals clear kc3 kc2 kc1 kr1)
   refine rt2 ?_ ?_
   · exact rv_wk (rv_cA inferInstance inferInstance rfl rfl rfl rfl rfl rfl) aI
   · exact rv_int rfl rfl
theorem rm_Read_5 {L:List UInt8} (hL:L.length ≤ 1000000) {b:List UInt8} (a0:Fn Tryz.prog 57 [.per (bysP b)] (.tup2 (.per (bysP L)) (inR 0))) (hk:(withinSt 1 6 L 0).1 = 5) :
   Fn Tryz.prog 21 [.per (bysP b)] (.tup2 (.per (msP (rdL L).1)) (inR (rdL L).2)):=by
 have hL0:L.length ≤ 1000000000000:=by omega
 have hs0:L <:+ L:=List.suffix_refl L
 generalize hR:rdHL L = R
 rw [rdL_of hR]
 dsimp only [rdHL,rdHd] at hR
 have a1:=rr_Within L L 0 hs0 hL0 1 6
 have s1:=(withinSt_suf 1 6 L 0).trans hs0
 generalize withinSt 1 6 L 0 = q1 at *
 obtain ⟨k,l1,e1⟩:=q1
 dsimp only at a1 s1 hR
 have e0:((L.length - L.length:Nat):Int) = 0:=by omega
 unfold rrBox at a1
 rw [e0] at a1
 clear e0
 have a2:=rr_Within L l1 e1 s1 hL0 1 281474976710656
 have s2:=(withinSt_suf 1 281474976710656 l1 e1).trans s1
 generalize withinSt 1 281474976710656 l1 e1 = q2 at *
 obtain ⟨s,l2,e2⟩:=q2
 dsimp only at a2 s2 hR
 have a3:=rr_Number L l2 e2 s2 hL0
 have s3:=(numSt_suf l2 e2).trans s2
 generalize numSt l2 e2 = q3 at *
 obtain ⟨n,l3,e3⟩:=q3
 dsimp only at a3 s3 hR
 dsimp only [rdNs] at hR
 clear s1 s2 hs0
 have hk:k = 5:=hk
 subst hk
 rw [if_neg (show ¬ (5:Int) = 1 by decide),if_neg (show ¬ (5:Int) = 2 by decide),if_neg (show ¬ (5:Int) = 3 by decide),if_pos (show (5:Int) = 5 from rfl)] at hR
 dsimp only at hR
 have a4:=rr_Number L l3 e3 s3 hL0
 have s4:=(numSt_suf l3 e3).trans s3
 generalize numSt l3 e3 = q4 at *
 obtain ⟨n4,l4,e4⟩:=q4
 dsimp only at a4 s4 hR
 have a5:=rr_Within L l4 e4 s4 hL0 0 1
 have s5:=(withinSt_suf 0 1 l4 e4).trans s4
 generalize withinSt 0 1 l4 e4 = q5 at *
 obtain ⟨n5,l5,e5⟩:=q5
 dsimp only at a5 s5 hR
 rw [show ptsN 5 = 2 from rfl] at hR
 dsimp only [rdTs,maxN] at hR
 have z5:=s5.length_le
 have a6:=rr_Text L l5 e5 s5 hL0 281474976710656
 have t6:=textSt_len 281474976710656 l5 e5
 have u6:=(textSt_suf 281474976710656 l5 e5).length_le
 have s6:=(textSt_suf 281474976710656 l5 e5).trans s5
 generalize textSt 281474976710656 l5 e5 = q6 at *
 obtain ⟨x,l6,e6⟩:=q6
 dsimp only at a6 t6 u6 s6 hR
 have a7:=rr_Text L l6 e6 s6 hL0 281474976710656
 have t7:=textSt_len 281474976710656 l6 e6
 have u7:=(textSt_suf 281474976710656 l6 e6).length_le
 have s7:=(textSt_suf 281474976710656 l6 e6).trans s6
 generalize textSt 281474976710656 l6 e6 = q7 at *
 obtain ⟨y,l7,e7⟩:=q7
 dsimp only at a7 t7 u7 s7 hR
 have hx:(⟨x.toArray⟩:ByteArray).size ≤ 1000000000000:=by show x.toArray.size ≤ _;rw [List.size_toArray];omega
 have hy:(⟨y.toArray⟩:ByteArray).size ≤ 1000000000000:=by show y.toArray.size ≤ _;rw [List.size_toArray];omega
 subst hR
 dsimp only
 have b1:=rr_End L l7 e7 s7
 generalize endSt l7 e7 = v at *
 dsimp only [rrBox] at a1 a2 a3 a4 a5 a6 a7 b1
 generalize ((L.length - l1.length:Nat):Int) = o1 at a1 a2 a3 a4 a5 a6 a7 b1
 generalize ((L.length - l2.length:Nat):Int) = o2 at a1 a2 a3 a4 a5 a6 a7 b1
 generalize ((L.length - l3.length:Nat):Int) = o3 at a1 a2 a3 a4 a5 a6 a7 b1
 generalize ((L.length - l4.length:Nat):Int) = o4 at a1 a2 a3 a4 a5 a6 a7 b1
 generalize ((L.length - l5.length:Nat):Int) = o5 at a1 a2 a3 a4 a5 a6 a7 b1
 generalize ((L.length - l6.length:Nat):Int) = o6 at a1 a2 a3 a4 a5 a6 a7 b1
 generalize ((L.length - l7.length:Nat):Int) = o7 at a1 a2 a3 a4 a5 a6 a7 b1
 have b3:=(ref_ReadItems x (by omega)).frz
 have b4:=(rkc_ReadKnow y (by omega)).frz
 have k1:(rdItems x).2 = 0 → (rdItems x).1.length ≤ 4096:=fun h=>by have:=(rdItems_back h).2.1;omega
 have k2:=rdKnow_sz y
 have hP:rdPs { kind:=5,ses:=s,num:=n,nxt:=n4,last:=n5 == 1 } [x,y] = (if (rdItems x).2 ≠ 0 then ({ kind:=5,ses:=s,num:=n,nxt:=n4,last:=n5 == 1 },(rdItems x).2) else if (rdKnow y).2 ≠ 0 then ({ kind:=5,ses:=s,num:=n,nxt:=n4,last:=n5 == 1 },(rdKnow y).2) else ({ kind:=5,ses:=s,num:=n,nxt:=n4,last:=n5 == 1,its:=(rdItems x).1,know:=(rdKnow y).1 },0)):=by
   unfold rdPs;rw [if_neg (show ¬ (5:Int) = 1 by decide),if_neg (show ¬ (5:Int) = 4 by decide),if_pos (show (5:Int) = 5 from rfl)];rfl
 rw [hP]
 clear hP
 generalize rdItems x = f at *
 generalize rdKnow y = g at *
 obtain ⟨f1,f2⟩:=f
 obtain ⟨g1,g2⟩:=g
 dsimp only at b3 b4 k1 k2 ⊢
 try clear s3 s4 s5 s6 s7 s8 s9 s10
 by_cases hv:v ≠ 0
 · rw [if_pos hv]
   clear b3 b4 k1 k2
   refine fi Tryz.func21 Tryz.ntmps21 ?_
   (have kc1:=a0;refine w0 ?_;(repeat' first|refine W2.mk ?_ ?_|refine W1.mk fun hc=>?_);all_goals clear kc1)
   refine AL_le (Le_boxW 7 _ 33 zmCs (msCs {}) rfl rfl zm_pw) ?_
   (have kr1:=a1;have kr2:=a2;have kr3:=a3;refine w0 ?_;(repeat' first|refine W2.mk ?_ ?_|refine W1.mk fun hc=>?_);all_goals clear kr3 kr2 kr1)
   refine AL_le (show Le _ _ (mkSt [(2,.ptr 2 0 0),(5,iC .i64 0),(6,.ptr 25 0 0),(7,.ptr 7 0 0),(67,.ptr 25 0 0)] [(2,.box 33 (zmCs.map Cnt.per)),(7,.box 33 ((msCs { kind:=5,ses:=s,num:=n }).map Cnt.per)),(25,.box 110 [.per (bysP L),iC .i64 o3,iC .i64 e3])]) from (by exact le_auto)) ?_
   (have kr1:=a4;have kr2:=a5;refine w0 ?_;(repeat' first|refine W2.mk ?_ ?_|refine W1.mk fun hc=>?_);all_goals clear kr2 kr1)
   refine AL_le (show Le _ _ (mkSt [(2,.ptr 2 0 0),(5,iC .i64 0),(6,.ptr 25 0 0),(7,.ptr 7 0 0),(96,.ptr 25 0 0),(8,sC ⟨#[]⟩),(9,sC ⟨#[]⟩),(10,sC ⟨#[]⟩)] [(2,.box 33 (zmCs.map Cnt.per)),(7,.box 33 ((msCs { kind:=5,ses:=s,num:=n,nxt:=n4,last:=n5 == 1 }).map Cnt.per)),(25,.box 110 [.per (bysP L),iC .i64 o5,iC .i64 e5])]) from (by exact le_auto)) ?_
   (have kr1:=a6;have kr2:=a7;refine w0 ?_;(repeat' first|refine W2.mk ?_ ?_|refine W1.mk fun hc=>?_);all_goals clear kr2 kr1)
   refine AL_le (show Le _ _ (mkSt [(2,.ptr 2 0 0),(5,iC .i64 0),(6,.ptr 25 0 0),(7,.ptr 7 0 0),(105,.ptr 25 0 0),(8,sC ⟨x.toArray⟩),(9,sC ⟨y.toArray⟩),(10,sC ⟨#[]⟩)] [(2,.box 33 (zmCs.map Cnt.per)),(7,.box 33 ((msCs { kind:=5,ses:=s,num:=n,nxt:=n4,last:=n5 == 1 }).map Cnt.per)),(25,.box 110 [.per (bysP L),iC .i64 o7,iC .i64 e7])]) from (by exact le_auto)) ?_
   (have kr1:=b1;refine w0 ?_;(repeat' first|refine W2.mk ?_ ?_|refine W1.mk fun hc=>?_);all_goals clear kr1)
   refine rt2 ?_ ?_
   · exact rv_wk (rv_cA inferInstance inferInstance rfl rfl rfl rfl rfl rfl) aI
   · exact rv_int rfl rfl
 rw [if_neg hv]
 have hv:v = 0:=Decidable.not_not.1 hv
 subst hv
 by_cases hf:f2 ≠ 0
 · rw [if_pos hf,if_pos hf]
   clear b4 k1 k2
   refine fi Tryz.func21 Tryz.ntmps21 ?_
   (have kc1:=a0;refine w0 ?_;(repeat' first|refine W2.mk ?_ ?_|refine W1.mk fun hc=>?_);all_goals clear kc1)
   refine AL_le (Le_boxW 7 _ 33 zmCs (msCs {}) rfl rfl zm_pw) ?_
   (have kr1:=a1;have kr2:=a2;have kr3:=a3;refine w0 ?_;(repeat' first|refine W2.mk ?_ ?_|refine W1.mk fun hc=>?_);all_goals clear kr3 kr2 kr1)
   refine AL_le (show Le _ _ (mkSt [(2,.ptr 2 0 0),(5,iC .i64 0),(6,.ptr 25 0 0),(7,.ptr 7 0 0),(67,.ptr 25 0 0)] [(2,.box 33 (zmCs.map Cnt.per)),(7,.box 33 ((msCs { kind:=5,ses:=s,num:=n }).map Cnt.per)),(25,.box 110 [.per (bysP L),iC .i64 o3,iC .i64 e3])]) from (by exact le_auto)) ?_
   (have kr1:=a4;have kr2:=a5;refine w0 ?_;(repeat' first|refine W2.mk ?_ ?_|refine W1.mk fun hc=>?_);all_goals clear kr2 kr1)
   refine AL_le (show Le _ _ (mkSt [(2,.ptr 2 0 0),(5,iC .i64 0),(6,.ptr 25 0 0),(7,.ptr 7 0 0),(96,.ptr 25 0 0),(8,sC ⟨#[]⟩),(9,sC ⟨#[]⟩),(10,sC ⟨#[]⟩)] [(2,.box 33 (zmCs.map Cnt.per)),(7,.box 33 ((msCs { kind:=5,ses:=s,num:=n,nxt:=n4,last:=n5 == 1 }).map Cnt.per)),(25,.box 110 [.per (bysP L),iC .i64 o5,iC .i64 e5])]) from (by exact le_auto)) ?_
   (have kr1:=a6;have kr2:=a7;refine w0 ?_;(repeat' first|refine W2.mk ?_ ?_|refine W1.mk fun hc=>?_);all_goals clear kr2 kr1)
   refine AL_le (show Le _ _ (mkSt [(2,.ptr 2 0 0),(5,iC .i64 0),(6,.ptr 25 0 0),(7,.ptr 7 0 0),(105,.ptr 25 0 0),(8,sC ⟨x.toArray⟩),(9,sC ⟨y.toArray⟩),(10,sC ⟨#[]⟩)] [(2,.box 33 (zmCs.map Cnt.per)),(7,.box 33 ((msCs { kind:=5,ses:=s,num:=n,nxt:=n4,last:=n5 == 1 }).map Cnt.per)),(25,.box 110 [.per (bysP L),iC .i64 o7,iC .i64 e7])]) from (by exact le_auto)) ?_
   (have kr1:=b1;have kc1:=b3;refine w0 ?_;(repeat' (first|refine W2.mk ?_ ?_|refine W1.mk fun hc=>?_|((first|apply AL_t rfl|apply AL_0 rfl|apply AD_t rfl|apply AD_0 rfl);(focus (first|((apply u_k 10;(focus rfl);exact op_bs ⟨rfl,rfl,rfl⟩ rfl inferInstance inferInstance inferInstance rfl (by first|exact hx|exact hy)))|(apply u_g;(focus rfl);apply op_gyes rfl rfl rfl rfl rfl;first|((apply u_k 10;(focus rfl);exact op_bs ⟨rfl,rfl,rfl⟩ rfl inferInstance inferInstance inferInstance rfl (by first|exact hx|exact hy))))));refine w0 ?_)));all_goals clear kc1 kr1)
   refine rt2 ?_ ?_
   · exact rv_wk (rv_cA inferInstance inferInstance rfl rfl rfl rfl rfl rfl) aI
   · exact rv_int rfl rfl
 rw [if_neg hf]
 have hf:f2 = 0:=Decidable.not_not.1 hf
 subst hf
 by_cases hg:g2 ≠ 0
 · rw [if_pos hg,if_pos hg]
   clear k1 k2
   refine fi Tryz.func21 Tryz.ntmps21 ?_
   (have kc1:=a0;refine w0 ?_;(repeat' first|refine W2.mk ?_ ?_|refine W1.mk fun hc=>?_);all_goals clear kc1)
   refine AL_le (Le_boxW 7 _ 33 zmCs (msCs {}) rfl rfl zm_pw) ?_
   (have kr1:=a1;have kr2:=a2;have kr3:=a3;refine w0 ?_;(repeat' first|refine W2.mk ?_ ?_|refine W1.mk fun hc=>?_);all_goals clear kr3 kr2 kr1)
   refine AL_le (show Le _ _ (mkSt [(2,.ptr 2 0 0),(5,iC .i64 0),(6,.ptr 25 0 0),(7,.ptr 7 0 0),(67,.ptr 25 0 0)] [(2,.box 33 (zmCs.map Cnt.per)),(7,.box 33 ((msCs { kind:=5,ses:=s,num:=n }).map Cnt.per)),(25,.box 110 [.per (bysP L),iC .i64 o3,iC .i64 e3])]) from (by exact le_auto)) ?_
   (have kr1:=a4;have kr2:=a5;refine w0 ?_;(repeat' first|refine W2.mk ?_ ?_|refine W1.mk fun hc=>?_);all_goals clear kr2 kr1)
   refine AL_le (show Le _ _ (mkSt [(2,.ptr 2 0 0),(5,iC .i64 0),(6,.ptr 25 0 0),(7,.ptr 7 0 0),(96,.ptr 25 0 0),(8,sC ⟨#[]⟩),(9,sC ⟨#[]⟩),(10,sC ⟨#[]⟩)] [(2,.box 33 (zmCs.map Cnt.per)),(7,.box 33 ((msCs { kind:=5,ses:=s,num:=n,nxt:=n4,last:=n5 == 1 }).map Cnt.per)),(25,.box 110 [.per (bysP L),iC .i64 o5,iC .i64 e5])]) from (by exact le_auto)) ?_
   (have kr1:=a6;have kr2:=a7;refine w0 ?_;(repeat' first|refine W2.mk ?_ ?_|refine W1.mk fun hc=>?_);all_goals clear kr2 kr1)
   refine AL_le (show Le _ _ (mkSt [(2,.ptr 2 0 0),(5,iC .i64 0),(6,.ptr 25 0 0),(7,.ptr 7 0 0),(105,.ptr 25 0 0),(8,sC ⟨x.toArray⟩),(9,sC ⟨y.toArray⟩),(10,sC ⟨#[]⟩)] [(2,.box 33 (zmCs.map Cnt.per)),(7,.box 33 ((msCs { kind:=5,ses:=s,num:=n,nxt:=n4,last:=n5 == 1 }).map Cnt.per)),(25,.box 110 [.per (bysP L),iC .i64 o7,iC .i64 e7])]) from (by exact le_auto)) ?_
   (have kr1:=b1;have kc1:=b3;have kc2:=b4;refine w0 ?_;(repeat' (first|refine W2.mk ?_ ?_|refine W1.mk fun hc=>?_|((first|apply AL_t rfl|apply AL_0 rfl|apply AD_t rfl|apply AD_0 rfl);(focus (first|((apply u_k 10;(focus rfl);exact op_bs ⟨rfl,rfl,rfl⟩ rfl inferInstance inferInstance inferInstance rfl (by first|exact hx|exact hy)))|(apply u_g;(focus rfl);apply op_gyes rfl rfl rfl rfl rfl;first|((apply u_k 10;(focus rfl);exact op_bs ⟨rfl,rfl,rfl⟩ rfl inferInstance inferInstance inferInstance rfl (by first|exact hx|exact hy))))));refine w0 ?_)));all_goals clear kc2 kc1 kr1)
   refine rt2 ?_ ?_
   · exact rv_wk (rv_cA inferInstance inferInstance rfl rfl rfl rfl rfl rfl) aI
   · exact rv_int rfl rfl
 rw [if_neg hg,if_neg (show ¬ (0:Int) ≠ 0 by decide)]
 have hg:g2 = 0:=Decidable.not_not.1 hg
 subst hg
 have k1:=k1 rfl
 have k2:=k2.1
 have b5:=rm_Right { kind:=5,ses:=s,num:=n,nxt:=n4,last:=n5 == 1,its:=f1,know:=g1 } (by simp) k2 (by simp) (by simp only;omega)
 dsimp only
 clear k1 k2
 cases hr:msR { kind:=5,ses:=s,num:=n,nxt:=n4,last:=n5 == 1,its:=f1,know:=g1 } with
 | false=>
   rw [hr] at b5
   rw [if_neg (by simp)]
   refine fi Tryz.func21 Tryz.ntmps21 ?_
   (have kc1:=a0;refine w0 ?_;(repeat' first|refine W2.mk ?_ ?_|refine W1.mk fun hc=>?_);all_goals clear kc1)
   refine AL_le (Le_boxW 7 _ 33 zmCs (msCs {}) rfl rfl zm_pw) ?_
   (have kr1:=a1;have kr2:=a2;have kr3:=a3;refine w0 ?_;(repeat' first|refine W2.mk ?_ ?_|refine W1.mk fun hc=>?_);all_goals clear kr3 kr2 kr1)
   refine AL_le (show Le _ _ (mkSt [(2,.ptr 2 0 0),(5,iC .i64 0),(6,.ptr 25 0 0),(7,.ptr 7 0 0),(67,.ptr 25 0 0)] [(2,.box 33 (zmCs.map Cnt.per)),(7,.box 33 ((msCs { kind:=5,ses:=s,num:=n }).map Cnt.per)),(25,.box 110 [.per (bysP L),iC .i64 o3,iC .i64 e3])]) from (by exact le_auto)) ?_
   (have kr1:=a4;have kr2:=a5;refine w0 ?_;(repeat' first|refine W2.mk ?_ ?_|refine W1.mk fun hc=>?_);all_goals clear kr2 kr1)
   refine AL_le (show Le _ _ (mkSt [(2,.ptr 2 0 0),(5,iC .i64 0),(6,.ptr 25 0 0),(7,.ptr 7 0 0),(96,.ptr 25 0 0),(8,sC ⟨#[]⟩),(9,sC ⟨#[]⟩),(10,sC ⟨#[]⟩)] [(2,.box 33 (zmCs.map Cnt.per)),(7,.box 33 ((msCs { kind:=5,ses:=s,num:=n,nxt:=n4,last:=n5 == 1 }).map Cnt.per)),(25,.box 110 [.per (bysP L),iC .i64 o5,iC .i64 e5])]) from (by exact le_auto)) ?_
   (have kr1:=a6;have kr2:=a7;refine w0 ?_;(repeat' first|refine W2.mk ?_ ?_|refine W1.mk fun hc=>?_);all_goals clear kr2 kr1)
   refine AL_le (show Le _ _ (mkSt [(2,.ptr 2 0 0),(5,iC .i64 0),(6,.ptr 25 0 0),(7,.ptr 7 0 0),(105,.ptr 25 0 0),(8,sC ⟨x.toArray⟩),(9,sC ⟨y.toArray⟩),(10,sC ⟨#[]⟩)] [(2,.box 33 (zmCs.map Cnt.per)),(7,.box 33 ((msCs { kind:=5,ses:=s,num:=n,nxt:=n4,last:=n5 == 1 }).map Cnt.per)),(25,.box 110 [.per (bysP L),iC .i64 o7,iC .i64 e7])]) from (by exact le_auto)) ?_
   (have kr1:=b1;have kc1:=b3;have kc2:=b4;have kc3:=b5;refine w0 ?_;(repeat' (first|refine W2.mk ?_ ?_|refine W1.mk fun hc=>?_|((first|apply AL_t rfl|apply AL_0 rfl|apply AD_t rfl|apply AD_0 rfl);(focus (first|((apply u_k 10;(focus rfl);exact op_bs ⟨rfl,rfl,rfl⟩ rfl inferInstance inferInstance inferInstance rfl (by first|exact hx|exact hy)))|(apply u_g;(focus rfl);apply op_gyes rfl rfl rfl rfl rfl;first|((apply u_k 10;(focus rfl);exact op_bs ⟨rfl,rfl,rfl⟩ rfl inferInstance inferInstance inferInstance rfl (by first|exact hx|exact hy))))));refine w0 ?_)));all_goals clear kc3 kc2 kc1 kr1)
   refine rt2 ?_ ?_
   · exact rv_wk (rv_cA inferInstance inferInstance rfl rfl rfl rfl rfl rfl) aI
   · exact rv_int rfl rfl
 | true=>
   rw [hr] at b5
   rw [if_pos rfl]
   refine fi Tryz.func21 Tryz.ntmps21 ?_
   (have kc1:=a0;refine w0 ?_;(repeat' first|refine W2.mk ?_ ?_|refine W1.mk fun hc=>?_);all_goals clear kc1)
   refine AL_le (Le_boxW 7 _ 33 zmCs (msCs {}) rfl rfl zm_pw) ?_
   (have kr1:=a1;have kr2:=a2;have kr3:=a3;refine w0 ?_;(repeat' first|refine W2.mk ?_ ?_|refine W1.mk fun hc=>?_);all_goals clear kr3 kr2 kr1)
   refine AL_le (show Le _ _ (mkSt [(2,.ptr 2 0 0),(5,iC .i64 0),(6,.ptr 25 0 0),(7,.ptr 7 0 0),(67,.ptr 25 0 0)] [(2,.box 33 (zmCs.map Cnt.per)),(7,.box 33 ((msCs { kind:=5,ses:=s,num:=n }).map Cnt.per)),(25,.box 110 [.per (bysP L),iC .i64 o3,iC .i64 e3])]) from (by exact le_auto)) ?_
   (have kr1:=a4;have kr2:=a5;refine w0 ?_;(repeat' first|refine W2.mk ?_ ?_|refine W1.mk fun hc=>?_);all_goals clear kr2 kr1)
   refine AL_le (show Le _ _ (mkSt [(2,.ptr 2 0 0),(5,iC .i64 0),(6,.ptr 25 0 0),(7,.ptr 7 0 0),(96,.ptr 25 0 0),(8,sC ⟨#[]⟩),(9,sC ⟨#[]⟩),(10,sC ⟨#[]⟩)] [(2,.box 33 (zmCs.map Cnt.per)),(7,.box 33 ((msCs { kind:=5,ses:=s,num:=n,nxt:=n4,last:=n5 == 1 }).map Cnt.per)),(25,.box 110 [.per (bysP L),iC .i64 o5,iC .i64 e5])]) from (by exact le_auto)) ?_
   (have kr1:=a6;have kr2:=a7;refine w0 ?_;(repeat' first|refine W2.mk ?_ ?_|refine W1.mk fun hc=>?_);all_goals clear kr2 kr1)
   refine AL_le (show Le _ _ (mkSt [(2,.ptr 2 0 0),(5,iC .i64 0),(6,.ptr 25 0 0),(7,.ptr 7 0 0),(105,.ptr 25 0 0),(8,sC ⟨x.toArray⟩),(9,sC ⟨y.toArray⟩),(10,sC ⟨#[]⟩)] [(2,.box 33 (zmCs.map Cnt.per)),(7,.box 33 ((msCs { kind:=5,ses:=s,num:=n,nxt:=n4,last:=n5 == 1 }).map Cnt.per)),(25,.box 110 [.per (bysP L),iC .i64 o7,iC .i64 e7])]) from (by exact le_auto)) ?_
   (have kr1:=b1;have kc1:=b3;have kc2:=b4;have kc3:=b5;refine w0 ?_;(repeat' (first|refine W2.mk ?_ ?_|refine W1.mk fun hc=>?_|((first|apply AL_t rfl|apply AL_0 rfl|apply AD_t rfl|apply AD_0 rfl);(focus (first|((apply u_k 10;(focus rfl);exact op_bs ⟨rfl,rfl,rfl⟩ rfl inferInstance inferInstance inferInstance rfl (by first|exact hx|exact hy)))|(apply u_g;(focus rfl);apply op_gyes rfl rfl rfl rfl rfl;first|((apply u_k 10;(focus rfl);exact op_bs ⟨rfl,rfl,rfl⟩ rfl inferInstance inferInstance inferInstance rfl (by first|exact hx|exact hy))))));refine w0 ?_)));all_goals clear kc3 kc2 kc1 kr1)
   refine rt2 ?_ ?_
   · exact rv_wk (rv_cA inferInstance inferInstance rfl rfl rfl rfl rfl rfl) aI
   · exact rv_int rfl rfl
end
end Go.Proofs.YthlffkjpklpkfaaGreat
