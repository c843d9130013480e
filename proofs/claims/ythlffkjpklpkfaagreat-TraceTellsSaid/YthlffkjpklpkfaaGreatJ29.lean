/- Texts joined: MsT2. -/
import Derived.Test.YthlffkjpklpkfaaGreatJ28
import Derived.Test.YthlffkjpklpkfaaGreatJ07
set_option maxRecDepth 10000
set_option maxHeartbeats 8000000
namespace Go.Proofs.YthlffkjpklpkfaaGreat
open Go.RowKit
section
theorem rm_Read_4 {L:List UInt8} (hL:L.length ≤ 1000000) {b:List UInt8} (a0:Fn Tryz.prog 57 [.per (bysP b)] (.tup2 (.per (bysP L)) (inR 0))) (hk:(withinSt 1 6 L 0).1 = 4) :
   Fn Tryz.prog 21 [.per (bysP b)] (.tup2 (.per (msP (rdL L).1)) (inR (rdL L).2)):=by
 have hL0:L.length ≤ 1000000000000:=by omega
 have hs0:L <:+ L:=List.suffix_refl L
 generalize hR:rdHL L = R
 rw [rdL_of hR]
 dsimp only [rdHL,rdHd] at hR
 have a1:=rr_Within L L 0 hs0 hL0 1 6
 have s1:=(withinSt_suf 1 6 L 0).trans hs0
 generalize withinSt 1 6 L 0 = q1 at *
 obtain ⟨k,l1,e1⟩:=q1
 dsimp only at a1 s1 hR
 have e0:((L.length - L.length:Nat):Int) = 0:=by omega
 unfold rrBox at a1
 rw [e0] at a1
 clear e0
 have a2:=rr_Within L l1 e1 s1 hL0 1 281474976710656
 have s2:=(withinSt_suf 1 281474976710656 l1 e1).trans s1
 generalize withinSt 1 281474976710656 l1 e1 = q2 at *
 obtain ⟨s,l2,e2⟩:=q2
 dsimp only at a2 s2 hR
 have a3:=rr_Number L l2 e2 s2 hL0
 have s3:=(numSt_suf l2 e2).trans s2
 generalize numSt l2 e2 = q3 at *
 obtain ⟨n,l3,e3⟩:=q3
 dsimp only at a3 s3 hR
 dsimp only [rdNs] at hR
 clear s1 s2 hs0
 have hk:k = 4:=hk
 subst hk
 rw [if_neg (show ¬ (4:Int) = 1 by decide),if_neg (show ¬ (4:Int) = 2 by decide),if_neg (show ¬ (4:Int) = 3 by decide),if_neg (show ¬ (4:Int) = 5 by decide),if_neg (show ¬ (4:Int) = 6 by decide)] at hR
 dsimp only at hR
 rw [show ptsN 4 = 2 from rfl] at hR
 dsimp only [rdTs,maxN] at hR
 have z3:=s3.length_le
 have a4:=rr_Text L l3 e3 s3 hL0 281474976710656
 have t4:=textSt_len 281474976710656 l3 e3
 have u4:=(textSt_suf 281474976710656 l3 e3).length_le
 have s4:=(textSt_suf 281474976710656 l3 e3).trans s3
 generalize textSt 281474976710656 l3 e3 = q4 at *
 obtain ⟨x,l4,e4⟩:=q4
 dsimp only at a4 t4 u4 s4 hR
 have a5:=rr_Text L l4 e4 s4 hL0 281474976710656
 have t5:=textSt_len 281474976710656 l4 e4
 have u5:=(textSt_suf 281474976710656 l4 e4).length_le
 have s5:=(textSt_suf 281474976710656 l4 e4).trans s4
 generalize textSt 281474976710656 l4 e4 = q5 at *
 obtain ⟨y,l5,e5⟩:=q5
 dsimp only at a5 t5 u5 s5 hR
 have hx:(⟨x.toArray⟩:ByteArray).size ≤ 1000000000000:=by show x.toArray.size ≤ _;rw [List.size_toArray];omega
 have hy:(⟨y.toArray⟩:ByteArray).size ≤ 1000000000000:=by show y.toArray.size ≤ _;rw [List.size_toArray];omega
 subst hR
 dsimp only
 have b1:=rr_End L l5 e5 s5
 generalize endSt l5 e5 = v at *
 dsimp only [rrBox] at a1 a2 a3 a4 a5 b1
 generalize ((L.length - l1.length:Nat):Int) = o1 at a1 a2 a3 a4 a5 b1
 generalize ((L.length - l2.length:Nat):Int) = o2 at a1 a2 a3 a4 a5 b1
 generalize ((L.length - l3.length:Nat):Int) = o3 at a1 a2 a3 a4 a5 b1
 generalize ((L.length - l4.length:Nat):Int) = o4 at a1 a2 a3 a4 a5 b1
 generalize ((L.length - l5.length:Nat):Int) = o5 at a1 a2 a3 a4 a5 b1
 have b3:=(ref_ReadRanges x (by omega)).frz
 have hP:rdPs { kind:=4,ses:=s,num:=n } [x,y] = (if (rdRgs x).2 ≠ 0 then ({ kind:=4,ses:=s,num:=n },(rdRgs x).2) else if (rdRgs x).1.length = 1 ∧ y.length = 8 then ({ kind:=4,ses:=s,num:=n,rg:=(rdRgs x).1.getD 0 ⟨⟨#[]⟩,⟨#[]⟩,false⟩,sum:=numL y },0) else ({ kind:=4,ses:=s,num:=n },11)):=by
   unfold rdPs;rw [if_neg (show ¬ (4:Int) = 1 by decide),if_pos (show (4:Int) = 4 from rfl)];rfl
 rw [hP]
 clear hP
 have hyl:(⟨y.toArray⟩:ByteArray).size = y.length:=by show y.toArray.size = _;rw [List.size_toArray]
 generalize rdRgs x = f at *
 obtain ⟨f1,f2⟩:=f
 dsimp only at b3 ⊢
 try clear s3 s4 s5 s6 s7 s8 s9 s10
 by_cases hv:v ≠ 0
 · rw [if_pos hv]
   clear b3
   refine fi Tryz.func21 Tryz.ntmps21 ?_
   (have kc1:=a0;refine w0 ?_;(repeat' first|refine W2.mk ?_ ?_|refine W1.mk fun hc=>?_);all_goals clear kc1)
   refine AL_le (Le_boxW 7 _ 33 zmCs (msCs {}) rfl rfl zm_pw) ?_
   (have kr1:=a1;have kr2:=a2;have kr3:=a3;refine w0 ?_;(repeat' first|refine W2.mk ?_ ?_|refine W1.mk fun hc=>?_);all_goals clear kr3 kr2 kr1)
   refine AL_le (show Le _ _ (mkSt [(2,.ptr 2 0 0),(5,iC .i64 0),(6,.ptr 25 0 0),(7,.ptr 7 0 0),(96,.ptr 25 0 0),(8,sC ⟨#[]⟩),(9,sC ⟨#[]⟩),(10,sC ⟨#[]⟩)] [(2,.box 33 (zmCs.map Cnt.per)),(7,.box 33 ((msCs { kind:=4,ses:=s,num:=n }).map Cnt.per)),(25,.box 110 [.per (bysP L),iC .i64 o3,iC .i64 e3])]) from (by exact le_auto)) ?_
   (have kr1:=a4;have kr2:=a5;refine w0 ?_;(repeat' first|refine W2.mk ?_ ?_|refine W1.mk fun hc=>?_);all_goals clear kr2 kr1)
   refine AL_le (show Le _ _ (mkSt [(2,.ptr 2 0 0),(5,iC .i64 0),(6,.ptr 25 0 0),(7,.ptr 7 0 0),(105,.ptr 25 0 0),(8,sC ⟨x.toArray⟩),(9,sC ⟨y.toArray⟩),(10,sC ⟨#[]⟩)] [(2,.box 33 (zmCs.map Cnt.per)),(7,.box 33 ((msCs { kind:=4,ses:=s,num:=n }).map Cnt.per)),(25,.box 110 [.per (bysP L),iC .i64 o5,iC .i64 e5])]) from (by exact le_auto)) ?_
   (have kr1:=b1;refine w0 ?_;(repeat' first|refine W2.mk ?_ ?_|refine W1.mk fun hc=>?_);all_goals clear kr1)
   refine rt2 ?_ ?_
   · exact rv_wk (rv_cA inferInstance inferInstance rfl rfl rfl rfl rfl rfl) aI
   · exact rv_int rfl rfl
 rw [if_neg hv]
 have hv:v = 0:=Decidable.not_not.1 hv
 subst hv
 by_cases hf:f2 ≠ 0
 · rw [if_pos hf,if_pos hf]
   refine fi Tryz.func21 Tryz.ntmps21 ?_
   (have kc1:=a0;refine w0 ?_;(repeat' first|refine W2.mk ?_ ?_|refine W1.mk fun hc=>?_);all_goals clear kc1)
   refine AL_le (Le_boxW 7 _ 33 zmCs (msCs {}) rfl rfl zm_pw) ?_
   (have kr1:=a1;have kr2:=a2;have kr3:=a3;refine w0 ?_;(repeat' first|refine W2.mk ?_ ?_|refine W1.mk fun hc=>?_);all_goals clear kr3 kr2 kr1)
   refine AL_le (show Le _ _ (mkSt [(2,.ptr 2 0 0),(5,iC .i64 0),(6,.ptr 25 0 0),(7,.ptr 7 0 0),(96,.ptr 25 0 0),(8,sC ⟨#[]⟩),(9,sC ⟨#[]⟩),(10,sC ⟨#[]⟩)] [(2,.box 33 (zmCs.map Cnt.per)),(7,.box 33 ((msCs { kind:=4,ses:=s,num:=n }).map Cnt.per)),(25,.box 110 [.per (bysP L),iC .i64 o3,iC .i64 e3])]) from (by exact le_auto)) ?_
   (have kr1:=a4;have kr2:=a5;refine w0 ?_;(repeat' first|refine W2.mk ?_ ?_|refine W1.mk fun hc=>?_);all_goals clear kr2 kr1)
   refine AL_le (show Le _ _ (mkSt [(2,.ptr 2 0 0),(5,iC .i64 0),(6,.ptr 25 0 0),(7,.ptr 7 0 0),(105,.ptr 25 0 0),(8,sC ⟨x.toArray⟩),(9,sC ⟨y.toArray⟩),(10,sC ⟨#[]⟩)] [(2,.box 33 (zmCs.map Cnt.per)),(7,.box 33 ((msCs { kind:=4,ses:=s,num:=n }).map Cnt.per)),(25,.box 110 [.per (bysP L),iC .i64 o5,iC .i64 e5])]) from (by exact le_auto)) ?_
   (have kr1:=b1;have kc1:=b3;refine w0 ?_;(repeat' (first|refine W2.mk ?_ ?_|refine W1.mk fun hc=>?_|((first|apply AL_t rfl|apply AL_0 rfl|apply AD_t rfl|apply AD_0 rfl);(focus (first|((apply u_k 10;(focus rfl);exact op_bs ⟨rfl,rfl,rfl⟩ rfl inferInstance inferInstance inferInstance rfl (by first|exact hx|exact hy)))|(apply u_g;(focus rfl);apply op_gyes rfl rfl rfl rfl rfl;first|((apply u_k 10;(focus rfl);exact op_bs ⟨rfl,rfl,rfl⟩ rfl inferInstance inferInstance inferInstance rfl (by first|exact hx|exact hy))))));refine w0 ?_)));all_goals clear kc1 kr1)
   refine rt2 ?_ ?_
   · exact rv_wk (rv_cA inferInstance inferInstance rfl rfl rfl rfl rfl rfl) aI
   · exact rv_int rfl rfl
 rw [if_neg hf]
 have hf:f2 = 0:=Decidable.not_not.1 hf
 subst hf
 by_cases hb:¬ (f1.length = 1 ∧ y.length = 8)
 · rw [if_neg hb,if_pos (show (11:Int) ≠ 0 by decide)]
   refine fi Tryz.func21 Tryz.ntmps21 ?_
   (have kc1:=a0;refine w0 ?_;(repeat' first|refine W2.mk ?_ ?_|refine W1.mk fun hc=>?_);all_goals clear kc1)
   refine AL_le (Le_boxW 7 _ 33 zmCs (msCs {}) rfl rfl zm_pw) ?_
   (have kr1:=a1;have kr2:=a2;have kr3:=a3;refine w0 ?_;(repeat' first|refine W2.mk ?_ ?_|refine W1.mk fun hc=>?_);all_goals clear kr3 kr2 kr1)
   refine AL_le (show Le _ _ (mkSt [(2,.ptr 2 0 0),(5,iC .i64 0),(6,.ptr 25 0 0),(7,.ptr 7 0 0),(96,.ptr 25 0 0),(8,sC ⟨#[]⟩),(9,sC ⟨#[]⟩),(10,sC ⟨#[]⟩)] [(2,.box 33 (zmCs.map Cnt.per)),(7,.box 33 ((msCs { kind:=4,ses:=s,num:=n }).map Cnt.per)),(25,.box 110 [.per (bysP L),iC .i64 o3,iC .i64 e3])]) from (by exact le_auto)) ?_
   (have kr1:=a4;have kr2:=a5;refine w0 ?_;(repeat' first|refine W2.mk ?_ ?_|refine W1.mk fun hc=>?_);all_goals clear kr2 kr1)
   refine AL_le (show Le _ _ (mkSt [(2,.ptr 2 0 0),(5,iC .i64 0),(6,.ptr 25 0 0),(7,.ptr 7 0 0),(105,.ptr 25 0 0),(8,sC ⟨x.toArray⟩),(9,sC ⟨y.toArray⟩),(10,sC ⟨#[]⟩)] [(2,.box 33 (zmCs.map Cnt.per)),(7,.box 33 ((msCs { kind:=4,ses:=s,num:=n }).map Cnt.per)),(25,.box 110 [.per (bysP L),iC .i64 o5,iC .i64 e5])]) from (by exact le_auto)) ?_
   (have kr1:=b1;have kc1:=b3;refine w0 ?_;(repeat' (first|refine W2.mk ?_ ?_|refine W1.mk fun hc=>?_|((first|apply AL_t rfl|apply AL_0 rfl|apply AD_t rfl|apply AD_0 rfl);(focus (first|((apply u_k 10;(focus rfl);exact op_bs ⟨rfl,rfl,rfl⟩ rfl inferInstance inferInstance inferInstance rfl (by first|exact hx|exact hy)))|(apply u_g;(focus rfl);apply op_gyes rfl rfl rfl rfl rfl;first|((apply u_k 10;(focus rfl);exact op_bs ⟨rfl,rfl,rfl⟩ rfl inferInstance inferInstance inferInstance rfl (by first|exact hx|exact hy))))));refine w0 ?_)));all_goals clear kc1 kr1)
   all_goals first|(exfalso;apply hb;constructor <;> first|omega|(simp only at *;omega)|(simp only at *;omega))|skip
   all_goals refine rt2 ?_ ?_
   all_goals first|(exact rv_wk (rv_cA inferInstance inferInstance rfl rfl rfl rfl rfl rfl) aI)|exact rv_int rfl rfl
 replace hb:=Decidable.not_not.1 hb
 rw [if_pos hb,if_neg (show ¬ (0:Int) ≠ 0 by decide)]
 obtain ⟨k1,k2⟩:=hb
 obtain ⟨r,rfl⟩:∃ r,f1 = [r]:=by
   match f1,k1 with
   | [r],_=>exact ⟨r,rfl⟩
 dsimp only [List.getD_cons_zero]
 have b5:=rm_Right { kind:=4,ses:=s,num:=n,rg:=r,sum:=numL y } (by simp) pcsSz_nil (by simp) (by simp)
 have rd0:[r].getD 0 ⟨⟨#[]⟩,⟨#[]⟩,false⟩ = r:=rfl
 rw [rd0]
 clear rd0
 generalize hr:msR { kind:=4,ses:=s,num:=n,rg:=r,sum:=numL y } = br at *
 refine fi Tryz.func21 Tryz.ntmps21 ?_
 (have kc1:=a0;refine w0 ?_;(repeat' first|refine W2.mk ?_ ?_|refine W1.mk fun hc=>?_);all_goals clear kc1)
 refine AL_le (Le_boxW 7 _ 33 zmCs (msCs {}) rfl rfl zm_pw) ?_
 (have kr1:=a1;have kr2:=a2;have kr3:=a3;refine w0 ?_;(repeat' first|refine W2.mk ?_ ?_|refine W1.mk fun hc=>?_);all_goals clear kr3 kr2 kr1)
 refine AL_le (show Le _ _ (mkSt [(2,.ptr 2 0 0),(5,iC .i64 0),(6,.ptr 25 0 0),(7,.ptr 7 0 0),(96,.ptr 25 0 0),(8,sC ⟨#[]⟩),(9,sC ⟨#[]⟩),(10,sC ⟨#[]⟩)] [(2,.box 33 (zmCs.map Cnt.per)),(7,.box 33 ((msCs { kind:=4,ses:=s,num:=n }).map Cnt.per)),(25,.box 110 [.per (bysP L),iC .i64 o3,iC .i64 e3])]) from (by exact le_auto)) ?_
 (have kr1:=a4;have kr2:=a5;refine w0 ?_;(repeat' first|refine W2.mk ?_ ?_|refine W1.mk fun hc=>?_);all_goals clear kr2 kr1)
 refine AL_le (show Le _ _ (mkSt [(2,.ptr 2 0 0),(5,iC .i64 0),(6,.ptr 25 0 0),(7,.ptr 7 0 0),(105,.ptr 25 0 0),(8,sC ⟨x.toArray⟩),(9,sC ⟨y.toArray⟩),(10,sC ⟨#[]⟩)] [(2,.box 33 (zmCs.map Cnt.per)),(7,.box 33 ((msCs { kind:=4,ses:=s,num:=n }).map Cnt.per)),(25,.box 110 [.per (bysP L),iC .i64 o5,iC .i64 e5])]) from (by exact le_auto)) ?_
 (have kr1:=b1;have kc1:=b3;refine w0 ?_;(repeat' (first|refine W2.mk ?_ ?_|refine W1.mk fun hc=>?_|((first|apply AL_t rfl|apply AL_0 rfl|apply AD_t rfl|apply AD_0 rfl);(focus (first|((apply u_k 10;(focus rfl);exact op_bs ⟨rfl,rfl,rfl⟩ rfl inferInstance inferInstance inferInstance rfl (by first|exact hx|exact hy)))|(apply u_g;(focus rfl);apply op_gyes rfl rfl rfl rfl rfl;first|((apply u_k 10;(focus rfl);exact op_bs ⟨rfl,rfl,rfl⟩ rfl inferInstance inferInstance inferInstance rfl (by first|exact hx|exact hy))))));refine w0 ?_)));all_goals clear kc1 kr1)
 refine AW_loopP (X:=Nat) (fun j=>j ≤ 8) (fun j=>mkSt [(2,.ptr 2 0 0),(5,iC .i64 0),(7,.ptr 7 0 0),(9,sC ⟨y.toArray⟩),(13,iC .i64 ((j:Int) - 1))] [(2,.box 33 (zmCs.map Cnt.per)),(7,.box 33 ((msCs { kind:=4,ses:=s,num:=n,rg:=r,sum:=numL (y.drop j) }).map Cnt.per))]) (fun j=>j) 8 (by omega) ?_ ?_
 · rw [show y.drop 8 = [] from List.drop_of_length_le (by omega)]
   exact le_auto
 · intro j hj
   cases j with
   | succ i=>
     have hil:i < y.length:=by omega
     have hS:=numL_drop hil
     have hlo:=numL_lt (y.drop (i + 1))
     rw [List.length_drop] at hlo
     have hp:256 ^ (y.length - (i + 1)) ≤ 256 ^ 7:=Nat.pow_le_pow_right (by decide) (by omega)
     have h7:(256:Nat) ^ 7 = 72057594037927936:=by decide
     have hcb:=y[i].toNat_lt
     have hmul:IntKind.u64.wrap (256 * (numL (y.drop (i + 1)):Int)) = ((256 * numL (y.drop (i + 1)):Nat):Int):=by
       rw [IntKind.wrap_u64];omega
     have hw:=wrap_u64_byte y[i]
     have hadd:IntKind.u64.wrap (((256 * numL (y.drop (i + 1)):Nat):Int) + (y[i].toNat:Int)) = (numL (y.drop i):Int):=by
       rw [IntKind.wrap_u64];omega
     have HJ:(⟨y.toArray⟩:ByteArray).data.toList[i]? = some y[i]:=List.getElem?_eq_getElem hil
     have hz:((i + 1:Nat):Int) - 1 = ((i:Nat):Int):=by omega
     rw [hz]
     clear hz hS hlo hp h7 b5 b3 hr
     generalize numL (y.drop (i + 1)) = s1 at *
     generalize hs2:numL (y.drop i) = s2 at *
     (repeat' (first|refine AW_seq ?_|refine AW_block ?_|refine AW_skip ?_|refine AW_exit ?_|refine AW_ret ?_|refine AW_region ?_|refine AW_draw mixed0 ?_|refine AL_nil ?_|refine AD_nil (by kernel_rfl) ?_|(refine AW_cl rfl rfl ⟨fun hc=>?_,fun hc=>?_⟩ <;> (repeat rw [List.length_map] at hc) <;> (try exact absd hc))|((first|apply AL_t rfl|apply AL_0 rfl|apply AD_t rfl|apply AD_0 rfl);focus (first|((apply u_k 8;(focus rfl);exact op_num ⟨rfl,rfl,rfl⟩ rfl rfl rfl rfl hmul))|(apply u_g;(focus rfl);apply op_gyes rfl rfl rfl rfl rfl;((apply u_k 8;(focus rfl);exact op_num ⟨rfl,rfl,rfl⟩ rfl rfl rfl rfl hmul)))|((apply u_k 8;(focus rfl);exact op_num ⟨rfl,rfl,rfl⟩ rfl rfl rfl rfl hadd))|(apply u_g;(focus rfl);apply op_gyes rfl rfl rfl rfl rfl;((apply u_k 8;(focus rfl);exact op_num ⟨rfl,rfl,rfl⟩ rfl rfl rfl rfl hadd)))|((apply u_k 10;(focus rfl);exact u_conv ⟨rfl,rfl,rfl⟩ rfl inferInstance inferInstance rfl hw))|(apply u_g;(focus rfl);apply op_gyes rfl rfl rfl rfl rfl;((apply u_k 10;(focus rfl);exact u_conv ⟨rfl,rfl,rfl⟩ rfl inferInstance inferInstance rfl hw)))|((apply u_k 13;(focus rfl);exact u_sindex ⟨rfl,rfl,rfl⟩ rfl inferInstance rfl rfl rfl HJ))|(apply u_g;(focus rfl);apply op_gyes rfl rfl rfl rfl rfl;((apply u_k 13;(focus rfl);exact u_sindex ⟨rfl,rfl,rfl⟩ rfl inferInstance rfl rfl rfl HJ)))|exact z_auto|fail))|refine thenA_n ?_|refine thenA_r ?_|refine thenA_e ?_|refine inB_n ?_|refine inB_r ?_|refine inB_hit ?_|refine inB_miss rfl ?_|((first|refine AL_cl rfl rfl rfl ⟨fun hc=>?_,fun hc=>?_⟩|refine AD_cl rfl rfl rfl ⟨fun hc=>?_,fun hc=>?_⟩) <;> (fail_if_success (have q:(true = true):=hc)) <;> (fail_if_success (have q:(false = false):=hc)) <;> (repeat rw [List.length_map] at hc) <;> (try exact absd hc))|refine AW_cond_nil rfl rfl (fun hc=>?_) ?_))
     refine ⟨i,by omega,by omega,?_⟩
     rw [hs2]
     exact le_auto
   | zero=>
     rw [List.drop_zero]
     clear b3
     cases br with
     | false=>
       rw [if_neg (by simp)]
       (have kc1:=b5;refine w0 ?_;(repeat' first|refine W2.mk ?_ ?_|refine W1.mk fun hc=>?_);all_goals clear kc1)
       refine rt2 ?_ ?_
       · exact rv_wk (rv_cA inferInstance inferInstance rfl rfl rfl rfl rfl rfl) aI
       · exact rv_int rfl rfl
     | true=>
       rw [if_pos rfl]
       (have kc1:=b5;refine w0 ?_;(repeat' first|refine W2.mk ?_ ?_|refine W1.mk fun hc=>?_);all_goals clear kc1)
       refine rt2 ?_ ?_
       · exact rv_wk (rv_cA inferInstance inferInstance rfl rfl rfl rfl rfl rfl) aI
       · exact rv_int rfl rfl
theorem rm_Read (b:List UInt8) (hb:b.length ≤ 1000000):Fn Tryz.prog 21 [.per (bysP b)] (.tup2 (.per (msP (rdM b).1)) (inR (rdM b).2)):=by
 have a0:=rfr_Open b (by omega)
 have hL:=openF_len b
 unfold rdM
 generalize openF b = q at *
 obtain ⟨L,e⟩:=q
 simp only at a0 hL ⊢
 by_cases he:e ≠ 0
 · rw [if_pos he]
   refine fi Tryz.func21 Tryz.ntmps21 ?_
   (have kc1:=a0;refine w0 ?_;(repeat' first|refine W2.mk ?_ ?_|refine W1.mk fun hc=>?_);all_goals clear kc1)
   refine rt2 ?_ ?_
   · exact rv_wk (rv_cA inferInstance inferInstance rfl rfl rfl rfl rfl rfl) aI
   · exact rv_int rfl rfl
 rw [if_neg he]
 have he:e = 0:=Decidable.not_not.1 he
 subst he
 by_cases c1:(withinSt 1 6 L 0).1 = 1
 · exact rm_Read_1 (by omega) a0 c1
 by_cases c2:(withinSt 1 6 L 0).1 = 2
 · exact rm_Read_2 (by omega) a0 c2
 by_cases c3:(withinSt 1 6 L 0).1 = 3
 · exact rm_Read_3 (by omega) a0 c3
 by_cases c4:(withinSt 1 6 L 0).1 = 4
 · exact rm_Read_4 (by omega) a0 c4
 by_cases c5:(withinSt 1 6 L 0).1 = 5
 · exact rm_Read_5 (by omega) a0 c5
 by_cases c6:(withinSt 1 6 L 0).1 = 6
 · exact rm_Read_6 (by omega) a0 c6
 · exact rm_Read_0 (by omega) a0 fun k hk=>by subst hk;exact ⟨c1,c2,c3,c4,c5,c6⟩
end
end Go.Proofs.YthlffkjpklpkfaaGreat
