/- Texts joined: MsT. -/
import Derived.Test.YthlffkjpklpkfaaGreatJ24
import Derived.Test.YthlffkjpklpkfaaGreatJ25
import Derived.Test.YthlffkjpklpkfaaGreatJ26
import Derived.Test.YthlffkjpklpkfaaGreatJ07
set_option maxRecDepth 10000
set_option maxHeartbeats 8000000
namespace Go.Proofs.YthlffkjpklpkfaaGreat
open Go.RowKit
theorem zm_pw:PW zmCs (msCs {}):=by (repeat (first|exact PW.nil|(refine PW.cons (by first|exact Imp.refl|exact nil_imp) ?_)))
theorem rdL_of {l:List UInt8} {R:Msg × List (List UInt8) × List UInt8 × Int} (h:rdHL l = R) :
   rdL l = (if endSt R.2.2.1 R.2.2.2 ≠ 0 then ({},endSt R.2.2.1 R.2.2.2) else if (rdPs R.1 R.2.1).2 ≠ 0 then ({},(rdPs R.1 R.2.1).2) else if msR (rdPs R.1 R.2.1).1 then ((rdPs R.1 R.2.1).1,0) else ({},11)):=by
 rw [rdL_eq,h]
theorem pcsSz_nil:pcsSz []:=⟨by simp,fun p hp=>by simp at hp⟩
theorem numL_drop {l:List UInt8} {i:Nat} (h:i < l.length):numL (l.drop i) = l[i].toNat + 256 * numL (l.drop (i + 1)):=by
 rw [List.drop_eq_getElem_cons h];rfl
section
theorem rm_Read_2 {L:List UInt8} (hL:L.length ≤ 1000000) {b:List UInt8} (a0:Fn Tryz.prog 57 [.per (bysP b)] (.tup2 (.per (bysP L)) (inR 0))) (hk:(withinSt 1 6 L 0).1 = 2) :
   Fn Tryz.prog 21 [.per (bysP b)] (.tup2 (.per (msP (rdL L).1)) (inR (rdL L).2)):=by
 have hL0:L.length ≤ 1000000000000:=by omega
 have hs0:L <:+ L:=List.suffix_refl L
 generalize hR:rdHL L = R
 rw [rdL_of hR]
 dsimp only [rdHL,rdHd] at hR
 have a1:=rr_Within L L 0 hs0 hL0 1 6
 have s1:=(withinSt_suf 1 6 L 0).trans hs0
 generalize withinSt 1 6 L 0 = q1 at *
 obtain ⟨k,l1,e1⟩:=q1
 dsimp only at a1 s1 hR
 have e0:((L.length - L.length:Nat):Int) = 0:=by omega
 unfold rrBox at a1
 rw [e0] at a1
 clear e0
 have a2:=rr_Within L l1 e1 s1 hL0 1 281474976710656
 have s2:=(withinSt_suf 1 281474976710656 l1 e1).trans s1
 generalize withinSt 1 281474976710656 l1 e1 = q2 at *
 obtain ⟨s,l2,e2⟩:=q2
 dsimp only at a2 s2 hR
 have a3:=rr_Number L l2 e2 s2 hL0
 have s3:=(numSt_suf l2 e2).trans s2
 generalize numSt l2 e2 = q3 at *
 obtain ⟨n,l3,e3⟩:=q3
 dsimp only at a3 s3 hR
 dsimp only [rdNs] at hR
 clear s1 s2 hs0
 have hk:k = 2:=hk
 subst hk
 rw [if_neg (show ¬ (2:Int) = 1 by decide),if_pos (show (2:Int) = 2 from rfl)] at hR
 dsimp only at hR
 have a4:=rr_Within L l3 e3 s3 hL0 0 1
 have s4:=(withinSt_suf 0 1 l3 e3).trans s3
 generalize withinSt 0 1 l3 e3 = q4 at *
 obtain ⟨n4,l4,e4⟩:=q4
 dsimp only at a4 s4 hR
 rw [show ptsN 2 = 0 from rfl] at hR
 dsimp only [rdTs] at hR
 subst hR
 dsimp only
 have b1:=rr_End L l4 e4 s4
 generalize endSt l4 e4 = v at *
 dsimp only [rrBox] at a1 a2 a3 a4 b1
 generalize ((L.length - l1.length:Nat):Int) = o1 at a1 a2 a3 a4 b1
 generalize ((L.length - l2.length:Nat):Int) = o2 at a1 a2 a3 a4 b1
 generalize ((L.length - l3.length:Nat):Int) = o3 at a1 a2 a3 a4 b1
 generalize ((L.length - l4.length:Nat):Int) = o4 at a1 a2 a3 a4 b1
 have hP:rdPs { kind:=2,ses:=s,num:=n,same:=n4 == 1 } [] = ({ kind:=2,ses:=s,num:=n,same:=n4 == 1 },0):=by unfold rdPs;rw [if_neg (show ¬ (2:Int) = 1 by decide),if_neg (show ¬ (2:Int) = 4 by decide),if_neg (show ¬ (2:Int) = 5 by decide)]
 rw [hP]
 dsimp only
 clear hP
 have b2:=rm_Right { kind:=2,ses:=s,num:=n,same:=n4 == 1 } (by simp) pcsSz_nil (by simp) (by simp)
 try clear s3 s4 s5 s6 s7 s8 s9 s10
 by_cases hv:v ≠ 0
 · rw [if_pos hv]
   refine fi Tryz.func21 Tryz.ntmps21 ?_
   (have kc1:=a0;refine w0 ?_;(repeat' first|refine W2.mk ?_ ?_|refine W1.mk fun hc=>?_);all_goals clear kc1)
   refine AL_le (Le_boxW 7 _ 33 zmCs (msCs {}) rfl rfl zm_pw) ?_
   (have kr1:=a1;have kr2:=a2;have kr3:=a3;refine w0 ?_;(repeat' first|refine W2.mk ?_ ?_|refine W1.mk fun hc=>?_);all_goals clear kr3 kr2 kr1)
   refine AL_le (show Le _ _ (mkSt [(2,.ptr 2 0 0),(5,iC .i64 0),(6,.ptr 25 0 0),(7,.ptr 7 0 0),(55,.ptr 25 0 0)] [(2,.box 33 (zmCs.map Cnt.per)),(7,.box 33 ((msCs { kind:=2,ses:=s,num:=n }).map Cnt.per)),(25,.box 110 [.per (bysP L),iC .i64 o3,iC .i64 e3])]) from (by exact le_auto)) ?_
   (have kr1:=a4;refine w0 ?_;(repeat' first|refine W2.mk ?_ ?_|refine W1.mk fun hc=>?_);all_goals clear kr1)
   refine AL_le (show Le _ _ (mkSt [(2,.ptr 2 0 0),(5,iC .i64 0),(6,.ptr 25 0 0),(7,.ptr 7 0 0),(105,.ptr 25 0 0),(8,sC ⟨#[]⟩),(9,sC ⟨#[]⟩),(10,sC ⟨#[]⟩)] [(2,.box 33 (zmCs.map Cnt.per)),(7,.box 33 ((msCs { kind:=2,ses:=s,num:=n,same:=n4 == 1 }).map Cnt.per)),(25,.box 110 [.per (bysP L),iC .i64 o4,iC .i64 e4])]) from (by exact le_auto)) ?_
   (have kr1:=b1;refine w0 ?_;(repeat' first|refine W2.mk ?_ ?_|refine W1.mk fun hc=>?_);all_goals clear kr1)
   refine rt2 ?_ ?_
   · exact rv_wk (rv_cA inferInstance inferInstance rfl rfl rfl rfl rfl rfl) aI
   · exact rv_int rfl rfl
 rw [if_neg hv,if_neg (show ¬ (0:Int) ≠ 0 by decide)]
 have hv:v = 0:=Decidable.not_not.1 hv
 subst hv
 cases hr:msR { kind:=2,ses:=s,num:=n,same:=n4 == 1 } with
 | false=>
   rw [hr] at b2
   rw [if_neg (by simp)]
   refine fi Tryz.func21 Tryz.ntmps21 ?_
   (have kc1:=a0;refine w0 ?_;(repeat' first|refine W2.mk ?_ ?_|refine W1.mk fun hc=>?_);all_goals clear kc1)
   refine AL_le (Le_boxW 7 _ 33 zmCs (msCs {}) rfl rfl zm_pw) ?_
   (have kr1:=a1;have kr2:=a2;have kr3:=a3;refine w0 ?_;(repeat' first|refine W2.mk ?_ ?_|refine W1.mk fun hc=>?_);all_goals clear kr3 kr2 kr1)
   refine AL_le (show Le _ _ (mkSt [(2,.ptr 2 0 0),(5,iC .i64 0),(6,.ptr 25 0 0),(7,.ptr 7 0 0),(55,.ptr 25 0 0)] [(2,.box 33 (zmCs.map Cnt.per)),(7,.box 33 ((msCs { kind:=2,ses:=s,num:=n }).map Cnt.per)),(25,.box 110 [.per (bysP L),iC .i64 o3,iC .i64 e3])]) from (by exact le_auto)) ?_
   (have kr1:=a4;refine w0 ?_;(repeat' first|refine W2.mk ?_ ?_|refine W1.mk fun hc=>?_);all_goals clear kr1)
   refine AL_le (show Le _ _ (mkSt [(2,.ptr 2 0 0),(5,iC .i64 0),(6,.ptr 25 0 0),(7,.ptr 7 0 0),(105,.ptr 25 0 0),(8,sC ⟨#[]⟩),(9,sC ⟨#[]⟩),(10,sC ⟨#[]⟩)] [(2,.box 33 (zmCs.map Cnt.per)),(7,.box 33 ((msCs { kind:=2,ses:=s,num:=n,same:=n4 == 1 }).map Cnt.per)),(25,.box 110 [.per (bysP L),iC .i64 o4,iC .i64 e4])]) from (by exact le_auto)) ?_
   (have kr1:=b1;have kc1:=b2;refine w0 ?_;(repeat' first|refine W2.mk ?_ ?_|refine W1.mk fun hc=>?_);all_goals clear kc1 kr1)
   refine rt2 ?_ ?_
   · exact rv_wk (rv_cA inferInstance inferInstance rfl rfl rfl rfl rfl rfl) aI
   · exact rv_int rfl rfl
 | true=>
   rw [hr] at b2
   rw [if_pos rfl]
   refine fi Tryz.func21 Tryz.ntmps21 ?_
   (have kc1:=a0;refine w0 ?_;(repeat' first|refine W2.mk ?_ ?_|refine W1.mk fun hc=>?_);all_goals clear kc1)
   refine AL_le (Le_boxW 7 _ 33 zmCs (msCs {}) rfl rfl zm_pw) ?_
   (have kr1:=a1;have kr2:=a2;have kr3:=a3;refine w0 ?_;(repeat' first|refine W2.mk ?_ ?_|refine W1.mk fun hc=>?_);all_goals clear kr3 kr2 kr1)
   refine AL_le (show Le _ _ (mkSt [(2,.ptr 2 0 0),(5,iC .i64 0),(6,.ptr 25 0 0),(7,.ptr 7 0 0),(55,.ptr 25 0 0)] [(2,.box 33 (zmCs.map Cnt.per)),(7,.box 33 ((msCs { kind:=2,ses:=s,num:=n }).map Cnt.per)),(25,.box 110 [.per (bysP L),iC .i64 o3,iC .i64 e3])]) from (by exact le_auto)) ?_
   (have kr1:=a4;refine w0 ?_;(repeat' first|refine W2.mk ?_ ?_|refine W1.mk fun hc=>?_);all_goals clear kr1)
   refine AL_le (show Le _ _ (mkSt [(2,.ptr 2 0 0),(5,iC .i64 0),(6,.ptr 25 0 0),(7,.ptr 7 0 0),(105,.ptr 25 0 0),(8,sC ⟨#[]⟩),(9,sC ⟨#[]⟩),(10,sC ⟨#[]⟩)] [(2,.box 33 (zmCs.map Cnt.per)),(7,.box 33 ((msCs { kind:=2,ses:=s,num:=n,same:=n4 == 1 }).map Cnt.per)),(25,.box 110 [.per (bysP L),iC .i64 o4,iC .i64 e4])]) from (by exact le_auto)) ?_
   (have kr1:=b1;have kc1:=b2;refine w0 ?_;(repeat' first|refine W2.mk ?_ ?_|refine W1.mk fun hc=>?_);all_goals clear kc1 kr1)
   refine rt2 ?_ ?_
   · exact rv_wk (rv_cA inferInstance inferInstance rfl rfl rfl rfl rfl rfl) aI
   · exact rv_int rfl rfl
theorem rm_Read_3 {L:List UInt8} (hL:L.length ≤ 1000000) {b:List UInt8} (a0:Fn Tryz.prog 57 [.per (bysP b)] (.tup2 (.per (bysP L)) (inR 0))) (hk:(withinSt 1 6 L 0).1 = 3) :
   Fn Tryz.prog 21 [.per (bysP b)] (.tup2 (.per (msP (rdL L).1)) (inR (rdL L).2)):=by
 have hL0:L.length ≤ 1000000000000:=by omega
 have hs0:L <:+ L:=List.suffix_refl L
 generalize hR:rdHL L = R
 rw [rdL_of hR]
 dsimp only [rdHL,rdHd] at hR
 have a1:=rr_Within L L 0 hs0 hL0 1 6
 have s1:=(withinSt_suf 1 6 L 0).trans hs0
 generalize withinSt 1 6 L 0 = q1 at *
 obtain ⟨k,l1,e1⟩:=q1
 dsimp only at a1 s1 hR
 have e0:((L.length - L.length:Nat):Int) = 0:=by omega
 unfold rrBox at a1
 rw [e0] at a1
 clear e0
 have a2:=rr_Within L l1 e1 s1 hL0 1 281474976710656
 have s2:=(withinSt_suf 1 281474976710656 l1 e1).trans s1
 generalize withinSt 1 281474976710656 l1 e1 = q2 at *
 obtain ⟨s,l2,e2⟩:=q2
 dsimp only at a2 s2 hR
 have a3:=rr_Number L l2 e2 s2 hL0
 have s3:=(numSt_suf l2 e2).trans s2
 generalize numSt l2 e2 = q3 at *
 obtain ⟨n,l3,e3⟩:=q3
 dsimp only at a3 s3 hR
 dsimp only [rdNs] at hR
 clear s1 s2 hs0
 have hk:k = 3:=hk
 subst hk
 rw [if_neg (show ¬ (3:Int) = 1 by decide),if_neg (show ¬ (3:Int) = 2 by decide),if_pos (show (3:Int) = 3 from rfl)] at hR
 dsimp only at hR
 have a4:=rr_Number L l3 e3 s3 hL0
 have s4:=(numSt_suf l3 e3).trans s3
 generalize numSt l3 e3 = q4 at *
 obtain ⟨n4,l4,e4⟩:=q4
 dsimp only at a4 s4 hR
 rw [show ptsN 3 = 0 from rfl] at hR
 dsimp only [rdTs] at hR
 subst hR
 dsimp only
 have b1:=rr_End L l4 e4 s4
 generalize endSt l4 e4 = v at *
 dsimp only [rrBox] at a1 a2 a3 a4 b1
 generalize ((L.length - l1.length:Nat):Int) = o1 at a1 a2 a3 a4 b1
 generalize ((L.length - l2.length:Nat):Int) = o2 at a1 a2 a3 a4 b1
 generalize ((L.length - l3.length:Nat):Int) = o3 at a1 a2 a3 a4 b1
 generalize ((L.length - l4.length:Nat):Int) = o4 at a1 a2 a3 a4 b1
 have hP:rdPs { kind:=3,ses:=s,num:=n,nxt:=n4 } [] = ({ kind:=3,ses:=s,num:=n,nxt:=n4 },0):=by unfold rdPs;rw [if_neg (show ¬ (3:Int) = 1 by decide),if_neg (show ¬ (3:Int) = 4 by decide),if_neg (show ¬ (3:Int) = 5 by decide)]
 rw [hP]
 dsimp only
 clear hP
 have b2:=rm_Right { kind:=3,ses:=s,num:=n,nxt:=n4 } (by simp) pcsSz_nil (by simp) (by simp)
 try clear s3 s4 s5 s6 s7 s8 s9 s10
 by_cases hv:v ≠ 0
 · rw [if_pos hv]
   refine fi Tryz.func21 Tryz.ntmps21 ?_
   (have kc1:=a0;refine w0 ?_;(repeat' first|refine W2.mk ?_ ?_|refine W1.mk fun hc=>?_);all_goals clear kc1)
   refine AL_le (Le_boxW 7 _ 33 zmCs (msCs {}) rfl rfl zm_pw) ?_
   (have kr1:=a1;have kr2:=a2;have kr3:=a3;refine w0 ?_;(repeat' first|refine W2.mk ?_ ?_|refine W1.mk fun hc=>?_);all_goals clear kr3 kr2 kr1)
   refine AL_le (show Le _ _ (mkSt [(2,.ptr 2 0 0),(5,iC .i64 0),(6,.ptr 25 0 0),(7,.ptr 7 0 0),(67,.ptr 25 0 0)] [(2,.box 33 (zmCs.map Cnt.per)),(7,.box 33 ((msCs { kind:=3,ses:=s,num:=n }).map Cnt.per)),(25,.box 110 [.per (bysP L),iC .i64 o3,iC .i64 e3])]) from (by exact le_auto)) ?_
   (have kr1:=a4;refine w0 ?_;(repeat' first|refine W2.mk ?_ ?_|refine W1.mk fun hc=>?_);all_goals clear kr1)
   refine AL_le (show Le _ _ (mkSt [(2,.ptr 2 0 0),(5,iC .i64 0),(6,.ptr 25 0 0),(7,.ptr 7 0 0),(105,.ptr 25 0 0),(8,sC ⟨#[]⟩),(9,sC ⟨#[]⟩),(10,sC ⟨#[]⟩)] [(2,.box 33 (zmCs.map Cnt.per)),(7,.box 33 ((msCs { kind:=3,ses:=s,num:=n,nxt:=n4 }).map Cnt.per)),(25,.box 110 [.per (bysP L),iC .i64 o4,iC .i64 e4])]) from (by exact le_auto)) ?_
   (have kr1:=b1;refine w0 ?_;(repeat' first|refine W2.mk ?_ ?_|refine W1.mk fun hc=>?_);all_goals clear kr1)
   refine rt2 ?_ ?_
   · exact rv_wk (rv_cA inferInstance inferInstance rfl rfl rfl rfl rfl rfl) aI
   · exact rv_int rfl rfl
 rw [if_neg hv,if_neg (show ¬ (0:Int) ≠ 0 by decide)]
 have hv:v = 0:=Decidable.not_not.1 hv
 subst hv
 cases hr:msR { kind:=3,ses:=s,num:=n,nxt:=n4 } with
 | false=>
   rw [hr] at b2
   rw [if_neg (by simp)]
   refine fi Tryz.func21 Tryz.ntmps21 ?_
   (have kc1:=a0;refine w0 ?_;(repeat' first|refine W2.mk ?_ ?_|refine W1.mk fun hc=>?_);all_goals clear kc1)
   refine AL_le (Le_boxW 7 _ 33 zmCs (msCs {}) rfl rfl zm_pw) ?_
   (have kr1:=a1;have kr2:=a2;have kr3:=a3;refine w0 ?_;(repeat' first|refine W2.mk ?_ ?_|refine W1.mk fun hc=>?_);all_goals clear kr3 kr2 kr1)
   refine AL_le (show Le _ _ (mkSt [(2,.ptr 2 0 0),(5,iC .i64 0),(6,.ptr 25 0 0),(7,.ptr 7 0 0),(67,.ptr 25 0 0)] [(2,.box 33 (zmCs.map Cnt.per)),(7,.box 33 ((msCs { kind:=3,ses:=s,num:=n }).map Cnt.per)),(25,.box 110 [.per (bysP L),iC .i64 o3,iC .i64 e3])]) from (by exact le_auto)) ?_
   (have kr1:=a4;refine w0 ?_;(repeat' first|refine W2.mk ?_ ?_|refine W1.mk fun hc=>?_);all_goals clear kr1)
   refine AL_le (show Le _ _ (mkSt [(2,.ptr 2 0 0),(5,iC .i64 0),(6,.ptr 25 0 0),(7,.ptr 7 0 0),(105,.ptr 25 0 0),(8,sC ⟨#[]⟩),(9,sC ⟨#[]⟩),(10,sC ⟨#[]⟩)] [(2,.box 33 (zmCs.map Cnt.per)),(7,.box 33 ((msCs { kind:=3,ses:=s,num:=n,nxt:=n4 }).map Cnt.per)),(25,.box 110 [.per (bysP L),iC .i64 o4,iC .i64 e4])]) from (by exact le_auto)) ?_
   (have kr1:=b1;have kc1:=b2;refine w0 ?_;(repeat' first|refine W2.mk ?_ ?_|refine W1.mk fun hc=>?_);all_goals clear kc1 kr1)
   refine rt2 ?_ ?_
   · exact rv_wk (rv_cA inferInstance inferInstance rfl rfl rfl rfl rfl rfl) aI
   · exact rv_int rfl rfl
 | true=>
   rw [hr] at b2
   rw [if_pos rfl]
   refine fi Tryz.func21 Tryz.ntmps21 ?_
   (have kc1:=a0;refine w0 ?_;(repeat' first|refine W2.mk ?_ ?_|refine W1.mk fun hc=>?_);all_goals clear kc1)
   refine AL_le (Le_boxW 7 _ 33 zmCs (msCs {}) rfl rfl zm_pw) ?_
   (have kr1:=a1;have kr2:=a2;have kr3:=a3;refine w0 ?_;(repeat' first|refine W2.mk ?_ ?_|refine W1.mk fun hc=>?_);all_goals clear kr3 kr2 kr1)
   refine AL_le (show Le _ _ (mkSt [(2,.ptr 2 0 0),(5,iC .i64 0),(6,.ptr 25 0 0),(7,.ptr 7 0 0),(67,.ptr 25 0 0)] [(2,.box 33 (zmCs.map Cnt.per)),(7,.box 33 ((msCs { kind:=3,ses:=s,num:=n }).map Cnt.per)),(25,.box 110 [.per (bysP L),iC .i64 o3,iC .i64 e3])]) from (by exact le_auto)) ?_
   (have kr1:=a4;refine w0 ?_;(repeat' first|refine W2.mk ?_ ?_|refine W1.mk fun hc=>?_);all_goals clear kr1)
   refine AL_le (show Le _ _ (mkSt [(2,.ptr 2 0 0),(5,iC .i64 0),(6,.ptr 25 0 0),(7,.ptr 7 0 0),(105,.ptr 25 0 0),(8,sC ⟨#[]⟩),(9,sC ⟨#[]⟩),(10,sC ⟨#[]⟩)] [(2,.box 33 (zmCs.map Cnt.per)),(7,.box 33 ((msCs { kind:=3,ses:=s,num:=n,nxt:=n4 }).map Cnt.per)),(25,.box 110 [.per (bysP L),iC .i64 o4,iC .i64 e4])]) from (by exact le_auto)) ?_
   (have kr1:=b1;have kc1:=b2;refine w0 ?_;(repeat' first|refine W2.mk ?_ ?_|refine W1.mk fun hc=>?_);all_goals clear kc1 kr1)
   refine rt2 ?_ ?_
   · exact rv_wk (rv_cA inferInstance inferInstance rfl rfl rfl rfl rfl rfl) aI
   · exact rv_int rfl rfl
theorem rm_Read_6 {L:List UInt8} (hL:L.length ≤ 1000000) {b:List UInt8} (a0:Fn Tryz.prog 57 [.per (bysP b)] (.tup2 (.per (bysP L)) (inR 0))) (hk:(withinSt 1 6 L 0).1 = 6) :
   Fn Tryz.prog 21 [.per (bysP b)] (.tup2 (.per (msP (rdL L).1)) (inR (rdL L).2)):=by
 have hL0:L.length ≤ 1000000000000:=by omega
 have hs0:L <:+ L:=List.suffix_refl L
 generalize hR:rdHL L = R
 rw [rdL_of hR]
 dsimp only [rdHL,rdHd] at hR
 have a1:=rr_Within L L 0 hs0 hL0 1 6
 have s1:=(withinSt_suf 1 6 L 0).trans hs0
 generalize withinSt 1 6 L 0 = q1 at *
 obtain ⟨k,l1,e1⟩:=q1
 dsimp only at a1 s1 hR
 have e0:((L.length - L.length:Nat):Int) = 0:=by omega
 unfold rrBox at a1
 rw [e0] at a1
 clear e0
 have a2:=rr_Within L l1 e1 s1 hL0 1 281474976710656
 have s2:=(withinSt_suf 1 281474976710656 l1 e1).trans s1
 generalize withinSt 1 281474976710656 l1 e1 = q2 at *
 obtain ⟨s,l2,e2⟩:=q2
 dsimp only at a2 s2 hR
 have a3:=rr_Number L l2 e2 s2 hL0
 have s3:=(numSt_suf l2 e2).trans s2
 generalize numSt l2 e2 = q3 at *
 obtain ⟨n,l3,e3⟩:=q3
 dsimp only at a3 s3 hR
 dsimp only [rdNs] at hR
 clear s1 s2 hs0
 have hk:k = 6:=hk
 subst hk
 rw [if_neg (show ¬ (6:Int) = 1 by decide),if_neg (show ¬ (6:Int) = 2 by decide),if_neg (show ¬ (6:Int) = 3 by decide),if_neg (show ¬ (6:Int) = 5 by decide),if_pos (show (6:Int) = 6 from rfl)] at hR
 dsimp only at hR
 have a4:=rr_Within L l3 e3 s3 hL0 1 281474976710656
 have s4:=(withinSt_suf 1 281474976710656 l3 e3).trans s3
 generalize withinSt 1 281474976710656 l3 e3 = q4 at *
 obtain ⟨n4,l4,e4⟩:=q4
 dsimp only at a4 s4 hR
 rw [show ptsN 6 = 0 from rfl] at hR
 dsimp only [rdTs] at hR
 subst hR
 dsimp only
 have b1:=rr_End L l4 e4 s4
 generalize endSt l4 e4 = v at *
 dsimp only [rrBox] at a1 a2 a3 a4 b1
 generalize ((L.length - l1.length:Nat):Int) = o1 at a1 a2 a3 a4 b1
 generalize ((L.length - l2.length:Nat):Int) = o2 at a1 a2 a3 a4 b1
 generalize ((L.length - l3.length:Nat):Int) = o3 at a1 a2 a3 a4 b1
 generalize ((L.length - l4.length:Nat):Int) = o4 at a1 a2 a3 a4 b1
 have hP:rdPs { kind:=6,ses:=s,num:=n,err:=n4 } [] = ({ kind:=6,ses:=s,num:=n,err:=n4 },0):=by unfold rdPs;rw [if_neg (show ¬ (6:Int) = 1 by decide),if_neg (show ¬ (6:Int) = 4 by decide),if_neg (show ¬ (6:Int) = 5 by decide)]
 rw [hP]
 dsimp only
 clear hP
 have b2:=rm_Right { kind:=6,ses:=s,num:=n,err:=n4 } (by simp) pcsSz_nil (by simp) (by simp)
 try clear s3 s4 s5 s6 s7 s8 s9 s10
 by_cases hv:v ≠ 0
 · rw [if_pos hv]
   refine fi Tryz.func21 Tryz.ntmps21 ?_
   (have kc1:=a0;refine w0 ?_;(repeat' first|refine W2.mk ?_ ?_|refine W1.mk fun hc=>?_);all_goals clear kc1)
   refine AL_le (Le_boxW 7 _ 33 zmCs (msCs {}) rfl rfl zm_pw) ?_
   (have kr1:=a1;have kr2:=a2;have kr3:=a3;refine w0 ?_;(repeat' first|refine W2.mk ?_ ?_|refine W1.mk fun hc=>?_);all_goals clear kr3 kr2 kr1)
   refine AL_le (show Le _ _ (mkSt [(2,.ptr 2 0 0),(5,iC .i64 0),(6,.ptr 25 0 0),(7,.ptr 7 0 0),(80,.ptr 25 0 0)] [(2,.box 33 (zmCs.map Cnt.per)),(7,.box 33 ((msCs { kind:=6,ses:=s,num:=n }).map Cnt.per)),(25,.box 110 [.per (bysP L),iC .i64 o3,iC .i64 e3])]) from (by exact le_auto)) ?_
   (have kr1:=a4;refine w0 ?_;(repeat' first|refine W2.mk ?_ ?_|refine W1.mk fun hc=>?_);all_goals clear kr1)
   refine AL_le (show Le _ _ (mkSt [(2,.ptr 2 0 0),(5,iC .i64 0),(6,.ptr 25 0 0),(7,.ptr 7 0 0),(105,.ptr 25 0 0),(8,sC ⟨#[]⟩),(9,sC ⟨#[]⟩),(10,sC ⟨#[]⟩)] [(2,.box 33 (zmCs.map Cnt.per)),(7,.box 33 ((msCs { kind:=6,ses:=s,num:=n,err:=n4 }).map Cnt.per)),(25,.box 110 [.per (bysP L),iC .i64 o4,iC .i64 e4])]) from (by exact le_auto)) ?_
   (have kr1:=b1;refine w0 ?_;(repeat' first|refine W2.mk ?_ ?_|refine W1.mk fun hc=>?_);all_goals clear kr1)
   refine rt2 ?_ ?_
   · exact rv_wk (rv_cA inferInstance inferInstance rfl rfl rfl rfl rfl rfl) aI
   · exact rv_int rfl rfl
 rw [if_neg hv,if_neg (show ¬ (0:Int) ≠ 0 by decide)]
 have hv:v = 0:=Decidable.not_not.1 hv
 subst hv
 cases hr:msR { kind:=6,ses:=s,num:=n,err:=n4 } with
 | false=>
   rw [hr] at b2
   rw [if_neg (by simp)]
   refine fi Tryz.func21 Tryz.ntmps21 ?_
   (have kc1:=a0;refine w0 ?_;(repeat' first|refine W2.mk ?_ ?_|refine W1.mk fun hc=>?_);all_goals clear kc1)
   refine AL_le (Le_boxW 7 _ 33 zmCs (msCs {}) rfl rfl zm_pw) ?_
   (have kr1:=a1;have kr2:=a2;have kr3:=a3;refine w0 ?_;(repeat' first|refine W2.mk ?_ ?_|refine W1.mk fun hc=>?_);all_goals clear kr3 kr2 kr1)
   refine AL_le (show Le _ _ (mkSt [(2,.ptr 2 0 0),(5,iC .i64 0),(6,.ptr 25 0 0),(7,.ptr 7 0 0),(80,.ptr 25 0 0)] [(2,.box 33 (zmCs.map Cnt.per)),(7,.box 33 ((msCs { kind:=6,ses:=s,num:=n }).map Cnt.per)),(25,.box 110 [.per (bysP L),iC .i64 o3,iC .i64 e3])]) from (by exact le_auto)) ?_
   (have kr1:=a4;refine w0 ?_;(repeat' first|refine W2.mk ?_ ?_|refine W1.mk fun hc=>?_);all_goals clear kr1)
   refine AL_le (show Le _ _ (mkSt [(2,.ptr 2 0 0),(5,iC .i64 0),(6,.ptr 25 0 0),(7,.ptr 7 0 0),(105,.ptr 25 0 0),(8,sC ⟨#[]⟩),(9,sC ⟨#[]⟩),(10,sC ⟨#[]⟩)] [(2,.box 33 (zmCs.map Cnt.per)),(7,.box 33 ((msCs { kind:=6,ses:=s,num:=n,err:=n4 }).map Cnt.per)),(25,.box 110 [.per (bysP L),iC .i64 o4,iC .i64 e4])]) from (by exact le_auto)) ?_
   (have kr1:=b1;have kc1:=b2;refine w0 ?_;(repeat' first|refine W2.mk ?_ ?_|refine W1.mk fun hc=>?_);all_goals clear kc1 kr1)
   refine rt2 ?_ ?_
   · exact rv_wk (rv_cA inferInstance inferInstance rfl rfl rfl rfl rfl rfl) aI
   · exact rv_int rfl rfl
 | true=>
   rw [hr] at b2
   rw [if_pos rfl]
   refine fi Tryz.func21 Tryz.ntmps21 ?_
   (have kc1:=a0;refine w0 ?_;(repeat' first|refine W2.mk ?_ ?_|refine W1.mk fun hc=>?_);all_goals clear kc1)
   refine AL_le (Le_boxW 7 _ 33 zmCs (msCs {}) rfl rfl zm_pw) ?_
   (have kr1:=a1;have kr2:=a2;have kr3:=a3;refine w0 ?_;(repeat' first|refine W2.mk ?_ ?_|refine W1.mk fun hc=>?_);all_goals clear kr3 kr2 kr1)
   refine AL_le (show Le _ _ (mkSt [(2,.ptr 2 0 0),(5,iC .i64 0),(6,.ptr 25 0 0),(7,.ptr 7 0 0),(80,.ptr 25 0 0)] [(2,.box 33 (zmCs.map Cnt.per)),(7,.box 33 ((msCs { kind:=6,ses:=s,num:=n }).map Cnt.per)),(25,.box 110 [.per (bysP L),iC .i64 o3,iC .i64 e3])]) from (by exact le_auto)) ?_
   (have kr1:=a4;refine w0 ?_;(repeat' first|refine W2.mk ?_ ?_|refine W1.mk fun hc=>?_);all_goals clear kr1)
   refine AL_le (show Le _ _ (mkSt [(2,.ptr 2 0 0),(5,iC .i64 0),(6,.ptr 25 0 0),(7,.ptr 7 0 0),(105,.ptr 25 0 0),(8,sC ⟨#[]⟩),(9,sC ⟨#[]⟩),(10,sC ⟨#[]⟩)] [(2,.box 33 (zmCs.map Cnt.per)),(7,.box 33 ((msCs { kind:=6,ses:=s,num:=n,err:=n4 }).map Cnt.per)),(25,.box 110 [.per (bysP L),iC .i64 o4,iC .i64 e4])]) from (by exact le_auto)) ?_
   (have kr1:=b1;have kc1:=b2;refine w0 ?_;(repeat' first|refine W2.mk ?_ ?_|refine W1.mk fun hc=>?_);all_goals clear kc1 kr1)
   refine rt2 ?_ ?_
   · exact rv_wk (rv_cA inferInstance inferInstance rfl rfl rfl rfl rfl rfl) aI
   · exact rv_int rfl rfl
theorem rm_Read_0 {L:List UInt8} (hL:L.length ≤ 1000000) {b:List UInt8} (a0:Fn Tryz.prog 57 [.per (bysP b)] (.tup2 (.per (bysP L)) (inR 0))) (hk:∀ k,(withinSt 1 6 L 0).1 = k → k ≠ 1 ∧ k ≠ 2 ∧ k ≠ 3 ∧ k ≠ 4 ∧ k ≠ 5 ∧ k ≠ 6) :
   Fn Tryz.prog 21 [.per (bysP b)] (.tup2 (.per (msP (rdL L).1)) (inR (rdL L).2)):=by
 have hL0:L.length ≤ 1000000000000:=by omega
 have hs0:L <:+ L:=List.suffix_refl L
 generalize hR:rdHL L = R
 rw [rdL_of hR]
 dsimp only [rdHL,rdHd] at hR
 have a1:=rr_Within L L 0 hs0 hL0 1 6
 have s1:=(withinSt_suf 1 6 L 0).trans hs0
 generalize withinSt 1 6 L 0 = q1 at *
 obtain ⟨k,l1,e1⟩:=q1
 dsimp only at a1 s1 hR
 have e0:((L.length - L.length:Nat):Int) = 0:=by omega
 unfold rrBox at a1
 rw [e0] at a1
 clear e0
 have a2:=rr_Within L l1 e1 s1 hL0 1 281474976710656
 have s2:=(withinSt_suf 1 281474976710656 l1 e1).trans s1
 generalize withinSt 1 281474976710656 l1 e1 = q2 at *
 obtain ⟨s,l2,e2⟩:=q2
 dsimp only at a2 s2 hR
 have a3:=rr_Number L l2 e2 s2 hL0
 have s3:=(numSt_suf l2 e2).trans s2
 generalize numSt l2 e2 = q3 at *
 obtain ⟨n,l3,e3⟩:=q3
 dsimp only at a3 s3 hR
 dsimp only [rdNs] at hR
 clear s1 s2 hs0
 obtain ⟨c1,c2,c3,c4,c5,c6⟩:=hk k rfl
 clear hk
 rw [if_neg c1,if_neg c2,if_neg c3,if_neg c5,if_neg c6] at hR
 rw [show ptsN k = 0 by unfold ptsN;rw [if_neg c1,if_neg (fun q=>q.elim c4 c5)]] at hR
 dsimp only [rdTs] at hR
 subst hR
 dsimp only
 have b1:=rr_End L l3 e3 s3
 generalize endSt l3 e3 = v at *
 dsimp only [rrBox] at a1 a2 a3 b1
 generalize ((L.length - l1.length:Nat):Int) = o1 at a1 a2 a3 b1
 generalize ((L.length - l2.length:Nat):Int) = o2 at a1 a2 a3 b1
 generalize ((L.length - l3.length:Nat):Int) = o3 at a1 a2 a3 b1
 have hP:rdPs { kind:=k,ses:=s,num:=n } [] = ({ kind:=k,ses:=s,num:=n },0):=by unfold rdPs;rw [if_neg c1,if_neg c4,if_neg c5]
 rw [hP]
 dsimp only
 clear hP
 have b2:=rm_Right { kind:=k,ses:=s,num:=n } (by simp) pcsSz_nil (by simp) (by simp)
 try clear s3 s4 s5 s6 s7 s8 s9 s10
 by_cases hv:v ≠ 0
 · rw [if_pos hv]
   refine fi Tryz.func21 Tryz.ntmps21 ?_
   (have kc1:=a0;refine w0 ?_;(repeat' first|refine W2.mk ?_ ?_|refine W1.mk fun hc=>?_);all_goals clear kc1)
   refine AL_le (Le_boxW 7 _ 33 zmCs (msCs {}) rfl rfl zm_pw) ?_
   (have kr1:=a1;have kr2:=a2;have kr3:=a3;refine w0 ?_;(repeat' first|refine W2.mk ?_ ?_|refine W1.mk fun hc=>?_);all_goals clear kr3 kr2 kr1)
   refine AL_le (show Le _ _ (mkSt [(2,.ptr 2 0 0),(5,iC .i64 0),(6,.ptr 25 0 0),(7,.ptr 7 0 0),(105,.ptr 25 0 0),(8,sC ⟨#[]⟩),(9,sC ⟨#[]⟩),(10,sC ⟨#[]⟩)] [(2,.box 33 (zmCs.map Cnt.per)),(7,.box 33 ((msCs { kind:=k,ses:=s,num:=n }).map Cnt.per)),(25,.box 110 [.per (bysP L),iC .i64 o3,iC .i64 e3])]) from (by exact le_auto)) ?_
   (have kr1:=b1;refine w0 ?_;(repeat' first|refine W2.mk ?_ ?_|refine W1.mk fun hc=>?_);all_goals clear kr1)
   refine rt2 ?_ ?_
   · exact rv_wk (rv_cA inferInstance inferInstance rfl rfl rfl rfl rfl rfl) aI
   · exact rv_int rfl rfl
 rw [if_neg hv,if_neg (show ¬ (0:Int) ≠ 0 by decide)]
 have hv:v = 0:=Decidable.not_not.1 hv
 subst hv
 cases hr:msR { kind:=k,ses:=s,num:=n } with
 | false=>
   rw [hr] at b2
   rw [if_neg (by simp)]
   refine fi Tryz.func21 Tryz.ntmps21 ?_
   (have kc1:=a0;refine w0 ?_;(repeat' first|refine W2.mk ?_ ?_|refine W1.mk fun hc=>?_);all_goals clear kc1)
   refine AL_le (Le_boxW 7 _ 33 zmCs (msCs {}) rfl rfl zm_pw) ?_
   (have kr1:=a1;have kr2:=a2;have kr3:=a3;refine w0 ?_;(repeat' first|refine W2.mk ?_ ?_|refine W1.mk fun hc=>?_);all_goals clear kr3 kr2 kr1)
   refine AL_le (show Le _ _ (mkSt [(2,.ptr 2 0 0),(5,iC .i64 0),(6,.ptr 25 0 0),(7,.ptr 7 0 0),(105,.ptr 25 0 0),(8,sC ⟨#[]⟩),(9,sC ⟨#[]⟩),(10,sC ⟨#[]⟩)] [(2,.box 33 (zmCs.map Cnt.per)),(7,.box 33 ((msCs { kind:=k,ses:=s,num:=n }).map Cnt.per)),(25,.box 110 [.per (bysP L),iC .i64 o3,iC .i64 e3])]) from (by exact le_auto)) ?_
   (have kr1:=b1;have kc1:=b2;refine w0 ?_;(repeat' first|refine W2.mk ?_ ?_|refine W1.mk fun hc=>?_);all_goals clear kc1 kr1)
   refine rt2 ?_ ?_
   · exact rv_wk (rv_cA inferInstance inferInstance rfl rfl rfl rfl rfl rfl) aI
   · exact rv_int rfl rfl
 | true=>
   rw [hr] at b2
   rw [if_pos rfl]
   refine fi Tryz.func21 Tryz.ntmps21 ?_
   (have kc1:=a0;refine w0 ?_;(repeat' first|refine W2.mk ?_ ?_|refine W1.mk fun hc=>?_);all_goals clear kc1)
   refine AL_le (Le_boxW 7 _ 33 zmCs (msCs {}) rfl rfl zm_pw) ?_
   (have kr1:=a1;have kr2:=a2;have kr3:=a3;refine w0 ?_;(repeat' first|refine W2.mk ?_ ?_|refine W1.mk fun hc=>?_);all_goals clear kr3 kr2 kr1)
   refine AL_le (show Le _ _ (mkSt [(2,.ptr 2 0 0),(5,iC .i64 0),(6,.ptr 25 0 0),(7,.ptr 7 0 0),(105,.ptr 25 0 0),(8,sC ⟨#[]⟩),(9,sC ⟨#[]⟩),(10,sC ⟨#[]⟩)] [(2,.box 33 (zmCs.map Cnt.per)),(7,.box 33 ((msCs { kind:=k,ses:=s,num:=n }).map Cnt.per)),(25,.box 110 [.per (bysP L),iC .i64 o3,iC .i64 e3])]) from (by exact le_auto)) ?_
   (have kr1:=b1;have kc1:=b2;refine w0 ?_;(repeat' first|refine W2.mk ?_ ?_|refine W1.mk fun hc=>?_);all_goals clear kc1 kr1)
   refine rt2 ?_ ?_
   · exact rv_wk (rv_cA inferInstance inferInstance rfl rfl rfl rfl rfl rfl) aI
   · exact rv_int rfl rfl
end
end Go.Proofs.YthlffkjpklpkfaaGreat
