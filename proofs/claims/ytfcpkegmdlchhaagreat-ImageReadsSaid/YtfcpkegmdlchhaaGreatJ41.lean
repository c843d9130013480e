/- Texts joined: ImZ. -/
import Derived.Test.YtfcpkegmdlchhaaGreatJ33
import Derived.Test.YtfcpkegmdlchhaaGreatJ06
set_option maxRecDepth 10000
set_option maxHeartbeats 8000000
namespace Go.Proofs.YtfcpkegmdlchhaaGreat
open Go.RowKit
section
theorem im_Read (b:List UInt8) (hb:b.length ≤ 1000000):Fn Tryz.prog 17 [.per (bysP b)] (.tup2 (.per (ntP (rdNt b).1)) (inR (rdNt b).2)):=by
 generalize hR:rdNt b = R
 unfold rdNt at hR
 dsimp only at hR
 have a0:=v_New b (by omega)
 have a1:=im_note b hb
 have hl:=rdNh_len b
 obtain ⟨z1,z2,z3⟩:=rdNh_z b
 have hr:=nt_right (l:=b)
 generalize rdNh b = H at *
 obtain ⟨n,x,y,l',e'⟩:=H
 dsimp only at a1 hl z1 z2 z3 hr hR
 have a2:=r_End l' e'
 generalize endSt l' e' = v at *
 have hzS:StB n.st:=by rw [z1];exact stB_z
 have hzK:kOk n.its:=by rw [z2];exact kOk_nil
 have hzL:n.its.length ≤ 1000000:=by rw [z2];simp
 have hxl:x.length ≤ 1000000:=by omega
 have hyl:y.length ≤ 1000000:=by omega
 clear z1 z2 z3 hl
 by_cases hv:v ≠ 0
 · rw [if_pos hv] at hR
   subst hR
   clear hr hzS hzK
   refine fi Tryz.func17 Tryz.ntmps17 ?_
   (have kn1:=a0;have km1:=(show FnMs [(1000,10)] _ _ _ _ _ _ from a1);have kr1:=a2;refine w0 ?_;(repeat' first|refine W2.mk ?_ ?_|refine W1.mk fun hc=>?_);all_goals clear kr1 km1 kn1)
   refine rt2 ?_ ?_
   · exact rv_wk (rv_cA inferInstance inferInstance rfl rfl rfl rfl rfl rfl) aI
   · exact rv_int rfl rfl
 rw [if_neg hv] at hR
 have hv:v = 0:=Decidable.not_not.1 hv
 subst hv
 replace hr:=hr rfl
 by_cases c1:n.kind = 1
 · have b1:=im_ReadState x hxl
   have hB:=rdSt_B hxl
   unfold rdNp at hR hr
   simp only [if_pos c1] at hR hr
   generalize rdSt x = S at *
   obtain ⟨s,se⟩:=S
   dsimp only at b1 hB hR hr
   by_cases hs:se ≠ 0
   · rw [if_pos hs] at hR
     dsimp only at hR
     rw [if_pos hs] at hR
     subst hR
     clear hr hB hzS hzK
     refine fi Tryz.func17 Tryz.ntmps17 ?_
     (have kn1:=a0;have km1:=(show FnMs [(1000,10)] _ _ _ _ _ _ from a1);have kr1:=a2;have kc1:=b1;refine w0 ?_;(repeat' first|refine W2.mk ?_ ?_|refine W1.mk fun hc=>?_);all_goals clear kc1 kr1 km1 kn1)
     refine rt2 ?_ ?_
     · exact rv_wk (rv_cA inferInstance inferInstance rfl rfl rfl rfl rfl rfl) aI
     · exact rv_int rfl rfl
   have hs':se = 0:=Decidable.not_not.1 hs
   subst hs'
   rw [if_neg hs] at hR hr
   dsimp only at hR hr
   rw [if_neg hs,hr rfl] at hR
   have b2:=im_right { n with st:=s } hB hzK hzL
   clear hr hB hzS hzK
   generalize rgtN { n with st:=s } = q at *
   cases q with
   | false=>
     rw [if_neg (by simp)] at hR
     subst hR
     refine fi Tryz.func17 Tryz.ntmps17 ?_
     (have kn1:=a0;have km1:=(show FnMs [(1000,10)] _ _ _ _ _ _ from a1);have kr1:=a2;have kc1:=b1;have kc2:=b2;refine w0 ?_;(repeat' first|refine W2.mk ?_ ?_|refine W1.mk fun hc=>?_);all_goals clear kc2 kc1 kr1 km1 kn1)
     refine rt2 ?_ ?_
     · exact rv_wk (rv_cA inferInstance inferInstance rfl rfl rfl rfl rfl rfl) aI
     · exact rv_int rfl rfl
   | true=>
     rw [if_pos rfl] at hR
     subst hR
     refine fi Tryz.func17 Tryz.ntmps17 ?_
     (have kn1:=a0;have km1:=(show FnMs [(1000,10)] _ _ _ _ _ _ from a1);have kr1:=a2;have kc1:=b1;have kc2:=b2;refine w0 ?_;(repeat' first|refine W2.mk ?_ ?_|refine W1.mk fun hc=>?_);all_goals clear kc2 kc1 kr1 km1 kn1)
     refine rt2 ?_ ?_
     · exact rv_wk (rv_cA inferInstance inferInstance rfl rfl rfl rfl rfl rfl) aI
     · exact rv_int rfl rfl
 by_cases c5:n.kind = 5
 · have b1:=(icode_ReadItems x (by omega)).frz
   have b2:=(kc_ReadKnow y (by omega)).frz
   unfold rdNp at hR hr
   simp only [if_neg c1,if_pos c5] at hR hr
   have hB1:=rdItems_back (b:=x)
   generalize rdItems x = I at *
   obtain ⟨i,ie⟩:=I
   generalize rdKnow y = K at *
   obtain ⟨k,ke⟩:=K
   dsimp only at b1 b2 hB1 hR hr
   by_cases hi:ie ≠ 0
   · rw [if_pos hi] at hR
     dsimp only at hR
     rw [if_pos hi] at hR
     subst hR
     clear hr hB1 hzS hzK b2
     refine fi Tryz.func17 Tryz.ntmps17 ?_
     (have kn1:=a0;have km1:=(show FnMs [(1000,10)] _ _ _ _ _ _ from a1);have kr1:=a2;have kc1:=b1;refine w0 ?_;(repeat' first|refine W2.mk ?_ ?_|refine W1.mk fun hc=>?_);all_goals clear kc1 kr1 km1 kn1)
     refine rt2 ?_ ?_
     · exact rv_wk (rv_cA inferInstance inferInstance rfl rfl rfl rfl rfl rfl) aI
     · exact rv_int rfl rfl
   have hi':ie = 0:=Decidable.not_not.1 hi
   subst hi'
   rw [if_neg hi] at hR hr
   by_cases hk:ke ≠ 0
   · rw [if_pos hk] at hR
     dsimp only at hR
     rw [if_pos hk] at hR
     subst hR
     clear hr hB1 hzS hzK
     refine fi Tryz.func17 Tryz.ntmps17 ?_
     (have kn1:=a0;have km1:=(show FnMs [(1000,10)] _ _ _ _ _ _ from a1);have kr1:=a2;have kc1:=b1;have kc2:=b2;refine w0 ?_;(repeat' first|refine W2.mk ?_ ?_|refine W1.mk fun hc=>?_);all_goals clear kc2 kc1 kr1 km1 kn1)
     refine rt2 ?_ ?_
     · exact rv_wk (rv_cA inferInstance inferInstance rfl rfl rfl rfl rfl rfl) aI
     · exact rv_int rfl rfl
   have hk':ke = 0:=Decidable.not_not.1 hk
   subst hk'
   rw [if_neg hk] at hR hr
   dsimp only at hR hr
   rw [if_neg hk,hr rfl] at hR
   obtain ⟨g1,g2,_⟩:=hB1 rfl
   have b3:=im_right { n with its:=i,know:=k } hzS (fun w hw=>by
     rw [List.all_eq_true] at g1
     have:=(itR_nums (g1 w hw)).2.2.2
     omega) (by simp only;omega)
   clear hr hB1 hzS hzK g1 g2
   generalize rgtN { n with its:=i,know:=k } = q at *
   cases q with
   | false=>
     rw [if_neg (by simp)] at hR
     subst hR
     refine fi Tryz.func17 Tryz.ntmps17 ?_
     (have kn1:=a0;have km1:=(show FnMs [(1000,10)] _ _ _ _ _ _ from a1);have kr1:=a2;have kc1:=b1;have kc2:=b2;have kc3:=b3;refine w0 ?_;(repeat' first|refine W2.mk ?_ ?_|refine W1.mk fun hc=>?_);all_goals clear kc3 kc2 kc1 kr1 km1 kn1)
     refine rt2 ?_ ?_
     · exact rv_wk (rv_cA inferInstance inferInstance rfl rfl rfl rfl rfl rfl) aI
     · exact rv_int rfl rfl
   | true=>
     rw [if_pos rfl] at hR
     subst hR
     refine fi Tryz.func17 Tryz.ntmps17 ?_
     (have kn1:=a0;have km1:=(show FnMs [(1000,10)] _ _ _ _ _ _ from a1);have kr1:=a2;have kc1:=b1;have kc2:=b2;have kc3:=b3;refine w0 ?_;(repeat' first|refine W2.mk ?_ ?_|refine W1.mk fun hc=>?_);all_goals clear kc3 kc2 kc1 kr1 km1 kn1)
     refine rt2 ?_ ?_
     · exact rv_wk (rv_cA inferInstance inferInstance rfl rfl rfl rfl rfl rfl) aI
     · exact rv_int rfl rfl
 unfold rdNp at hR hr
 simp only [if_neg c1,if_neg c5] at hR hr
 replace hr:=hr trivial
 rw [hr] at hR
 have b2:=im_right n hzS hzK hzL
 clear hr hzS hzK
 generalize rgtN n = q at *
 cases q with
 | false=>
   rw [if_neg (by simp)] at hR
   subst hR
   refine fi Tryz.func17 Tryz.ntmps17 ?_
   (have kn1:=a0;have km1:=(show FnMs [(1000,10)] _ _ _ _ _ _ from a1);have kr1:=a2;have kc1:=b2;refine w0 ?_;(repeat' first|refine W2.mk ?_ ?_|refine W1.mk fun hc=>?_);all_goals clear kc1 kr1 km1 kn1)
   refine rt2 ?_ ?_
   · exact rv_wk (rv_cA inferInstance inferInstance rfl rfl rfl rfl rfl rfl) aI
   · exact rv_int rfl rfl
 | true=>
   rw [if_pos rfl] at hR
   subst hR
   refine fi Tryz.func17 Tryz.ntmps17 ?_
   (have kn1:=a0;have km1:=(show FnMs [(1000,10)] _ _ _ _ _ _ from a1);have kr1:=a2;have kc1:=b2;refine w0 ?_;(repeat' first|refine W2.mk ?_ ?_|refine W1.mk fun hc=>?_);all_goals clear kc1 kr1 km1 kn1)
   refine rt2 ?_ ?_
   · exact rv_wk (rv_cA inferInstance inferInstance rfl rfl rfl rfl rfl rfl) aI
   · exact rv_int rfl rfl
end
end Go.Proofs.YtfcpkegmdlchhaaGreat
