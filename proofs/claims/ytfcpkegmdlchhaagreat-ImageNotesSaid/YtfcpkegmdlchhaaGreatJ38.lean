/- Texts joined: ImUa ImUb ImUc ImUd ImUe. -/
import Derived.Test.YtfcpkegmdlchhaaGreatJ36
import Derived.Test.YtfcpkegmdlchhaaGreatJ37
import Derived.Test.YtfcpkegmdlchhaaGreatJ06
set_option maxRecDepth 10000
set_option maxHeartbeats 8000000
namespace Go.Proofs.YtfcpkegmdlchhaaGreat
open Go.RowKit
abbrev zI':PV:=rawP (.int .i64 0)
abbrev zS':PV:=rawP (.string ⟨#[]⟩)
/-- the cells of 'Note{}' -/
abbrev zntCs:List PV:=[zI',zI',nilP',nilP',nilP',zI',zS',zI',zS',zI',zI',zI',nilP',nilP']
theorem znt_pw:PW zntCs (ntCs {}):=by (repeat (first|exact PW.nil|(refine PW.cons (by first|exact Imp.refl|exact nil_imp) ?_)))
theorem pcsSz_nl:pcsSz []:=⟨by simp,fun p hp=>by cases hp⟩
theorem rdNt_of {l:List UInt8} {R:Nt × List UInt8 × List UInt8 × List UInt8 × Int} (h:rdNh l = R) :
   rdNt l = (if endSt R.2.2.2.1 R.2.2.2.2 ≠ 0 then ({},endSt R.2.2.2.1 R.2.2.2.2) else if (rdNp R.1 R.2.1 R.2.2.1).2 ≠ 0 then ({},(rdNp R.1 R.2.1 R.2.2.1).2) else if ntR (rdNp R.1 R.2.1 R.2.2.1).1 then ((rdNp R.1 R.2.1 R.2.2.1).1,0) else ({},11)):=by
 unfold rdNt;rw [h]
section
theorem rim_Read_0 (b:List UInt8) (hb:b.length ≤ 1000000) (hk:(withinSt 1 5 b 0).1 = 0) :
   Fn Tryz.prog 22 [.per (bysP b)] (.tup2 (.per (ntP (rdNt b).1)) (inR (rdNt b).2)):=by
 have hL0:b.length ≤ 1000000000000:=by omega
 have hs0:b <:+ b:=List.suffix_refl b
 generalize hR:rdNh b = R
 rw [rdNt_of hR]
 dsimp only [rdNh,maxN] at hR
 have a1:=rr_Within b b 0 hs0 hL0 1 5
 have s1:=(withinSt_suf 1 5 b 0).trans hs0
 generalize withinSt 1 5 b 0 = q1 at *
 obtain ⟨k,l1,e1⟩:=q1
 dsimp only at a1 s1 hR
 have e0:((b.length - b.length:Nat):Int) = 0:=by omega
 unfold rrBox at a1
 rw [e0] at a1
 clear e0 hs0
 have hk:k = 0:=hk
 subst hk
 rw [if_neg (show ¬ (0:Int) = 1 by decide)] at hR
 rw [if_neg (show ¬ (0:Int) = 2 by decide)] at hR
 rw [if_neg (show ¬ (0:Int) = 3 by decide)] at hR
 rw [if_neg (show ¬ (0:Int) = 4 by decide)] at hR
 rw [if_neg (show ¬ (0:Int) = 5 by decide)] at hR
 try dsimp only at hR
 have z1:=rr_End b l1 e1 s1
 subst hR
 try dsimp only
 generalize endSt l1 e1 = v at *
 dsimp only [rrBox] at a1 z1
 generalize ((b.length - l1.length:Nat):Int) = o1 at a1 z1
 clear s1 hL0 hb
 by_cases hv:v ≠ 0
 · rw [if_pos hv]
   refine fi Tryz.func22 Tryz.ntmps22 ?_
   (refine w0 ?_;(repeat' first|refine W2.mk ?_ ?_|refine W1.mk fun hc=>?_))
   refine AL_le (Le_boxW 5 _ 39 zntCs (ntCs {}) rfl rfl znt_pw) ?_
   (have kr1:=a1;have kr2:=z1;refine w0 ?_;(repeat' first|refine W2.mk ?_ ?_|refine W1.mk fun hc=>?_);all_goals clear kr2 kr1)
   refine rt2 ?_ ?_
   · exact rv_wk (rv_cA inferInstance inferInstance rfl rfl rfl rfl rfl rfl) aI
   · exact rv_int rfl rfl
 rw [if_neg hv]
 have hv:v = 0:=Decidable.not_not.1 hv
 subst hv
 unfold rdNp
 rw [if_neg (show ¬ (0:Int) = 1 by decide),if_neg (show ¬ (0:Int) = 5 by decide)]
 dsimp only
 rw [if_neg (show ¬ (0:Int) ≠ 0 by decide)]
 have b2:=rim_Right { kind:=0 } stB_z kOk_nil (by simp) pcsSz_nl
 generalize ntR { kind:=0 } = br at *
 cases br with
 | false=>
   rw [if_neg (by simp)]
   refine fi Tryz.func22 Tryz.ntmps22 ?_
   (refine w0 ?_;(repeat' first|refine W2.mk ?_ ?_|refine W1.mk fun hc=>?_))
   refine AL_le (Le_boxW 5 _ 39 zntCs (ntCs {}) rfl rfl znt_pw) ?_
   (have kr1:=a1;have kr2:=z1;have kc1:=b2;refine w0 ?_;(repeat' first|refine W2.mk ?_ ?_|refine W1.mk fun hc=>?_);all_goals clear kc1 kr2 kr1)
   refine rt2 ?_ ?_
   · exact rv_wk (rv_cA inferInstance inferInstance rfl rfl rfl rfl rfl rfl) aI
   · exact rv_int rfl rfl
 | true=>
   rw [if_pos rfl]
   refine fi Tryz.func22 Tryz.ntmps22 ?_
   (refine w0 ?_;(repeat' first|refine W2.mk ?_ ?_|refine W1.mk fun hc=>?_))
   refine AL_le (Le_boxW 5 _ 39 zntCs (ntCs {}) rfl rfl znt_pw) ?_
   (have kr1:=a1;have kr2:=z1;have kc1:=b2;refine w0 ?_;(repeat' first|refine W2.mk ?_ ?_|refine W1.mk fun hc=>?_);all_goals clear kc1 kr2 kr1)
   refine rt2 ?_ ?_
   · exact rv_wk (rv_cA inferInstance inferInstance rfl rfl rfl rfl rfl rfl) aI
   · exact rv_int rfl rfl
theorem rim_Read_3 (b:List UInt8) (hb:b.length ≤ 1000000) (hk:(withinSt 1 5 b 0).1 = 3) :
   Fn Tryz.prog 22 [.per (bysP b)] (.tup2 (.per (ntP (rdNt b).1)) (inR (rdNt b).2)):=by
 have hL0:b.length ≤ 1000000000000:=by omega
 have hs0:b <:+ b:=List.suffix_refl b
 generalize hR:rdNh b = R
 rw [rdNt_of hR]
 dsimp only [rdNh,maxN] at hR
 have a1:=rr_Within b b 0 hs0 hL0 1 5
 have s1:=(withinSt_suf 1 5 b 0).trans hs0
 generalize withinSt 1 5 b 0 = q1 at *
 obtain ⟨k,l1,e1⟩:=q1
 dsimp only at a1 s1 hR
 have e0:((b.length - b.length:Nat):Int) = 0:=by omega
 unfold rrBox at a1
 rw [e0] at a1
 clear e0 hs0
 have hk:k = 3:=hk
 subst hk
 rw [if_neg (show ¬ (3:Int) = 1 by decide)] at hR
 rw [if_neg (show ¬ (3:Int) = 2 by decide)] at hR
 rw [if_pos (show (3:Int) = 3 from rfl)] at hR
 try dsimp only at hR
 have a2:=rr_Text b l1 e1 s1 hL0 16
 have s2:=(textSt_suf 16 l1 e1).trans s1
 have t2:=textSt_ln 16 l1 e1
 have u2:=s1.length_le
 generalize textSt 16 l1 e1 = q2 at *
 obtain ⟨x,l2,e2⟩:=q2
 dsimp only at a2 s2 t2 hR
 have z1:=rr_End b l2 e2 s2
 subst hR
 try dsimp only
 generalize endSt l2 e2 = v at *
 dsimp only [rrBox] at a1 a2 z1
 generalize ((b.length - l1.length:Nat):Int) = o1 at a1 a2 z1
 generalize ((b.length - l2.length:Nat):Int) = o2 at a1 a2 z1
 clear s1 s2 t2 u2 hL0 hb
 by_cases hv:v ≠ 0
 · rw [if_pos hv]
   refine fi Tryz.func22 Tryz.ntmps22 ?_
   (refine w0 ?_;(repeat' first|refine W2.mk ?_ ?_|refine W1.mk fun hc=>?_))
   refine AL_le (Le_boxW 5 _ 39 zntCs (ntCs {}) rfl rfl znt_pw) ?_
   (have kr1:=a1;have kr2:=a2;have kr3:=z1;refine w0 ?_;(repeat' first|refine W2.mk ?_ ?_|refine W1.mk fun hc=>?_);all_goals clear kr3 kr2 kr1)
   refine rt2 ?_ ?_
   · exact rv_wk (rv_cA inferInstance inferInstance rfl rfl rfl rfl rfl rfl) aI
   · exact rv_int rfl rfl
 rw [if_neg hv]
 have hv:v = 0:=Decidable.not_not.1 hv
 subst hv
 unfold rdNp
 rw [if_neg (show ¬ (3:Int) = 1 by decide),if_neg (show ¬ (3:Int) = 5 by decide)]
 dsimp only
 rw [if_neg (show ¬ (0:Int) ≠ 0 by decide)]
 have b2:=rim_Right { kind:=3,key:=⟨x.toArray⟩ } stB_z kOk_nil (by simp) pcsSz_nl
 generalize ntR { kind:=3,key:=⟨x.toArray⟩ } = br at *
 cases br with
 | false=>
   rw [if_neg (by simp)]
   refine fi Tryz.func22 Tryz.ntmps22 ?_
   (refine w0 ?_;(repeat' first|refine W2.mk ?_ ?_|refine W1.mk fun hc=>?_))
   refine AL_le (Le_boxW 5 _ 39 zntCs (ntCs {}) rfl rfl znt_pw) ?_
   (have kr1:=a1;have kr2:=a2;have kr3:=z1;have kc1:=b2;refine w0 ?_;(repeat' first|refine W2.mk ?_ ?_|refine W1.mk fun hc=>?_);all_goals clear kc1 kr3 kr2 kr1)
   refine rt2 ?_ ?_
   · exact rv_wk (rv_cA inferInstance inferInstance rfl rfl rfl rfl rfl rfl) aI
   · exact rv_int rfl rfl
 | true=>
   rw [if_pos rfl]
   refine fi Tryz.func22 Tryz.ntmps22 ?_
   (refine w0 ?_;(repeat' first|refine W2.mk ?_ ?_|refine W1.mk fun hc=>?_))
   refine AL_le (Le_boxW 5 _ 39 zntCs (ntCs {}) rfl rfl znt_pw) ?_
   (have kr1:=a1;have kr2:=a2;have kr3:=z1;have kc1:=b2;refine w0 ?_;(repeat' first|refine W2.mk ?_ ?_|refine W1.mk fun hc=>?_);all_goals clear kc1 kr3 kr2 kr1)
   refine rt2 ?_ ?_
   · exact rv_wk (rv_cA inferInstance inferInstance rfl rfl rfl rfl rfl rfl) aI
   · exact rv_int rfl rfl
end
section
theorem rim_Read_2 (b:List UInt8) (hb:b.length ≤ 1000000) (hk:(withinSt 1 5 b 0).1 = 2) :
   Fn Tryz.prog 22 [.per (bysP b)] (.tup2 (.per (ntP (rdNt b).1)) (inR (rdNt b).2)):=by
 have hL0:b.length ≤ 1000000000000:=by omega
 have hs0:b <:+ b:=List.suffix_refl b
 generalize hR:rdNh b = R
 rw [rdNt_of hR]
 dsimp only [rdNh,maxN] at hR
 have a1:=rr_Within b b 0 hs0 hL0 1 5
 have s1:=(withinSt_suf 1 5 b 0).trans hs0
 generalize withinSt 1 5 b 0 = q1 at *
 obtain ⟨k,l1,e1⟩:=q1
 dsimp only at a1 s1 hR
 have e0:((b.length - b.length:Nat):Int) = 0:=by omega
 unfold rrBox at a1
 rw [e0] at a1
 clear e0 hs0
 have hk:k = 2:=hk
 subst hk
 rw [if_neg (show ¬ (2:Int) = 1 by decide)] at hR
 rw [if_pos (show (2:Int) = 2 from rfl)] at hR
 try dsimp only at hR
 have a2:=rr_Text b l1 e1 s1 hL0 16
 have s2:=(textSt_suf 16 l1 e1).trans s1
 have t2:=textSt_ln 16 l1 e1
 have u2:=s1.length_le
 generalize textSt 16 l1 e1 = q2 at *
 obtain ⟨x,l2,e2⟩:=q2
 dsimp only at a2 s2 t2 hR
 have a3:=rr_Within b l2 e2 s2 hL0 0 255
 have s3:=(withinSt_suf 0 255 l2 e2).trans s2
 generalize withinSt 0 255 l2 e2 = q3 at *
 obtain ⟨p,l3,e3⟩:=q3
 dsimp only at a3 s3 hR
 have a4:=rr_Text b l3 e3 s3 hL0 64
 have s4:=(textSt_suf 64 l3 e3).trans s3
 have t4:=textSt_ln 64 l3 e3
 have u4:=s3.length_le
 generalize textSt 64 l3 e3 = q4 at *
 obtain ⟨y,l4,e4⟩:=q4
 dsimp only at a4 s4 t4 hR
 have z1:=rr_End b l4 e4 s4
 subst hR
 try dsimp only
 generalize endSt l4 e4 = v at *
 dsimp only [rrBox] at a1 a2 a3 a4 z1
 generalize ((b.length - l1.length:Nat):Int) = o1 at a1 a2 a3 a4 z1
 generalize ((b.length - l2.length:Nat):Int) = o2 at a1 a2 a3 a4 z1
 generalize ((b.length - l3.length:Nat):Int) = o3 at a1 a2 a3 a4 z1
 generalize ((b.length - l4.length:Nat):Int) = o4 at a1 a2 a3 a4 z1
 clear s1 s2 s3 s4 t2 u2 t4 u4 hL0 hb
 by_cases hv:v ≠ 0
 · rw [if_pos hv]
   refine fi Tryz.func22 Tryz.ntmps22 ?_
   (refine w0 ?_;(repeat' first|refine W2.mk ?_ ?_|refine W1.mk fun hc=>?_))
   refine AL_le (Le_boxW 5 _ 39 zntCs (ntCs {}) rfl rfl znt_pw) ?_
   (have kr1:=a1;have kr2:=a2;have kr3:=a3;have kr4:=a4;have kr5:=z1;refine w0 ?_;(repeat' first|refine W2.mk ?_ ?_|refine W1.mk fun hc=>?_);all_goals clear kr5 kr4 kr3 kr2 kr1)
   refine rt2 ?_ ?_
   · exact rv_wk (rv_cA inferInstance inferInstance rfl rfl rfl rfl rfl rfl) aI
   · exact rv_int rfl rfl
 rw [if_neg hv]
 have hv:v = 0:=Decidable.not_not.1 hv
 subst hv
 unfold rdNp
 rw [if_neg (show ¬ (2:Int) = 1 by decide),if_neg (show ¬ (2:Int) = 5 by decide)]
 dsimp only
 rw [if_neg (show ¬ (0:Int) ≠ 0 by decide)]
 have b2:=rim_Right { kind:=2,key:=⟨x.toArray⟩,prio:=p,body:=⟨y.toArray⟩ } stB_z kOk_nil (by simp) pcsSz_nl
 generalize ntR { kind:=2,key:=⟨x.toArray⟩,prio:=p,body:=⟨y.toArray⟩ } = br at *
 cases br with
 | false=>
   rw [if_neg (by simp)]
   refine fi Tryz.func22 Tryz.ntmps22 ?_
   (refine w0 ?_;(repeat' first|refine W2.mk ?_ ?_|refine W1.mk fun hc=>?_))
   refine AL_le (Le_boxW 5 _ 39 zntCs (ntCs {}) rfl rfl znt_pw) ?_
   (have kr1:=a1;have kr2:=a2;have kr3:=a3;have kr4:=a4;have kr5:=z1;have kc1:=b2;refine w0 ?_;(repeat' first|refine W2.mk ?_ ?_|refine W1.mk fun hc=>?_);all_goals clear kc1 kr5 kr4 kr3 kr2 kr1)
   refine rt2 ?_ ?_
   · exact rv_wk (rv_cA inferInstance inferInstance rfl rfl rfl rfl rfl rfl) aI
   · exact rv_int rfl rfl
 | true=>
   rw [if_pos rfl]
   refine fi Tryz.func22 Tryz.ntmps22 ?_
   (refine w0 ?_;(repeat' first|refine W2.mk ?_ ?_|refine W1.mk fun hc=>?_))
   refine AL_le (Le_boxW 5 _ 39 zntCs (ntCs {}) rfl rfl znt_pw) ?_
   (have kr1:=a1;have kr2:=a2;have kr3:=a3;have kr4:=a4;have kr5:=z1;have kc1:=b2;refine w0 ?_;(repeat' first|refine W2.mk ?_ ?_|refine W1.mk fun hc=>?_);all_goals clear kc1 kr5 kr4 kr3 kr2 kr1)
   refine rt2 ?_ ?_
   · exact rv_wk (rv_cA inferInstance inferInstance rfl rfl rfl rfl rfl rfl) aI
   · exact rv_int rfl rfl
end
section
theorem rim_Read_4 (b:List UInt8) (hb:b.length ≤ 1000000) (hk:(withinSt 1 5 b 0).1 = 4) :
   Fn Tryz.prog 22 [.per (bysP b)] (.tup2 (.per (ntP (rdNt b).1)) (inR (rdNt b).2)):=by
 have hL0:b.length ≤ 1000000000000:=by omega
 have hs0:b <:+ b:=List.suffix_refl b
 generalize hR:rdNh b = R
 rw [rdNt_of hR]
 dsimp only [rdNh,maxN] at hR
 have a1:=rr_Within b b 0 hs0 hL0 1 5
 have s1:=(withinSt_suf 1 5 b 0).trans hs0
 generalize withinSt 1 5 b 0 = q1 at *
 obtain ⟨k,l1,e1⟩:=q1
 dsimp only at a1 s1 hR
 have e0:((b.length - b.length:Nat):Int) = 0:=by omega
 unfold rrBox at a1
 rw [e0] at a1
 clear e0 hs0
 have hk:k = 4:=hk
 subst hk
 rw [if_neg (show ¬ (4:Int) = 1 by decide)] at hR
 rw [if_neg (show ¬ (4:Int) = 2 by decide)] at hR
 rw [if_neg (show ¬ (4:Int) = 3 by decide)] at hR
 rw [if_pos (show (4:Int) = 4 from rfl)] at hR
 try dsimp only at hR
 have a2:=rr_Number b l1 e1 s1 hL0
 have s2:=(numSt_suf l1 e1).trans s1
 generalize numSt l1 e1 = q2 at *
 obtain ⟨s,l2,e2⟩:=q2
 dsimp only at a2 s2 hR
 have z1:=rr_End b l2 e2 s2
 subst hR
 try dsimp only
 generalize endSt l2 e2 = v at *
 dsimp only [rrBox] at a1 a2 z1
 generalize ((b.length - l1.length:Nat):Int) = o1 at a1 a2 z1
 generalize ((b.length - l2.length:Nat):Int) = o2 at a1 a2 z1
 clear s1 s2 hL0 hb
 by_cases hv:v ≠ 0
 · rw [if_pos hv]
   refine fi Tryz.func22 Tryz.ntmps22 ?_
   (refine w0 ?_;(repeat' first|refine W2.mk ?_ ?_|refine W1.mk fun hc=>?_))
   refine AL_le (Le_boxW 5 _ 39 zntCs (ntCs {}) rfl rfl znt_pw) ?_
   (have kr1:=a1;have kr2:=a2;have kr3:=z1;refine w0 ?_;(repeat' first|refine W2.mk ?_ ?_|refine W1.mk fun hc=>?_);all_goals clear kr3 kr2 kr1)
   refine rt2 ?_ ?_
   · exact rv_wk (rv_cA inferInstance inferInstance rfl rfl rfl rfl rfl rfl) aI
   · exact rv_int rfl rfl
 rw [if_neg hv]
 have hv:v = 0:=Decidable.not_not.1 hv
 subst hv
 unfold rdNp
 rw [if_neg (show ¬ (4:Int) = 1 by decide),if_neg (show ¬ (4:Int) = 5 by decide)]
 dsimp only
 rw [if_neg (show ¬ (0:Int) ≠ 0 by decide)]
 have b2:=rim_Right { kind:=4,ses:=s } stB_z kOk_nil (by simp) pcsSz_nl
 generalize ntR { kind:=4,ses:=s } = br at *
 cases br with
 | false=>
   rw [if_neg (by simp)]
   refine fi Tryz.func22 Tryz.ntmps22 ?_
   (refine w0 ?_;(repeat' first|refine W2.mk ?_ ?_|refine W1.mk fun hc=>?_))
   refine AL_le (Le_boxW 5 _ 39 zntCs (ntCs {}) rfl rfl znt_pw) ?_
   (have kr1:=a1;have kr2:=a2;have kr3:=z1;have kc1:=b2;refine w0 ?_;(repeat' first|refine W2.mk ?_ ?_|refine W1.mk fun hc=>?_);all_goals clear kc1 kr3 kr2 kr1)
   refine rt2 ?_ ?_
   · exact rv_wk (rv_cA inferInstance inferInstance rfl rfl rfl rfl rfl rfl) aI
   · exact rv_int rfl rfl
 | true=>
   rw [if_pos rfl]
   refine fi Tryz.func22 Tryz.ntmps22 ?_
   (refine w0 ?_;(repeat' first|refine W2.mk ?_ ?_|refine W1.mk fun hc=>?_))
   refine AL_le (Le_boxW 5 _ 39 zntCs (ntCs {}) rfl rfl znt_pw) ?_
   (have kr1:=a1;have kr2:=a2;have kr3:=z1;have kc1:=b2;refine w0 ?_;(repeat' first|refine W2.mk ?_ ?_|refine W1.mk fun hc=>?_);all_goals clear kc1 kr3 kr2 kr1)
   refine rt2 ?_ ?_
   · exact rv_wk (rv_cA inferInstance inferInstance rfl rfl rfl rfl rfl rfl) aI
   · exact rv_int rfl rfl
end
section
theorem rim_Read_1 (b:List UInt8) (hb:b.length ≤ 1000000) (hk:(withinSt 1 5 b 0).1 = 1) :
   Fn Tryz.prog 22 [.per (bysP b)] (.tup2 (.per (ntP (rdNt b).1)) (inR (rdNt b).2)):=by
 have hL0:b.length ≤ 1000000000000:=by omega
 have hs0:b <:+ b:=List.suffix_refl b
 generalize hR:rdNh b = R
 rw [rdNt_of hR]
 dsimp only [rdNh,maxN] at hR
 have a1:=rr_Within b b 0 hs0 hL0 1 5
 have s1:=(withinSt_suf 1 5 b 0).trans hs0
 generalize withinSt 1 5 b 0 = q1 at *
 obtain ⟨k,l1,e1⟩:=q1
 dsimp only at a1 s1 hR
 have e0:((b.length - b.length:Nat):Int) = 0:=by omega
 unfold rrBox at a1
 rw [e0] at a1
 clear e0 hs0
 have hk:k = 1:=hk
 subst hk
 rw [if_pos (show (1:Int) = 1 from rfl)] at hR
 try dsimp only at hR
 have a2:=rr_Text b l1 e1 s1 hL0 281474976710656
 have s2:=(textSt_suf 281474976710656 l1 e1).trans s1
 have t2:=textSt_ln 281474976710656 l1 e1
 have u2:=s1.length_le
 generalize textSt 281474976710656 l1 e1 = q2 at *
 obtain ⟨x,l2,e2⟩:=q2
 dsimp only at a2 s2 t2 hR
 have z1:=rr_End b l2 e2 s2
 subst hR
 try dsimp only
 generalize endSt l2 e2 = v at *
 dsimp only [rrBox] at a1 a2 z1
 generalize ((b.length - l1.length:Nat):Int) = o1 at a1 a2 z1
 generalize ((b.length - l2.length:Nat):Int) = o2 at a1 a2 z1
 have hlx:x.length ≤ 1000000:=by omega
 have hx:(⟨x.toArray⟩:ByteArray).size ≤ 1000000000000:=by show x.toArray.size ≤ _;rw [List.size_toArray];omega
 clear s1 s2 t2 u2 hL0 hb
 by_cases hv:v ≠ 0
 · rw [if_pos hv]
   refine fi Tryz.func22 Tryz.ntmps22 ?_
   (refine w0 ?_;(repeat' first|refine W2.mk ?_ ?_|refine W1.mk fun hc=>?_))
   refine AL_le (Le_boxW 5 _ 39 zntCs (ntCs {}) rfl rfl znt_pw) ?_
   (have kr1:=a1;have kr2:=a2;have kr3:=z1;refine w0 ?_;(repeat' first|refine W2.mk ?_ ?_|refine W1.mk fun hc=>?_);all_goals clear kr3 kr2 kr1)
   refine rt2 ?_ ?_
   · exact rv_wk (rv_cA inferInstance inferInstance rfl rfl rfl rfl rfl rfl) aI
   · exact rv_int rfl rfl
 rw [if_neg hv]
 have hv:v = 0:=Decidable.not_not.1 hv
 subst hv
 have b1:=rim_ReadState x hlx
 have hB:=rdSt_B hlx
 unfold rdNp
 rw [if_pos (show (1:Int) = 1 from rfl)]
 generalize rdSt x = S at *
 obtain ⟨s,se⟩:=S
 dsimp only at b1 hB ⊢
 by_cases hs:se ≠ 0
 · rw [if_pos hs]
   dsimp only
   rw [if_pos hs]
   clear hB
   refine fi Tryz.func22 Tryz.ntmps22 ?_
   (refine w0 ?_;(repeat' first|refine W2.mk ?_ ?_|refine W1.mk fun hc=>?_))
   refine AL_le (Le_boxW 5 _ 39 zntCs (ntCs {}) rfl rfl znt_pw) ?_
   (have kr1:=a1;have kr2:=a2;have kr3:=z1;have kc1:=b1;refine w0 ?_;(repeat' (first|refine W2.mk ?_ ?_|refine W1.mk fun hc=>?_|((first|apply AL_t rfl|apply AL_0 rfl|apply AD_t rfl|apply AD_0 rfl);(focus (first|((apply u_k 10;(focus rfl);exact op_bs ⟨rfl,rfl,rfl⟩ rfl inferInstance inferInstance inferInstance rfl (by first|exact hx|exact hy|decide)))|(apply u_g;(focus rfl);apply op_gyes rfl rfl rfl rfl rfl;first|((apply u_k 10;(focus rfl);exact op_bs ⟨rfl,rfl,rfl⟩ rfl inferInstance inferInstance inferInstance rfl (by first|exact hx|exact hy|decide))))));refine w0 ?_)));all_goals clear kc1 kr3 kr2 kr1)
   refine rt2 ?_ ?_
   · exact rv_wk (rv_cA inferInstance inferInstance rfl rfl rfl rfl rfl rfl) aI
   · exact rv_int rfl rfl
 rw [if_neg hs]
 dsimp only
 rw [if_neg (show ¬ (0:Int) ≠ 0 by decide)]
 have hs:se = 0:=Decidable.not_not.1 hs
 subst hs
 have b2:=rim_Right { kind:=1,st:=s } hB kOk_nil (by simp) pcsSz_nl
 clear hB
 generalize ntR { kind:=1,st:=s } = br at *
 cases br with
 | false=>
   rw [if_neg (by simp)]
   refine fi Tryz.func22 Tryz.ntmps22 ?_
   (refine w0 ?_;(repeat' first|refine W2.mk ?_ ?_|refine W1.mk fun hc=>?_))
   refine AL_le (Le_boxW 5 _ 39 zntCs (ntCs {}) rfl rfl znt_pw) ?_
   (have kr1:=a1;have kr2:=a2;have kr3:=z1;have kc1:=b1;have kc2:=b2;refine w0 ?_;(repeat' (first|refine W2.mk ?_ ?_|refine W1.mk fun hc=>?_|((first|apply AL_t rfl|apply AL_0 rfl|apply AD_t rfl|apply AD_0 rfl);(focus (first|((apply u_k 10;(focus rfl);exact op_bs ⟨rfl,rfl,rfl⟩ rfl inferInstance inferInstance inferInstance rfl (by first|exact hx|exact hy|decide)))|(apply u_g;(focus rfl);apply op_gyes rfl rfl rfl rfl rfl;first|((apply u_k 10;(focus rfl);exact op_bs ⟨rfl,rfl,rfl⟩ rfl inferInstance inferInstance inferInstance rfl (by first|exact hx|exact hy|decide))))));refine w0 ?_)));all_goals clear kc2 kc1 kr3 kr2 kr1)
   refine rt2 ?_ ?_
   · exact rv_wk (rv_cA inferInstance inferInstance rfl rfl rfl rfl rfl rfl) aI
   · exact rv_int rfl rfl
 | true=>
   rw [if_pos rfl]
   refine fi Tryz.func22 Tryz.ntmps22 ?_
   (refine w0 ?_;(repeat' first|refine W2.mk ?_ ?_|refine W1.mk fun hc=>?_))
   refine AL_le (Le_boxW 5 _ 39 zntCs (ntCs {}) rfl rfl znt_pw) ?_
   (have kr1:=a1;have kr2:=a2;have kr3:=z1;have kc1:=b1;have kc2:=b2;refine w0 ?_;(repeat' (first|refine W2.mk ?_ ?_|refine W1.mk fun hc=>?_|((first|apply AL_t rfl|apply AL_0 rfl|apply AD_t rfl|apply AD_0 rfl);(focus (first|((apply u_k 10;(focus rfl);exact op_bs ⟨rfl,rfl,rfl⟩ rfl inferInstance inferInstance inferInstance rfl (by first|exact hx|exact hy|decide)))|(apply u_g;(focus rfl);apply op_gyes rfl rfl rfl rfl rfl;first|((apply u_k 10;(focus rfl);exact op_bs ⟨rfl,rfl,rfl⟩ rfl inferInstance inferInstance inferInstance rfl (by first|exact hx|exact hy|decide))))));refine w0 ?_)));all_goals clear kc2 kc1 kr3 kr2 kr1)
   refine rt2 ?_ ?_
   · exact rv_wk (rv_cA inferInstance inferInstance rfl rfl rfl rfl rfl rfl) aI
   · exact rv_int rfl rfl
end
end Go.Proofs.YtfcpkegmdlchhaaGreat
