/- Texts joined: MsH MsR MsU Law16K MsS MsV. -/
import Derived.Test.YtaclhhkblbacgaaGreatJ43
set_option maxRecDepth 10000
set_option maxHeartbeats 8000000
namespace Go.Proofs.YtaclhhkblbacgaaGreat
open Go.RowKit Go.Proofs.Tryz
variable {m:Msg}
theorem yC (b:List UInt8):(kM b).1.length≤b.length:=by
 have h:(jl b).1.length≤b.length:=by
  unfold jl
  split
  ·simp
  split
  ·simp
  split
  ·simp
  split
  ·simp only[WA,Xb];omega
  ·simp
 unfold kM
 split
 ·simp
 ·exact h
theorem Di:∀(n:Nat)(l:List UInt8)(e:Int),(gc n l e).1.length=n∧(∀p∈(gc n l e).1,p.length≤l.length)∧(gc n l e).2.1.length≤l.length:=by
 intro n
 induction n with
 | zero=>intro l e;exact⟨rfl,fun p hp=>by simp[gc]at hp,V8 _⟩
 | succ n ih=>
  intro l e
  rw[gc]
  dsimp only
  have h1:=f8 pO l e
  have h2:=(bN pO l e).length_le
  obtain⟨i1,i2,i3⟩:=ih (aW pO l e).2.1 (aW pO l e).2.2
  refine⟨by rw[Wh,i1],fun p hp=>?_,ab⟩
  rcases Wp.1 hp with q|q
  ·subst q;exact h1
  ·have:=i2 p q;omega
theorem OB (l:List UInt8):(ca l).2.1.length≤l.length:=by
 unfold ca
 dsimp only
 have h1:=(ao 1 6 l 0).length_le
 have h2:=(ao 1 pO (af 1 6 l 0).2.1 (af 1 6 l 0).2.2).length_le
 have h3:=(bX (af 1 pO (af 1 6 l 0).2.1 (af 1 6 l 0).2.2).2.1 (af 1 pO (af 1 6 l 0).2.1 (af 1 6 l 0).2.2).2.2).length_le
 omega
theorem OC (m:Msg)(l:List UInt8)(e:Int):(d0 m l e).2.1.length≤l.length:=by
 unfold d0
 dsimp only
 split
 ·have h1:=(bX l e).length_le
  have h2:=(bX (aO l e).2.1 (aO l e).2.2).length_le
  generalize aO (aO l e).2.1 (aO l e).2.2=q at *
  have h3:=(ao 0 64 q.2.1 q.2.2).length_le
  have h4:=(ao 0 1 (af 0 64 q.2.1 q.2.2).2.1 (af 0 64 q.2.1 q.2.2).2.2).length_le
  simp only
  omega
 split
 ·exact(ao 0 1 l e).length_le
 split
 ·exact(bX l e).length_le
 split
 ·have h1:=(bX l e).length_le
  have h2:=(ao 0 1 (aO l e).2.1 (aO l e).2.2).length_le
  simp only
  omega
 split
 ·exact(ao 1 pO l e).length_le
 ·exact V8 _
theorem OD (m:Msg)(p:List (List UInt8))(n:Nat)(h0:m.there.length≤n)(hp:∀q∈p,q.length≤n)(h0':m.its.length≤4096):(ej m p).1.there.length≤n∧(ej m p).1.its.length≤4096:=by
 have hg:∀i,(p.getD i []).length≤n:=fun i=>by
  rw[Xg]
  cases hi:p[i]? with
  | none=>simp
  | some q=>exact hp q (WK hi)
 unfold ej
 dsimp only
 split
 ·split
  ·exact⟨h0,h0'⟩
  ·split
   ·exact⟨h0,h0'⟩
   ·exact⟨hg 2,h0'⟩
 ·split
  ·split
   ·exact⟨h0,h0'⟩
   ·split
    ·exact⟨h0,h0'⟩
    ·exact⟨h0,h0'⟩
  ·split
   ·split
    ·exact⟨h0,h0'⟩
    ·split
     ·exact⟨h0,h0'⟩
     ·rename_i a b
      exact⟨h0,(ks (WB.1 a)).2.1⟩
   ·exact⟨h0,h0'⟩
theorem OE (l:List UInt8):zt l=(if di (d7 l).2.2.1 (d7 l).2.2.2≠0 then({},di (d7 l).2.2.1 (d7 l).2.2.2)else if(ej (d7 l).1 (d7 l).2.1).2≠0 then({},(ej (d7 l).1 (d7 l).2.1).2)else if j8 (ej (d7 l).1 (d7 l).2.1).1 then((ej (d7 l).1 (d7 l).2.1).1,0)else({},11)):=rfl
theorem Af (b:List UInt8)(hb:b.length≤1000000):Fn prog 21 [.per (aK b)] (.tup2 (.per (DB (Ci b).1)) (el (Ci b).2)):=by
 have a1:=Re b ab
 have hL:=yC b
 unfold Ci
 generalize kM b=q at *
 obtain⟨L,e⟩:=q
 simp only at a1 hL ⊢
 by_cases he:e≠0
 ·rw[V6 he]
  refine fi func21 ntmps21 ?_
  (refine aq a1 ?_;repeat' first|apply ah|refine ai fun hc=>?_)
  refine d9 ?_ ?_
  ·exact lD
  ·exact al rfl rfl
 rw[V3 he]
 have he:e=0:=WB.1 he
 subst he
 have a2:=lO L ab
 have a3:=FE L ab
 have a4:=xB (d7 L).2.2.1 (d7 L).2.2.2
 rw[OE]
 have hps:(d7 L).2.1.length=gn (d7 L).1.kind:=(Di _ _ _).1
 have hn:=Hh (ca L).1 (ca L).2.1 (ca L).2.2
 have hpl:∀p∈(d7 L).2.1,p.length≤1000000:=fun p hp=>by
  have h1:=(Di _ _ _).2.1 p hp
  have h2:=OC (ca L).1 (ca L).2.1 (ca L).2.2
  have h3:=OB L
  omega
 have hit:(d7 L).1.its.length≤4096:=by
  show(d0 (ca L).1 (ca L).2.1 (ca L).2.2).1.its.length≤4096
  rw[hn.2.2.1];exact Wa _
 have hth:(d7 L).1.there.length≤1000000:=by
  show(d0 (ca L).1 (ca L).2.1 (ca L).2.2).1.there.length≤1000000
  rw[hn.2.2.2.2.2.1];exact Wa _
 have hsm:(d7 L).1.sum=0:=hn.2.2.2.2.2.2.1
 have hrr:di (d7 L).2.2.1 (d7 L).2.2.2=0→(ej (d7 L).1 (d7 L).2.1).2=0→j8 (ej (d7 L).1 (d7 L).2.1).1=Aa (ej (d7 L).1 (d7 L).2.1).1:=OA
 obtain⟨m',a5,hm'⟩:=Rh (d7 L).1 (d7 L).2.1 hps (fun p hp=>by have:=hpl p hp;omega) hsm
 have hB:=OD (d7 L).1 (d7 L).2.1 1000000 hth hpl hit
 clear hps hn hpl hit hth hsm
 generalize d7 L=H at *
 obtain⟨m,ps,l',e'⟩:=H
 simp only at a3 a4 a5 hm' hrr hB ⊢
 generalize di l' e'=v at *
 generalize ej m ps=D at *
 obtain⟨d,f⟩:=D
 simp only at a5 hm' hrr hB ⊢
 by_cases hv:v≠0
 ·rw[V6 hv]
  clear hrr hm' hB
  refine fi func21 ntmps21 ?_
  (refine nz a1 a4 a2 (xi [(1000,19)] a3) (xi [(1000,7)] a5) ?_;repeat' first|apply ah|refine ai fun hc=>?_)
  refine d9 ?_ ?_
  ·exact lD
  ·exact al rfl rfl
 rw[V3 hv]
 have hv:v=0:=WB.1 hv
 subst hv
 by_cases hf:f≠0
 ·rw[V6 hf]
  clear hrr hm' hB
  refine fi func21 ntmps21 ?_
  (refine nz a1 a4 a2 (xi [(1000,19)] a3) (xi [(1000,7)] a5) ?_;repeat' first|apply ah|refine ai fun hc=>?_)
  refine d9 ?_ ?_
  ·exact lD
  ·exact al rfl rfl
 rw[V3 hf]
 have hf:f=0:=WB.1 hf
 subst hf
 obtain rfl:=hm' rfl
 rw[hrr rfl rfl]
 obtain⟨b1,b2⟩:=hB
 have a6:=Dh m' b1 b2
 clear hrr hm' b1 b2
 cases hr:Aa m' with
 | false=>
  rw[hr]at a6
  rw[V3 au]
  refine fi func21 ntmps21 ?_
  (refine nA a1 a6 a4 a2 (xi [(1000,19)] a3) (xi [(1000,7)] a5) ?_;repeat' first|apply ah|refine ai fun hc=>?_)
  refine d9 ?_ ?_
  ·exact lD
  ·exact al rfl rfl
 | true=>
  rw[hr]at a6
  rw[V6 rfl]
  refine fi func21 ntmps21 ?_
  (refine nA a1 a6 a4 a2 (xi [(1000,19)] a3) (xi [(1000,7)] a5) ?_;repeat' first|apply ah|refine ai fun hc=>?_)
  refine d9 ?_ ?_
  ·exact lD
  ·exact al rfl rfl
theorem Ag (b:Bool):[[ak (.int .u8 (iZ b))]]=(aJ (iZ b)).map byteP:=by
 cases b
 ·exact Ef.symm
 ·exact Eg.symm
theorem oW (n:Int):Fn prog 34 [iC .i64 n] (dq (bJ n)):=by
 unfold bJ
 refine fi func34 ntmps34 ?_
 (refine w0 ?_;repeat' first|apply ah|refine ai fun hc=>?_)
 all_goals
  refine dw ?_
  refine aL rfl ?_
  first|(simp[*];done)|(rw[Wo];simp[*];done)|(rw[Wo];simp[*];omega)
theorem FF (b:Bool):Fn prog 94 [bC b] (.per (ak (.int .u8 (iZ b)))):=by
 cases b with
 | false=>
  refine fi func94 ntmps94 ?_
  (refine w0 ?_;repeat' first|apply ah|refine ai fun hc=>?_)
  exact wo
 | true=>
  refine fi func94 ntmps94 ?_
  (refine w0 ?_;repeat' first|apply ah|refine ai fun hc=>?_)
  exact wo
theorem oX (l:List UInt8)(hl:l.length≤300000000):Fn prog 95 [dS l] (gz (txB l)):=by
 have a1:=iR ⟨l.toArray⟩ (by show l.toArray.size≤_;rw[WR];omega)
 unfold txB
 refine fi func95 ntmps95 ?_
 (refine aq a1 ?_)
 exact nx
theorem JJ (l:List It)(hl:l.length≤1000000000):Fn prog 37 [fj l] (dq (wF l)):=by
 refine fi func37 ntmps37 ?_
 (refine w0 ?_)
 refine aj (X:=Nat) (fun i=>i≤l.length∧(l.take i).all eC=true∧((l.take i).map It.key).Nodup) (fun i=>ay [(0,fj l),(3,iC .i64 (i:Nat))] []) (fun i=>l.length-i) 0 ⟨Wa _,rfl,au⟩ ?_
 rintro i ⟨h1,h2,h3⟩
 by_cases hi:i<l.length
 ·have a1:=fc l[i]
  cases hr:eC l[i]with
  | false=>
   rw[hr]at a1
   have hu:wF l=false:=by
    rw[←Wy,oV,WJ]
    exact fun q=>by have:=q.1 _ (Wk hi);rw[hr]at this;cases this
   rw[hu]
   (refine aq a1 ?_;repeat' first|apply ah|refine ai fun hc=>?_)
   exact dp
  | true=>
   rw[hr]at a1
   have h2:(l.take (i+1)).all eC=true:=by rw[bc _ i hi,List.all_append,h2];simp[hr]
   (refine aq a1 ?_;repeat' first|apply ah|refine ai fun hc=>?_)
   refine aj (X:=Nat) (fun k=>k≤i∧l[i].key∉(l.take k).map It.key) (fun k=>ay [(0,fj l),(3,iC .i64 (i:Nat)),(4,iC .i64 (k:Nat))] []) (fun k=>i-k) 0 ⟨Wa _,au⟩ ?_
   rintro k ⟨g1,g2⟩
   by_cases hk:k<i
   ·have hkl:k<l.length:=ab
    by_cases e:l[k].key=l[i].key
    ·have e':=(g9 _ _).2 e
     have hu:wF l=false:=by
      rw[←Wy,oV]
      intro q
      refine v8 hi ?_ q.2
      rw[List.mem_map]
      exact⟨l[k],List.mem_take_iff_getElem.2 ⟨k,ab,rfl⟩,e⟩
     rw[hu]
     clear a1 h2
     (refine w0 ?_;repeat' first|apply ah|refine ai fun hc=>?_)
     exact dp
    ·have g3:l[i].key∉(l.take (k+1)).map It.key:=by
      rw[ml hkl,Wz,Xl]
      exact fun q=>q.elim g2 (fun q=>e q.symm)
     have e':=fun q=>e ((g9 _ _).1 q)
     clear a1 h2
     (refine w0 ?_;repeat' first|apply ah|refine ai fun hc=>?_)
     refine⟨k+1,⟨ab,g3⟩,ab,?_⟩
     exact ae
   ·obtain rfl:k=i:=ab
    have h3:=v7 hi h3 g2
    clear a1
    (refine w0 ?_;repeat' first|apply ah|refine ai fun hc=>?_)
    refine⟨k+1,⟨ab,h2,h3⟩,ab,?_⟩
    exact ae
 ·rw[Wd ab]at h2 h3
  rw[oV.2 ⟨h2,h3⟩]
  clear h2
  (refine w0 ?_;repeat' first|apply ah|refine ai fun hc=>?_)
  exact dp
theorem je (m:Msg)(h1:m.flt.length≤1000000)(h2:fe m.know)(h3:m.there.length≤1000000)(h4:m.its.length≤1000000):Fn prog 9 [p7 m] (dq (j8 m)):=by
 have a1:=mK m.flt ab (decide (cb m.flt)) au
 have a2:=ld m.know h2 (decide (aX m.know)) au
 have a3:=jS m.rg
 have a4:=JJ m.its ab
 have a5:=Gn m.there h3 0
 have hS:decide (1≤m.ses)=!decide (m.ses<1):=by
  rw[Wo];simp
 unfold j8
 rw[hS,tT,tT]
 clear hS h2
 generalize decide (cb m.flt)=d1 at *
 generalize decide (aX m.know)=d2 at *
 generalize fX m.rg=d3 at *
 generalize wF m.its=d4 at *
 by_cases c1:m.kind=1
 ·rw[V6 c1]
  obtain⟨q,hq⟩:∃q,nb m.there=q:=⟨_,rfl⟩
  obtain⟨x,e⟩:=q
  rw[hq]at a5 ⊢
  clear hq
  unfold TD at a5
  simp only at a5 ⊢
  by_cases he:e=0
  ·rw[V6 he]at a5
   refine fi func9 ntmps9 ?_
   (refine fO a1 a2 a5 ?_;repeat' first|apply ah|refine ai fun hc=>?_|((first|apply aB rfl|apply aC rfl|apply aD rfl|apply aF rfl);(focus ((try (apply bI;(focus rfl);apply ag rfl rfl rfl rfl rfl));first|exact nf (oW _)));refine fO a1 a2 a5 ?_))
   all_goals
    refine dw ?_
    refine aL rfl ?_
    first|(simp[*];done)|(rw[Wo];simp[*];done)|(rw[Wo];simp[*];omega)
  ·rw[V3 he]at a5
   refine fi func9 ntmps9 ?_
   (refine fO a1 a2 a5 ?_;repeat' first|apply ah|refine ai fun hc=>?_|((first|apply aB rfl|apply aC rfl|apply aD rfl|apply aF rfl);(focus ((try (apply bI;(focus rfl);apply ag rfl rfl rfl rfl rfl));first|exact nf (oW _)));refine fO a1 a2 a5 ?_))
   all_goals
    refine dw ?_
    refine aL rfl ?_
    first|(simp[*];done)|(rw[Wo];simp[*];done)|(rw[Wo];simp[*];omega)|(rw[show(e==0)=false by simpa using he,Wj he,Wj hc,Bool.or_self,Xv,Xv])
 rw[V3 c1]
 by_cases c3:m.kind=3
 ·rw[V6 c3]
  refine fi func9 ntmps9 ?_
  (refine w0 ?_;repeat' first|apply ah|refine ai fun hc=>?_|((first|apply aB rfl|apply aC rfl|apply aD rfl|apply aF rfl);(focus ((try (apply bI;(focus rfl);apply ag rfl rfl rfl rfl rfl));first|exact nf (oW _)));refine w0 ?_))
  all_goals
   refine dw ?_
   refine aL rfl ?_
   first|(simp[*];done)|(rw[Wo];simp[*];done)|(rw[Wo];simp[*];omega)
 rw[V3 c3]
 by_cases c4:m.kind=4
 ·rw[V6 c4]
  refine fi func9 ntmps9 ?_
  (refine aq a3 ?_;repeat' first|apply ah|refine ai fun hc=>?_|((first|apply aB rfl|apply aC rfl|apply aD rfl|apply aF rfl);(focus ((try (apply bI;(focus rfl);apply ag rfl rfl rfl rfl rfl));first|exact nf (oW _)));refine aq a3 ?_))
  all_goals
   refine dw ?_
   refine aL rfl ?_
   first|(simp[*];done)|(rw[Wo];simp[*];done)|(rw[Wo];simp[*];omega)
 rw[V3 c4]
 by_cases c5:m.kind=5
 ·rw[V6 c5]
  refine fi func9 ntmps9 ?_
  (refine bg a4 a2 ?_;repeat' first|apply ah|refine ai fun hc=>?_|((first|apply aB rfl|apply aC rfl|apply aD rfl|apply aF rfl);(focus ((try (apply bI;(focus rfl);apply ag rfl rfl rfl rfl rfl));first|exact nf (oW _)));refine bg a4 a2 ?_))
  all_goals
   refine dw ?_
   refine aL rfl ?_
   first|(simp[*];done)|(rw[Wo];simp[*];done)|(rw[Wo];simp[*];omega)
 rw[V3 c5]
 refine fi func9 ntmps9 ?_
 (refine w0 ?_;repeat' first|apply ah|refine ai fun hc=>?_|((first|apply aB rfl|apply aC rfl|apply aD rfl|apply aF rfl);(focus ((try (apply bI;(focus rfl);apply ag rfl rfl rfl rfl rfl));first|exact nf (oW _)));refine w0 ?_))
 all_goals
  refine dw ?_
  refine aL rfl ?_
  first|(simp[*];done)|(rw[Wo];simp[*];done)|(rw[Wo];simp[*];omega)
theorem Ri (s:Nat):txB (Ap s)=aJ 8++Ap s:=by
 have h:(⟨(Ap s).toArray⟩:ByteArray).size=8:=by show(Ap s).toArray.size=8;rw[WR];simp[Ap]
 unfold txB bu
 rw[h];rfl
theorem Tn:(aJ 8).map byteP=[[ak (.int .u8 8)]]:=by unfold aJ;rw[fV bz];rfl
theorem Rj (m:Msg)(hR:j8 m=true)(hB:wg m)(hs:m.sum<18446744073709551616):Fn prog 40 [p7 m] (gz (gv m)):=by
 obtain⟨p1,p2,p3,p4,p5,k1,k3,k4,k5,k6⟩:=oU hR
 have hK:=du p2
 have hN:=du p3
 have hk:bL m.kind:=⟨ab,ab⟩
 obtain⟨b1,b2,b3,b4,b5,b6,b7⟩:=hB
 have hpl:∀p∈eu m,p.length≤300000000:=by
  have e:=Fz (m:=m) (by
   have:=tS m b6
   rw[hR]at this
   have:=this.symm
   simp only[Wi]at this
   exact this.1.1.2)
  rw[←e];exact b7
 clear b7
 have h1:=oA [m.kind,m.ses,m.num] au (fun n hn=>by
  simp at hn
  rcases hn with rfl|rfl|rfl<;>assumption)
 have l1:([m.kind,m.ses,m.num].flatMap aJ).length≤27:=by
  have q1:=jB _ hk
  have q2:=jB _ hK
  have q3:=jB _ hN
  simp;omega
 unfold gv
 rw[show cV m=[m.kind,m.ses,m.num]++(cV m).drop 3 from rfl,List.flatMap_append]
 have e:(cV m).drop 3=(if m.kind=1 then [m.lim,m.seed,m.bits,iZ m.wants]else if m.kind=2 then [iZ m.same]else if m.kind=3 then [m.nxt]else if m.kind=5 then [m.nxt,iZ m.last]else if m.kind=6 then [m.err]else []):=rfl
 rw[e]
 clear e
 unfold eu at hpl ⊢
 generalize hH:[m.kind,m.ses,m.num].flatMap aJ=H at *
 by_cases c1:m.kind=1
 ·obtain⟨a1,a2,a3,a4,a5,a6,a7⟩:=k1 c1
  simp only[V6 c1]at hpl ⊢
  have h2:=oA [m.lim,m.seed,m.bits] au (fun n hn=>by
   simp at hn
   rcases hn with rfl|rfl|rfl
   ·exact du a1
   ·exact du a2
   ·exact⟨ab,ab⟩)
  have l2:([m.lim,m.seed,m.bits].flatMap aJ).length≤27:=by
   have q1:=jB _ (du a1)
   have q2:=jB _ (du a2)
   have q3:=jB m.bits ⟨ab,ab⟩
   simp;omega
  have w1:=Ag m.wants
  have h3:=FF m.wants
  have h4:=uC m.flt b1 a5
  have h5:=Ca m.know b3 b4 a6
  have h6:=oX (fH m.flt) (hpl _ au)
  have h7:=oX (fw m.know) (hpl _ au)
  have h8:=oX m.there (hpl _ au)
  have q6:=kt (fH m.flt) (hpl _ au)
  have q7:=kt (fw m.know) (hpl _ au)
  have q8:=kt m.there (hpl _ au)
  have q6':=hpl (fH m.flt) au
  have q7':=hpl (fw m.know) au
  have q8':=hpl m.there au
  have fin:H++[m.lim,m.seed,m.bits,iZ m.wants].flatMap aJ++[fH m.flt,fw m.know,m.there].flatMap txB=H++[m.lim,m.seed,m.bits].flatMap aJ++aJ (iZ m.wants)++txB (fH m.flt)++txB (fw m.know)++txB m.there:=au
  rw[fin]
  clear fin hpl k1 k3 k4 k5 k6 a1 a2 a5 a6 a7 b3 hR hH p2 p3 hK hN hk
  generalize [m.lim,m.seed,m.bits].flatMap aJ=G at *
  generalize txB (fH m.flt)=T1 at *
  generalize txB (fw m.know)=T2 at *
  generalize txB m.there=T3 at *
  refine fi func40 ntmps40 ?_
  (have ko1:=h1;have ko2:=h2;have kc1:=h3;have kc2:=h4;have kc3:=h5;have ko3:=h6;have ko4:=h7;have ko5:=h8;refine w0 ?_;(repeat' first|apply ah|refine ai fun hc=>?_);all_goals clear ko5 ko4 ko3 kc3 kc2 kc1 ko2 ko1)
  refine dw ?_
  refine fT rfl rfl ?_
  show _=Blk.row _ _ ((H++G++aJ (iZ m.wants)++T1++T2++T3).map byteP)
  rw[List.map_append,List.map_append,List.map_append,List.map_append,List.map_append,←w1];rfl
 simp only[V3 c1]at hpl ⊢
 by_cases c2:m.kind=2
 ·simp only[V6 c2,V3 (show ¬m.kind=4 by omega),V3 (show ¬m.kind=5 by omega)]
  have w1:=Ag m.same
  have h3:=FF m.same
  rw[WC,Wg,List.flatMap_cons,WC,Wg]
  clear hpl k1 k3 k4 k5 k6 b3 hR hH p2 p3 hK hN hk
  refine fi func40 ntmps40 ?_
  (refine bg h1 h3 ?_;repeat' first|apply ah|refine ai fun hc=>?_)
  refine dw ?_
  refine fT rfl rfl ?_
  show _=Blk.row _ _ ((H++aJ (iZ m.same)).map byteP)
  rw[List.map_append,←w1];rfl
 simp only[V3 c2]
 by_cases c3:m.kind=3
 ·simp only[V6 c3,V3 (show ¬m.kind=4 by omega),V3 (show ¬m.kind=5 by omega)]
  have h3:=iB m.nxt (du (k3 c3))
  have q3:=jB _ (du (k3 c3))
  rw[WC,Wg,List.flatMap_cons,WC,Wg]
  clear hpl k1 k3 k4 k5 k6 b3 hR hH p2 p3 hK hN hk
  refine fi func40 ntmps40 ?_
  (refine bg h1 h3 ?_;repeat' first|apply ah|refine ai fun hc=>?_)
  refine dw ?_
  refine fT rfl rfl ?_
  show _=Blk.row _ _ ((H++aJ m.nxt).map byteP)
  rw[List.map_append];rfl
 simp only[V3 c3]
 by_cases c5:m.kind=5
 ·obtain⟨a1,a2,a3,a4,a5⟩:=k5 c5
  simp only[V6 c5,V3 (show ¬m.kind=4 by omega)]at hpl ⊢
  have w1:=Ag m.last
  have h2:=iB m.nxt (du a1)
  have q2:=jB _ (du a1)
  have h3:=FF m.last
  have h4:=Ij m.its b6 (z8 a3)
  have h5:=Ca m.know b3 b4 a4
  have h6:=oX (fG m.its) (hpl _ au)
  have h7:=oX (fw m.know) (hpl _ au)
  have q6:=kt (fG m.its) (hpl _ au)
  have q7:=kt (fw m.know) (hpl _ au)
  have q6':=hpl (fG m.its) au
  have q7':=hpl (fw m.know) au
  have fin:H++[m.nxt,iZ m.last].flatMap aJ++[fG m.its,fw m.know].flatMap txB=H++aJ m.nxt++aJ (iZ m.last)++txB (fG m.its)++txB (fw m.know):=au
  rw[fin]
  clear fin hpl k1 k3 k4 k5 k6 a1 a3 a4 a5 b3 hR hH p2 p3 hK hN hk
  generalize txB (fG m.its)=T1 at *
  generalize txB (fw m.know)=T2 at *
  generalize aJ m.nxt=G at *
  refine fi func40 ntmps40 ?_
  (have kc1:=h1;have kc2:=h2;have kc3:=h3;have kc4:=h4;have kc5:=h5;have ko1:=h6;have ko2:=h7;refine w0 ?_;(repeat' first|apply ah|refine ai fun hc=>?_);all_goals clear ko2 ko1 kc5 kc4 kc3 kc2 kc1)
  refine dw ?_
  refine fT rfl rfl ?_
  show _=Blk.row _ _ ((H++G++aJ (iZ m.last)++T1++T2).map byteP)
  rw[List.map_append,List.map_append,List.map_append,List.map_append,←w1];rfl
 simp only[V3 c5]
 by_cases c6:m.kind=6
 ·simp only[V6 c6,V3 (show ¬m.kind=4 by omega)]
  have h3:=iB m.err (du (k6 c6).2)
  have q3:=jB _ (du (k6 c6).2)
  rw[WC,Wg,List.flatMap_cons,WC,Wg]
  clear hpl k1 k3 k4 k5 k6 b3 hR hH p2 p3 hK hN hk
  refine fi func40 ntmps40 ?_
  (refine bg h1 h3 ?_;repeat' first|apply ah|refine ai fun hc=>?_)
  refine dw ?_
  refine fT rfl rfl ?_
  show _=Blk.row _ _ ((H++aJ m.err).map byteP)
  rw[List.map_append];rfl
 simp only[V3 c6]
 have c4:m.kind=4:=ab
 simp only[V6 c4]at hpl ⊢
 have h4:=uC [m.rg] au (sq (k4 c4))
 have h6:=oX (fH [m.rg]) (hpl _ au)
 have q6:=kt (fH [m.rg]) (hpl _ au)
 have q6':=hpl (fH [m.rg]) au
 have fin:H++([]:List Int).flatMap aJ++[fH [m.rg],Ap m.sum].flatMap txB=H++txB (fH [m.rg])++aJ 8++DA 8 m.sum:=by
  simp[Ri];rfl
 rw[fin]
 clear fin hpl k1 k3 k4 k5 k6 b3 hR hH p2 p3 hK hN hk
 generalize txB (fH [m.rg])=T1 at *
 refine fi func40 ntmps40 ?_
 (refine fO h1 h4 h6 ?_;repeat' first|apply ah|refine ai fun hc=>?_)
 refine bQ (aN 13 600) ?_
 have hl8:(aJ 8).length=1:=by unfold aJ;rw[fV bz];rfl
 refine bZ (X:=Nat) (fun k=>k≤8) (fun k=>ay [(1,.ptr 1 0 0),(3,.row 600 0),(4,iC .u64 (m.sum / 256 ^ k:Nat)),(5,iC .i64 (k:Nat))] [(1,.box 32 ((bS m).map Cnt.per)),(600,.row 5 1 ((H++T1++aJ 8++DA k m.sum).map byteP))]) (fun k=>8-k) 0 ab ?_ ?_
 ·(refine kd ?_ ?_;(focus ((repeat (first|exact f9.nil|(refine f9.cons ?_ ?_;rotate_left)));(all_goals try (first|rfl|(refine Dx ?_;first|omega|(simp;done)|(simp;omega))|(refine pb ?_;first|(simp;done)|(simp[*];done))))));(focus ((repeat (first|exact ga.nil|(refine ga.cons ?_ ?_;rotate_left)));(all_goals try (first|rfl|(refine mD ?_;(rw[List.map_append]<;>rfl);done)|(refine ke ?_;(rw[List.map_append]<;>rfl);done))))))
  show Blk.row _ _ _=Blk.row _ _ ((H++T1++aJ 8++[]).map byteP)
  rw[Wg,List.map_append,List.map_append,Tn];rfl
 ·intro k hk
  by_cases hlt:k<8
  ·have hS:=wb k m.sum
   have hl:=mU k m.sum
   have hp:m.sum / 256 ^ (k+1)=m.sum / 256 ^ k / 256:=by rw[Nat.pow_succ,Nat.div_div_eq_div_mul]
   have hb:m.sum / 256 ^ k<18446744073709551616:=Nat.lt_of_le_of_lt (Nat.div_le_self _ _) hs
   generalize m.sum / 256 ^ k=q at *
   generalize hq':m.sum / 256 ^ (k+1)=q' at *
   have hW:IntKind.u8.wrap ((q:Int) % 256)=((UInt8.ofNat q).toNat:Int):=by rw[←ln,IntKind.wrap_u8',IntKind.wrap_u8'];omega
   have hq:IntKind.u64.wrap ((q:Int).tdiv 256)=(q':Int):=by
    rw[Xy ab,IntKind.wrap_u64];omega
   have hAl:(H++T1++aJ 8++DA k m.sum).length≤300000100:=by simp only[V5];omega
   generalize hA:H++T1++aJ 8++DA k m.sum=A at *
   clear h1 h4 h6
   (repeat' (first|refine ck ?_|refine bi ?_|refine bA ?_|refine bB ?_|refine cn ?_|refine aU ?_|refine bV cI ?_|refine ci ?_|refine cj (by kernel_rfl) ?_|(refine dL rfl rfl ⟨fun hc=>?_,fun hc=>?_⟩<;>(repeat rw[V7]at hc)<;>(try exact ce hc))|((first|apply aB rfl|apply aC rfl|apply aD rfl|apply aF rfl);focus (first|((apply aZ 10;(focus rfl);exact d8 ⟨rfl,rfl,rfl⟩ rfl inferInstance inferInstance rfl hW))|(apply bI;(focus rfl);apply ag rfl rfl rfl rfl rfl;((apply aZ 10;(focus rfl);exact d8 ⟨rfl,rfl,rfl⟩ rfl inferInstance inferInstance rfl hW)))|((exact lq ⟨rfl,rfl,rfl⟩ rfl rfl rfl bz hq))|(apply bI;(focus rfl);apply ag rfl rfl rfl rfl rfl;((exact lq ⟨rfl,rfl,rfl⟩ rfl rfl rfl bz hq)))|exact cz|fail))|refine bD ?_|refine bF ?_|refine bG ?_|refine de ?_|refine dg ?_|refine bH ?_|refine bj rfl ?_|((first|refine dM rfl rfl rfl ⟨fun hc=>?_,fun hc=>?_⟩|refine dN rfl rfl rfl ⟨fun hc=>?_,fun hc=>?_⟩)<;>(fail_if_success (have q:(true=true):=hc))<;>(fail_if_success (have q:(false=false):=hc))<;>(repeat rw[V7]at hc)<;>(try exact ce hc))|refine aH rfl rfl (fun hc=>?_) ?_))
   refine⟨k+1,ab,ab,?_⟩
   rw[hS,hq',←V9 (H++T1++aJ 8),hA]
   exact ae
  ·obtain rfl:k=8:=ab
   clear h1 h4 h6
   (refine w0 ?_;repeat' first|apply ah|refine ai fun hc=>?_)
   exact dw (cJ rfl rfl rfl rfl)
theorem Ah (m:Msg)(hB:wg m)(hs:m.sum<18446744073709551616):Fn prog 11 [p7 m] (.tup2 (gz (ev m).1) (el (ev m).2)):=by
 have a1:=je m (by have:=hB.flt;omega) hB.ksz hB.thr (by have:=hB.its;omega)
 unfold ev
 cases hR:j8 m with
 | false=>
  rw[hR]at a1
  simp only[WH,XC]
  clear hB
  refine fi func11 ntmps11 ?_
  (refine aq a1 ?_;repeat' first|apply ah|refine ai fun hc=>?_)
  refine d9 ?_ ?_
  ·exact dv rfl
  ·exact al rfl rfl
 | true=>
  rw[hR]at a1
  simp only[Xq]
  have a2:=Rj m hR hB hs
  have hl:(gv m).length≤1000000000:=by
   have hI:=tS m hB.its
   rw[hR]at hI
   have hI:=hI.symm
   simp only[Wi]at hI
   have e:gv m=(cV m).flatMap aJ++(lB m).1.flatMap txB:=by rw[Fz hI.1.1.2];rfl
   rw[e,V5]
   have h1:=yB m (Ab.1 hI.1.1.1)
   have h2:=Dg m
   have h3:=hB.prt
   have key:∀l:List (List UInt8),(∀p∈l,p.length≤300000000)→(l.flatMap txB).length≤300000009*l.length:=by
    intro l
    induction l with
    | nil=>intro _;simp
    | cons n l ih=>
     intro h
     have h2:=h n au
     have h3:=kt n h2
     have h4:=ih (fun k hk=>h k (Ww _ hk))
     rw[List.flatMap_cons,V5,Wh];omega
   have:=key _ h3
   omega
  generalize gv m=L at *
  have a3:=Ou L hl
  clear hB
  by_cases hL:L.length≤32768
  ·simp only[V6 hL]
   refine fi func11 ntmps11 ?_
   (refine fO a1 a2 a3 ?_;repeat' first|apply ah|refine ai fun hc=>?_)
   exact d9 (fT rfl rfl rfl) (al rfl rfl)
  ·simp only[V3 hL]
   refine fi func11 ntmps11 ?_
   (refine fO a1 a2 a3 ?_;repeat' first|apply ah|refine ai fun hc=>?_)
   exact d9 (dv rfl) (al rfl rfl)
theorem wP {k:List Pc}{most:Int}(h:fZ k most=false)(hm:most≤1000000):fe k∧sV k:=by
 obtain⟨h1,h2⟩:=pM h
 have hq:∀p∈k,dx p.set∧sS p.set:=fun p hp=>by
  obtain⟨_,_,h3⟩:=h2 p hp
  obtain⟨g1,g2⟩:=uN h3
  refine⟨⟨ab,?_⟩,fun x hx=>by have:=g2 x hx;omega⟩
  have:∀l:List Kn,(∀k∈l,(k.runs.length:Int)≤16)→(l.flatMap Kn.runs).length≤16*l.length:=by
   intro l
   induction l with
   | nil=>intro _;simp
   | cons x l ih=>
    intro h
    have h1:=h x WG
    have h2:=ih (fun y hy=>h y (Ww _ hy))
    rw[List.flatMap_cons,V5,Wh];omega
  have:=this _ g2
  omega
 exact⟨⟨ab,fun p hp=>(hq p hp).1⟩,fun p hp=>(hq p hp).2⟩
theorem JK {k:List Pc}(h:aX k)(hf:sV k)(hl:k.length≤190):(fw k).length≤290000000:=by
 have h1:=xL (B:=Ao) 1500040 k (fun p hp=>by
  have hfp:=hf p hp
  obtain⟨i,hi,rfl⟩:=List.getElem_of_mem hp
  obtain⟨a,b⟩:=rM h hi
  exact zl a b hfp)
 have h3:=bf (k.length:Int) ab
 unfold fw
 rw[V5];omega
theorem yD (b:List UInt8):fe (dc b).1∧sV (dc b).1:=by
 have h:=uX b 0
 unfold dc jU
 split
 ·exact⟨⟨au,au⟩,fun k hk=>by simp at hk⟩
 ·split
  ·exact h
  ·exact⟨⟨au,au⟩,fun k hk=>by simp at hk⟩
def wi (m:Msg):Bool:=ij m.flt 12||(fZ m.know 24||(decide ((m.there.length:Int)>600)||(nF m.its 24||(decide ((m.rg.lo.size:Int)>60)||decide ((m.rg.hi.size:Int)>60)))))
theorem Rk (m:Msg):Fn prog 8 [p7 m] (dq (wi m)):=by
 have a1:=BS m.flt 12 bz
 have a2:=uW m.know 24 bz
 have a3:=xz m.its 24 bz
 unfold wi
 generalize ij m.flt 12=d1 at *
 generalize fZ m.know 24=d2 at *
 generalize nF m.its 24=d3 at *
 refine fi func8 ntmps8 ?_
 (refine fO a1 a2 a3 ?_;repeat' first|apply ah|refine ai fun hc=>?_)
 all_goals
  refine dw ?_
  refine aL rfl ?_
  first|(simp[*];done)|(rw[Wo];simp[*];done)|(rw[Wo];simp[*];omega)
theorem FG:∀(l:List It)(was:ByteArray),l.all eC=true→(fY was l).length≤200*l.length:=by
 intro l
 induction l with
 | nil=>intro was _;simp[fY]
 | cons x l ih=>
  intro was h
  rw[List.all_cons,Wi]at h
  have h1:=fF h.1
  have h2:=g8 was x.key
  have q1:=bf ((cR was x.key:Nat):Int) ab
  have q2:=cv (mL x.key (cR was x.key)) (by rw[eD];omega)
  have q3:=rG h.1
  have q4:=ih x.key h.2
  rw[eD]at q2
  rw[fY,V5,V5,V5,Wh]
  omega
theorem FH {l:List It}(h:l.all eC=true)(hl:l.length≤4096):(fG l).length≤9+200*l.length:=by
 have q1:=bf (l.length:Int) ab
 have q2:=FG l s0 h
 unfold fG
 rw[V5];omega
theorem Tp:sV []:=fun p hp=>by simp at hp
theorem su (hf:m.flt.length≤4096)(hz:fe m.know)(hw:sV m.know)(hk:m.know.length≤190)(ht:m.there.length≤1000000)(hi:m.its.length≤4096):wg m:=by
 refine⟨hf,hz,hw,ab,ht,hi,fun p hp=>?_⟩
 have hkb:(if decide (aX m.know)then fw m.know else []).length≤300000000:=by
  by_cases c:aX m.know
  ·rw[V6 (Wb c)]
   have:=JK c hw hk;omega
  ·rw[V3 (by simp[c])];simp
 unfold lB at hp
 by_cases c1:m.kind=1
 ·simp only[V6 c1,Wp,Xh,or_false]at hp
  rcases hp with rfl|rfl|rfl
  ·by_cases c:cb m.flt
   ·rw[V6 (Wb c)]
    have:=xE c hf;omega
   ·rw[V3 (by simp[c])];simp
  ·exact hkb
  ·omega
 simp only[V3 c1]at hp
 by_cases c4:m.kind=4
 ·simp only[V6 c4,Wp,Xh,or_false]at hp
  rcases hp with rfl|rfl
  ·by_cases c:cb [m.rg]
   ·rw[V6 (Wb c)]
    have:=xE c au;simp at this;omega
   ·rw[V3 (by simp[c])];simp
  ·simp[Ap]
 simp only[V3 c4]at hp
 by_cases c5:m.kind=5
 ·simp only[V6 c5,Wp,Xh,or_false]at hp
  rcases hp with rfl|rfl
  ·by_cases c:m.its.all eC=true
   ·rw[V6 c]
    have:=FH c hi;omega
   ·rw[V3 c];simp
  ·exact hkb
 ·simp only[V3 c5,Xh]at hp
theorem Hi (h:wi m=false):wg m∧m.know.length≤24:=by
 unfold wi at h
 simp only[Xs]at h
 obtain⟨h1,h2,h3,h4,_⟩:=h
 have hk:=wP h2 bz
 have hkl:=(pM h2).1
 unfold ij at h1
 unfold nF at h4
 simp only[Xs,Wt]at h1 h3 h4
 exact⟨su ab hk.1 hk.2 ab ab ab,ab⟩
structure VZ (m:Msg):Prop where
 flt:m.flt.length≤1000000
 ksz:fe m.know
 its:m.its.length≤1000000
theorem wg.e (h:wg m):VZ m:=⟨by have:=h.flt;omega,h.ksz,by have:=h.its;omega⟩
theorem oY:fe []:=⟨au,fun p hp=>by simp at hp⟩
theorem JL {p:List UInt8}(h:p∈eu m):p.length≤(gv m).length:=by
 have key:∀l:List (List UInt8),p∈l→p.length≤(l.flatMap txB).length:=by
  intro l
  induction l with
  | nil=>intro h;simp at h
  | cons x l ih=>
   intro h
   rw[List.flatMap_cons,V5]
   rcases Wp.1 h with e|e
   ·subst e
    have:(txB p).length=(gy p.length).length+p.length:=by
     unfold txB bu
     rw[V5,show(⟨p.toArray⟩:ByteArray).size=p.length by simp[ByteArray.size]]
    omega
   ·have:=ih e;omega
 have:=key _ h
 unfold gv
 rw[V5];omega
end Go.Proofs.YtaclhhkblbacgaaGreat
