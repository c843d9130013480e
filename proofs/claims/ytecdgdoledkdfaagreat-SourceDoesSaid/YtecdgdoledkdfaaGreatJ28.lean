/- Lemmas, walks. -/
import Derived.Test.YtecdgdoledkdfaaGreatJ27
set_option maxRecDepth 10000
set_option maxHeartbeats 8000000
namespace Go.Proofs.YtecdgdoledkdfaaGreat
open Go.RowKit Go.Proofs.Tryz
variable {l:List It} {m:Msg} {limit:Int}
theorem VI (s:Nat):txB (C1 s)=aO 8++C1 s:=by
 have h:(⟨(C1 s).toArray⟩:ByteArray).size=8:=by show(C1 s).toArray.size=8;rw[aaV];simp[C1]
 unfold txB bi
 rw[h];rfl
theorem Yj:(aO 8).map byteP=[[ai (.int .u8 8)]]:=by unfold aO;rw[gb bP];rfl
theorem VJ (m:Msg)(hR:lK m=true)(hB:uN m)(hs:m.sum<18446744073709551616):Fn prog 82 [zw m] (gN (gM m)):=by
 obtain⟨p1,p2,p3,p4,p5,k1,k3,k4,k5,k6⟩:=qn hR
 have hK:=dD p2
 have hN:=dD p3
 have hk:bF m.kind:=⟨ae,ae⟩
 obtain⟨b1,b2,b3,b4,b5,b6,b7⟩:=hB
 have hpl:∀p∈ew m,p.length<=300000000:=by
  have e:=CH (m:=m) (by
   have:=tu m b6
   rw[hR]at this
   have:=this.symm
   grind)
  rw[<-e];exact b7
 clear b7
 have h1:=p7 [m.kind,m.ses,m.num] aA (λn hn=>by grind)
 have l1:([m.kind,m.ses,m.num].flatMap aO).length<=27:=by
  have q1:=jY _ hk
  have q2:=jY _ hK
  have q3:=jY _ hN
  simp;omega
 unfold gM
 rw[show da m=[m.kind,m.ses,m.num]++(da m).drop 3 from rfl,List.flatMap_append]
 have e:(da m).drop 3=(if m.kind=1 then [m.lim,m.seed,m.bits,jq m.wants]else if m.kind=2 then [jq m.same]else if m.kind=3 then [m.nxt]else if m.kind=5 then [m.nxt,jq m.last]else if m.kind=6 then [m.err]else []):=rfl
 rw[e]
 clear e
 unfold ew at hpl ⊢
 generalize hH:[m.kind,m.ses,m.num].flatMap aO=H at *
 by_cases c1:m.kind=1
 ·obtain⟨a1,a2,a3,a4,a5,a6,a7⟩:=k1 c1
  simp only[aae c1]at hpl ⊢
  have h2:=p7 [m.lim,m.seed,m.bits] aA (λn hn=>by
   simp at hn
   rcases hn with rfl|rfl|rfl
   ·exact dD a1
   ·exact dD a2
   ·exact⟨ae,ae⟩)
  have l2:([m.lim,m.seed,m.bits].flatMap aO).length<=27:=by
   have q1:=jY _ (dD a1)
   have q2:=jY _ (dD a2)
   have q3:=jY m.bits ⟨ae,ae⟩
   simp;omega
  have w1:=CN m.wants
  have h3:=IW m.wants
  have h4:=wW m.flt b1 a5
  have h5:=Eu m.know b3 b4 a6
  have h6:=qr (fc m.flt) (hpl _ aA)
  have h7:=qr (eu m.know) (hpl _ aA)
  have h8:=qr m.there (hpl _ aA)
  have q6:=kO (fc m.flt) (hpl _ aA)
  have q7:=kO (eu m.know) (hpl _ aA)
  have q8:=kO m.there (hpl _ aA)
  have q6':=hpl (fc m.flt) aA
  have q7':=hpl (eu m.know) aA
  have q8':=hpl m.there aA
  have fin:H++[m.lim,m.seed,m.bits,jq m.wants].flatMap aO++[fc m.flt,eu m.know,m.there].flatMap txB=H++[m.lim,m.seed,m.bits].flatMap aO++aO (jq m.wants)++txB (fc m.flt)++txB (eu m.know)++txB m.there:=aA
  rw[fin]
  clear fin hpl k1 k3 k4 k5 k6 a1 a2 a5 a6 a7 b3 hR hH p2 p3 hK hN hk
  generalize [m.lim,m.seed,m.bits].flatMap aO=G at *
  generalize txB (fc m.flt)=T1 at *
  generalize txB (eu m.know)=T2 at *
  generalize txB m.there=T3 at *
  refine fi func82 ntmps82 ?_
  (have ko1:=h1;have ko2:=h2;have kc1:=h3;have kc2:=h4;have kc3:=h5;have ko3:=h6;have ko4:=h7;have ko5:=h8;refine w0 ?_;(repeat' first|apply aw|refine ah λhc=>?_);all_goals clear ko5 ko4 ko3 kc3 kc2 kc1 ko2 ko1)
  refine dr ?_
  refine f9 rfl rfl ?_
  show _=Blk.row _ _ ((H++G++aO (jq m.wants)++T1++T2++T3).map byteP)
  rw[List.map_append,List.map_append,List.map_append,List.map_append,List.map_append,<-w1];rfl
 simp only[aab c1]at hpl ⊢
 by_cases c2:m.kind=2
 ·simp only[aae c2,aab (show ¬m.kind=4 by omega),aab (show ¬m.kind=5 by omega)]
  have w1:=CN m.same
  have h3:=IW m.same
  rw[aaZ,aan,List.flatMap_cons,aaZ,aan]
  clear hpl k1 k3 k4 k5 k6 b3 hR hH p2 p3 hK hN hk
  refine fi func82 ntmps82 ?_
  (refine bt h1 h3 ?_;repeat' first|apply aw|refine ah λhc=>?_)
  refine dr ?_
  refine f9 rfl rfl ?_
  show _=Blk.row _ _ ((H++aO (jq m.same)).map byteP)
  rw[List.map_append,<-w1];rfl
 simp only[aab c2]
 by_cases c3:m.kind=3
 ·simp only[aae c3,aab (show ¬m.kind=4 by omega),aab (show ¬m.kind=5 by omega)]
  have h3:=iZ m.nxt (dD (k3 c3))
  have q3:=jY _ (dD (k3 c3))
  rw[aaZ,aan,List.flatMap_cons,aaZ,aan]
  clear hpl k1 k3 k4 k5 k6 b3 hR hH p2 p3 hK hN hk
  refine fi func82 ntmps82 ?_
  (refine bt h1 h3 ?_;repeat' first|apply aw|refine ah λhc=>?_)
  refine dr ?_
  refine f9 rfl rfl ?_
  show _=Blk.row _ _ ((H++aO m.nxt).map byteP)
  rw[List.map_append];rfl
 simp only[aab c3]
 by_cases c5:m.kind=5
 ·obtain⟨a1,a2,a3,a4,a5⟩:=k5 c5
  simp only[aae c5,aab (show ¬m.kind=4 by omega)]at hpl ⊢
  have w1:=CN m.last
  have h2:=iZ m.nxt (dD a1)
  have q2:=jY _ (dD a1)
  have h3:=IW m.last
  have h4:=Lg m.its b6 (CF a3)
  have h5:=Eu m.know b3 b4 a4
  have h6:=qr (fR m.its) (hpl _ aA)
  have h7:=qr (eu m.know) (hpl _ aA)
  have q6:=kO (fR m.its) (hpl _ aA)
  have q7:=kO (eu m.know) (hpl _ aA)
  have q6':=hpl (fR m.its) aA
  have q7':=hpl (eu m.know) aA
  have fin:H++[m.nxt,jq m.last].flatMap aO++[fR m.its,eu m.know].flatMap txB=H++aO m.nxt++aO (jq m.last)++txB (fR m.its)++txB (eu m.know):=aA
  rw[fin]
  clear fin hpl k1 k3 k4 k5 k6 a1 a3 a4 a5 b3 hR hH p2 p3 hK hN hk
  generalize txB (fR m.its)=T1 at *
  generalize txB (eu m.know)=T2 at *
  generalize aO m.nxt=G at *
  refine fi func82 ntmps82 ?_
  (have kc1:=h1;have kc2:=h2;have kc3:=h3;have kc4:=h4;have kc5:=h5;have ko1:=h6;have ko2:=h7;refine w0 ?_;(repeat' first|apply aw|refine ah λhc=>?_);all_goals clear ko2 ko1 kc5 kc4 kc3 kc2 kc1)
  refine dr ?_
  refine f9 rfl rfl ?_
  show _=Blk.row _ _ ((H++G++aO (jq m.last)++T1++T2).map byteP)
  rw[List.map_append,List.map_append,List.map_append,List.map_append,<-w1];rfl
 simp only[aab c5]
 by_cases c6:m.kind=6
 ·simp only[aae c6,aab (show ¬m.kind=4 by omega)]
  have h3:=iZ m.err (dD (k6 c6).2)
  have q3:=jY _ (dD (k6 c6).2)
  rw[aaZ,aan,List.flatMap_cons,aaZ,aan]
  clear hpl k1 k3 k4 k5 k6 b3 hR hH p2 p3 hK hN hk
  refine fi func82 ntmps82 ?_
  (refine bt h1 h3 ?_;repeat' first|apply aw|refine ah λhc=>?_)
  refine dr ?_
  refine f9 rfl rfl ?_
  show _=Blk.row _ _ ((H++aO m.err).map byteP)
  rw[List.map_append];rfl
 simp only[aab c6]
 have c4:m.kind=4:=ae
 simp only[aae c4]at hpl ⊢
 have h4:=wW [m.rg] aA (uL (k4 c4))
 have h6:=qr (fc [m.rg]) (hpl _ aA)
 have q6:=kO (fc [m.rg]) (hpl _ aA)
 have q6':=hpl (fc [m.rg]) aA
 have fin:H++([]:List Int).flatMap aO++[fc [m.rg],C1 m.sum].flatMap txB=H++txB (fc [m.rg])++aO 8++Gm 8 m.sum:=by simp[VI];rfl
 rw[fin]
 clear fin hpl k1 k3 k4 k5 k6 b3 hR hH p2 p3 hK hN hk
 generalize txB (fc [m.rg])=T1 at *
 refine fi func82 ntmps82 ?_
 (refine fF h1 h4 h6 ?_;repeat' first|apply aw|refine ah λhc=>?_)
 refine bw (aU 13 600) ?_
 have hl8:(aO 8).length=1:=by grind[aO,gb]
 refine ci (X:=Nat) (λk=>k<=8) (λk=>aF [(1,.ptr 1 0 0),(3,.row 600 0),(4,iC .u64 (m.sum / 256 ^ k:Nat)),(5,iC .i64 (k:Nat))] [(1,.box 43 ((bR m).map Cnt.per)),(600,.row 5 1 ((H++T1++aO 8++Gm k m.sum).map byteP))]) (λk=>8-k) 0 ae ?_ ?_
 ·(refine kA ?_ ?_;(focus ((repeat (first|exact gp.nil|(refine gp.cons ?_ ?_;rotate_left)));(all_goals try (first|rfl|(refine Gj ?_;first|omega|(simp;done)|(simp;omega))|(refine qw ?_;first|(simp;done)|(simp[*];done))))));(focus ((repeat (first|exact gq.nil|(refine gq.cons ?_ ?_;rotate_left)));(all_goals try (first|rfl|(refine nq ?_;(rw[List.map_append]<;>rfl);done)|(refine kB ?_;(rw[List.map_append]<;>rfl);done))))))
  show Blk.row _ _ _=Blk.row _ _ ((H++T1++aO 8++[]).map byteP)
  rw[aan,List.map_append,List.map_append,Yj];rfl
 ·intro k hk
  by_cases hlt:k<8
  ·have hS:=yJ k m.sum
   have hl:=qp k m.sum
   have hp:m.sum / 256 ^ (k+1)=m.sum / 256 ^ k / 256:=by rw[Nat.pow_succ,Nat.div_div_eq_div_mul]
   have hb:m.sum / 256 ^ k<18446744073709551616:=Nat.lt_of_le_of_lt (Nat.div_le_self _ _) hs
   generalize m.sum / 256 ^ k=q at *
   generalize hq':m.sum / 256 ^ (k+1)=q' at *
   have hW:IntKind.u8.wrap ((q:Int) % 256)=((UInt8.ofNat q).toNat:Int):=by rw[<-mc,IntKind.wrap_u8',IntKind.wrap_u8'];omega
   have hq:IntKind.u64.wrap ((q:Int).tdiv 256)=(q':Int):=by rw[abf ae,IntKind.wrap_u64];omega
   have hAl:(H++T1++aO 8++Gm k m.sum).length<=300000100:=by grind
   generalize hA:H++T1++aO 8++Gm k m.sum=A at *
   clear h1 h4 h6
   (repeat' (first|((first|apply aH rfl|apply cB rfl|apply aJ rfl|apply cC rfl);focus (first|((apply bn 10;(focus rfl);exact dR ⟨rfl,rfl,rfl⟩ rfl aS aS rfl hW))|(apply gR;(focus rfl);apply ag rfl rfl rfl rfl rfl;((apply bn 10;(focus rfl);exact dR ⟨rfl,rfl,rfl⟩ rfl aS aS rfl hW)))|((exact kv ⟨rfl,rfl,rfl⟩ rfl rfl rfl bP hq))|(apply gR;(focus rfl);apply ag rfl rfl rfl rfl rfl;((exact kv ⟨rfl,rfl,rfl⟩ rfl rfl rfl bP hq)))))|refine oq ?_|refine bW cI ?_|(refine dW rfl rfl ⟨λhc=>?_,λhc=>?_⟩<;>(repeat rw[aad]at hc)<;>(try exact cj hc))|((first|refine dX rfl rfl rfl ⟨λhc=>?_,λhc=>?_⟩|refine dY rfl rfl rfl ⟨λhc=>?_,λhc=>?_⟩)<;>(fail_if_success (have q:(true=true):=hc))<;>(fail_if_success (have q:(false=false):=hc))<;>(repeat rw[aad]at hc)<;>(try exact cj hc))|refine aQ rfl rfl (λhc=>?_) ?_))
   refine⟨k+1,ae,ae,?_⟩
   rw[hS,hq',<-aal (H++T1++aO 8),hA]
   exact ab
  ·obtain rfl:k=8:=ae
   clear h1 h4 h6
   (refine w0 ?_;repeat' first|apply aw|refine ah λhc=>?_)
   exact dr (cJ rfl rfl rfl rfl)
theorem IY (m:Msg)(hB:uN m)(hs:m.sum<18446744073709551616):Fn prog 37 [zw m] (.tup2 (gN (eV m).1) (eA (eV m).2)):=by
 have a1:=kt m (by have:=hB.flt;omega) hB.ksz hB.thr (by have:=hB.its;omega)
 unfold eV
 cases hR:lK m with
 | false=>
  rw[hR]at a1
  simp only[aaL,if_false]
  clear hB
  refine fi func37 ntmps37 ?_
  (refine au a1 ?_;refine ah λhc=>?_)
  refine dV ?_ ?_
  ·exact dG rfl
  ·exact aq rfl rfl
 | true=>
  rw[hR]at a1
  simp only[if_true]
  have a2:=VJ m hR hB hs
  have hl:(gM m).length<=1000000000:=by
   have hI:=tu m hB.its
   rw[hR]at hI
   have hI:=hI.symm
   simp only[aaC]at hI
   have e:gM m=(da m).flatMap aO++(mB m).1.flatMap txB:=by rw[CH hI.1.1.2];rfl
   rw[e,aai]
   have h1:=Bb m (CI.1 hI.1.1.1)
   have h2:=FG m
   have h3:=hB.prt
   have key:∀l:List (List UInt8),(∀p∈l,p.length<=300000000)->(l.flatMap txB).length<=300000009*l.length:=by
    intro l
    induction l<;>grind[kO]
   have:=key _ h3
   omega
  generalize gM m=L at *
  have a3:=R7 L hl
  clear hB
  by_cases hL:L.length<=32768
  ·simp only[aae hL]
   refine fi func37 ntmps37 ?_
   (refine fF a1 a2 a3 ?_;repeat' first|apply aw|refine ah λhc=>?_)
   exact dV (f9 rfl rfl rfl) (aq rfl rfl)
  ·simp only[aab hL]
   refine fi func37 ntmps37 ?_
   (refine fF a1 a2 a3 ?_;repeat' first|apply aw|refine ah λhc=>?_)
   exact dV (dG rfl) (aq rfl rfl)
theorem zx {k:List Pc}{most:Int}(h:gL k most=false)(hm:most<=1000000):fe k/\sq k:=by
 obtain⟨h1,h2⟩:=rc h
 have hq:∀p∈k,dJ p.set/\vv p.set:=λp hp=>by
  obtain⟨_,_,h3⟩:=h2 p hp
  obtain⟨g1,g2⟩:=xh h3
  refine⟨⟨ae,?_⟩,λx hx=>by have:=g2 x hx;omega⟩
  have:∀l:List Kn,(∀k∈l,(k.runs.length:Int)<=16)->(l.flatMap Kn.runs).length<=16*l.length:=by
   intro l
   induction l<;>grind
  have:=this _ g2
  omega
 exact⟨⟨ae,λp hp=>(hq p hp).1⟩,λp hp=>(hq p hp).2⟩
theorem MH {k:List Pc}(h:aY k)(hf:sq k)(hl:k.length<=190):(eu k).length<=290000000:=by
 have h1:=qe (B:=xf) 1500040 k (λp hp=>by
  have hfp:=hf p hp
  grind[List.getElem_of_mem,qf,B3])
 have h3:=bv (k.length:Int) ae
 grind[eu]
theorem qs (b:List UInt8):fe (dI b).1/\sq (dI b).1:=by
 have h:=xu b 0
 unfold dI ki
 split
 ·exact⟨⟨aA,aA⟩,λk hk=>by simp at hk⟩
 ·split
  ·exact h
  ·exact⟨⟨aA,aA⟩,λk hk=>by simp at hk⟩
def md (m:Msg):Bool:=iG m.flt 12||(gL m.know 24||(decide ((m.there.length:Int)>600)||(oZ m.its 24||(decide ((m.rg.lo.size:Int)>60)||decide ((m.rg.hi.size:Int)>60)))))
theorem VK (m:Msg):Fn prog 20 [zw m] (dE (md m)):=by
 have a1:=Ee m.flt 12 bP
 have a2:=xt m.know 24 bP
 have a3:=Aa m.its 24 bP
 unfold md
 generalize iG m.flt 12=d1 at *
 generalize gL m.know 24=d2 at *
 generalize oZ m.its 24=d3 at *
 refine fi func20 ntmps20 ?_
 (refine fF a1 a2 a3 ?_;repeat' first|apply aw|refine ah λhc=>?_)
 all_goals
  refine dr ?_
  refine aP rfl ?_
  first|(simp[*];done)|(rw[aav];simp[*];done)|(rw[aav];simp[*];omega)
theorem IZ:∀(l:List It)(was:ByteArray),l.all dA=true->(gi was l).length<=200*l.length:=by
 intro l
 induction l with
 | nil=>grind[gi]
 | cons x l ih=>
  intro was h
  rw[List.all_cons,aaC]at h
  have h1:=fQ h.1
  have h2:=iv was x.key
  have q1:=bv ((cT was x.key:Nat):Int) ae
  have q2:=cM (ny x.key (cT was x.key)) (by rw[eT];omega)
  have q3:=ud h.1
  have q4:=ih x.key h.2
  rw[eT]at q2
  rw[gi,aai,aai,aai,aaD]
  omega
theorem yO (h:l.all dA=true)(hl:l.length<=4096):(fR l).length<=9+200*l.length:=by
 have q1:=bv (l.length:Int) ae
 have q2:=IZ l s0 h
 grind[fR]
theorem Sd:sq []:=λp hp=>by simp at hp
theorem yP (hf:m.flt.length<=4096)(hz:fe m.know)(hw:sq m.know)(hk:m.know.length<=190)(ht:m.there.length<=1000000)(hi:m.its.length<=4096):uN m:=by
 refine⟨hf,hz,hw,ae,ht,hi,λp hp=>?_⟩
 have hkb:(if decide (aY m.know)then eu m.know else []).length<=300000000:=by
  by_cases c:aY m.know
  all_goals grind[MH]
 unfold mB at hp
 by_cases c1:m.kind=1
 ·grind[qc]
 simp only[aab c1]at hp
 by_cases c4:m.kind=4
 ·grind[qc,C1]
 simp only[aab c4]at hp
 by_cases c5:m.kind=5
 ·simp only[aae c5,aaU,abr,or_false]at hp
  grind[yO]
 grind
theorem Kw (h:md m=false):uN m/\m.know.length<=24:=by
 unfold md at h
 simp only[Bool.or_eq_false_iff]at h
 obtain⟨h1,h2,h3,h4,_⟩:=h
 have hk:=zx h2 bP
 have hkl:=(rc h2).1
 grind[iG,oZ,yP]
structure MsE (m:Msg):Prop where
 flt:m.flt.length<=1000000
 ksz:fe m.know
 its:m.its.length<=1000000
theorem uN.e (h:uN m):MsE m:=⟨by have:=h.flt;omega,h.ksz,by have:=h.its;omega⟩
theorem nP:fe []:=⟨aA,λp hp=>by simp at hp⟩
theorem Zw {p:List (List UInt8)}(n1:m.flt=[])(n2:m.know=[])(n3:m.its=[])(n4:m.sum=0)(h:(dx m p).2=0) :
 (dx m p).1.flt.length<=4096/\fe (dx m p).1.know/\sq (dx m p).1.know/\(dx m p).1.know.length<=4096/\(dx m p).1.its.length<=4096/\(dx m p).1.sum<18446744073709551616:=by
 have Sd:sq []:=λp hp=>by simp at hp
 unfold dx at h ⊢
 by_cases c1:m.kind=1
 ·grind[jM,i7,qs]
 simp only[aab c1]at h ⊢
 by_cases c4:m.kind=4
 ·simp only[aae c4]at h ⊢
  by_cases a:(dM (p.getD 0 [])).2≠0
  ·rw[aae a]at h;exact absurd h a
  simp only[aab a]at h ⊢
  by_cases b:(dM (p.getD 0 [])).1.length=1/\(p.getD 1 []).length=8
  ·simp only[aae b]at h ⊢
   have:=vU (p.getD 1 [])
   rw[b.2]at this
   exact⟨by rw[n1];simp,by rw[n2];exact nP,by rw[n2];exact Sd,by rw[n2];simp,by rw[n3];simp,this⟩
  grind
 grind[jz,i7,qs,nP]
theorem qt {p:List UInt8}(h:p∈ew m):p.length<=(gM m).length:=by
 have key:∀l:List (List UInt8),p∈l->p.length<=(l.flatMap txB).length:=by
  intro l
  induction l<;>grind[txB,bi]
 have:=key _ h
 grind[gM]
theorem Zx {b:List UInt8}(hb:b.length<=1000000)(h:(lW b).2=0):uN (lW b).1/\(lW b).1.sum<18446744073709551616:=by
 have hL:=uO b
 unfold lW at h ⊢
 by_cases c:(iA b).2≠0
 ·rw[aae c]at h;exact absurd h c
 rw[aab c]at h ⊢
 generalize (iA b).1=L at *
 obtain⟨r1,r2⟩:=A7 h
 rw[IV]at h r1 r2 ⊢
 have hn:=CM (bM L).1 (bM L).2.1 (bM L).2.2
 have hth:(cY L).1.there.length<=1000000:=by
  show(d7 (bM L).1 (bM L).2.1 (bM L).2.2).1.there.length<=1000000
  rw[hn.2.2.2.2.2.1];exact aag _
 have n1:(cY L).1.flt=[]:=hn.2.2.2.1
 have n2:(cY L).1.know=[]:=hn.2.2.2.2.1
 have n3:(cY L).1.its=[]:=hn.2.2.1
 have n4:(cY L).1.sum=0:=hn.2.2.2.2.2.2.1
 have hpl:∀p∈(cY L).2.1,p.length<=1000000:=λp hp=>by
  have h1:=(yN _ _ _).2.1 p hp
  have h2:=FK (bM L).1 (bM L).2.1 (bM L).2.2
  have h3:=FJ L
  omega
 by_cases c1:dg (cY L).2.2.1 (cY L).2.2.2≠0
 ·rw[aae c1]at h;exact absurd h c1
 rw[aab c1]at h r1 r2 ⊢
 by_cases c2:(dx (cY L).1 (cY L).2.1).2≠0
 ·rw[aae c2]at h;exact absurd h c2
 rw[aab c2]at h r1 r2 ⊢
 by_cases c3:¬lK (dx (cY L).1 (cY L).2.1).1=true
 ·rw[aab c3]at h;simp at h
 replace c3:=aaG.1 c3
 rw[aae c3]at r1 r2 ⊢
 obtain⟨s1,s2,s3,s4,s5,s6⟩:=Zw n1 n2 n3 n4 (aaG.1 c2)
 have st:=(FL (cY L).1 (cY L).2.1 1000000 hth hpl (by rw[n3];simp)).1
 refine⟨⟨s1,s2,s3,s4,st,s5,λp hp=>?_⟩,s6⟩
 have hI:=tu (dx (cY L).1 (cY L).2.1).1 s5
 rw[c3]at hI
 have hI:=hI.symm
 simp only[aaC]at hI
 rw[CH hI.1.1.2]at hp
 have:=qt hp
 rw[r1]at this
 omega
theorem MI (limit:Int)(l:List It):(mA limit l).D.flatten++(mA limit l).c.getD []=l:=by
 have key:∀(m:List It)(s:Spl),(m.foldl (rz limit) s).D.flatten++(m.foldl (rz limit) s).c.getD []=s.D.flatten++s.c.getD []++m:=by
  intro m
  induction m with
  | nil=>intro s;simp
  | cons x m ih=>
   intro s
   rw[List.foldl_cons,ih]
   obtain⟨D,c,left⟩:=s
   cases c with
   | none=>simp[rz]
   | some c=>
    unfold rz;simp only
    split<;>simp
 have:=key l ⟨[],none,-1⟩
 simpa[mA]using this
theorem CO (h:jC limit l=0):∀x∈l,yx limit x:=by
 obtain⟨m,hm,hall,hbad,_⟩:=Cz limit l
 by_cases hlt:m<l.length
 all_goals grind
theorem Kx (h:jC limit l=0):uG limit l=pq (mA limit l):=by grind[uG,pq]
theorem MJ (h2:limit<=9223372036854775807)(h:jC limit l=0):(uG limit l).flatten=l:=by
 have hI:=Vl limit l h2 (CO h)
 have hF:=MI limit l
 rw[Kx h]
 unfold pq
 generalize mA limit l=s at *
 obtain⟨D,c,left⟩:=s
 cases c with
 | none=>have:=(hI.none1 rfl).2;grind
 | some c=>simpa using hF
theorem Se (h2:limit<=9223372036854775807)(h:jC limit l=0):(uG limit l).length<=max 1 l.length/\1<=(uG limit l).length:=by
 have hI:=Vl limit l h2 (CO h)
 rw[Kx h]
 unfold pq
 generalize mA limit l=s at *
 obtain⟨D,c,left⟩:=s
 cases c with
 | none=>simp;omega
 | some c=>have q4:=hI.len;have q5:=hI.ne c rfl;simp at q4 ⊢;omega
theorem Ky (r c:Int):Fn prog 350 [.per (ai (.pointer none)),vb r c] (dE false):=by
 refine fi func350 ntmps350 ?_
 (refine w0 ?_;refine ah λhc=>?_)
 exact dz
def FM (s:Sta):Bool:=iG s.flt 8||(oZ s.its 24||gL s.know 24)
theorem Sf (s:Sta):Fn prog 5 [kq s] (dE (FM s)):=by
 have a1:=Ee s.flt 8 bP
 have a2:=Aa s.its 24 bP
 have a3:=xt s.know 24 bP
 unfold FM
 generalize iG s.flt 8=d1 at *
 generalize gL s.know 24=d2 at *
 generalize oZ s.its 24=d3 at *
 refine fi func5 ntmps5 ?_
 (refine fF a1 a2 a3 ?_;repeat' first|apply aw|refine ah λhc=>?_)
 all_goals
  refine dr ?_
  refine aP rfl ?_
  first|rfl|(simp[*];done)|(rw[aav];simp[*];done)|(rw[aav];simp[*];omega)
theorem Sg (h:oZ l 24=false):l.length<=24/\n8 l:=by
 unfold oZ at h
 rw[Bool.or_eq_false_iff,abb]at h
 refine⟨ae,λx hx=>?_⟩
 have:=List.any_eq_false.1 h.2 x hx
 simp[Wm]at this
 omega
theorem FN {l:List Rg}(h:iG l 8=false):l.length<=8:=by
 unfold iG at h
 rw[Bool.or_eq_false_iff,abb]at h
 omega
structure WK (s:Sta):Prop where
 fl:s.flt.length<=8
 il:s.its.length<=24
 ik:n8 s.its
 kw:vk s.know 24 256
theorem Sh {s:Sta}(h:FM s=false):WK s:=by
 unfold FM at h
 simp only[Bool.or_eq_false_iff]at h
 obtain⟨h1,h2,h3⟩:=h
 obtain⟨q2,q3⟩:=Sg h2
 exact⟨FN h1,q2,q3,RO h3⟩
theorem WK.st {s:Sta}(h:WK s):WB s:=by
 have h1:=h.fl
 have h2:=h.il
 have h3:=h.kw.len
 exact⟨ae,h.kw.mid bP bP,ae,ae,h.ik⟩
abbrev Yk (F:List Rg)(K:List Pc)(lim:Int)(R:List Rg)(bs:List Bool)(pr sd:Int):List PV:=[gd F,ib K,ai (.int .i64 lim),gd R,cn 1 (bs.map boolP),ai (.int .i64 pr),ai (.int .u64 sd)]
abbrev qM (F:List Rg)(K:List Pc)(lim:Int)(R:List Rg)(bs:List Bool)(pr sd:Int):Cnt:=.per (cu (Yk F K lim R bs pr sd))
theorem FO (s:Sta)(F:List Rg)(K:List Pc)(f g:It->Bool)(hl:s.its.length<=1000000)(a1:∀x∈s.its,Fn prog 30 [cU F,sC x.key] (dE (f x)))(a2:∀x∈s.its,Fn prog 31 [dN K,sC x.key,vb x.rep x.cnt] (dE (g x))) :
 Fn prog 246 [kq s,.per (gd F),ox K] (Ic (s.its.filter λx=>f x&&!g x)):=by
 generalize hT:(s.its.filter λx=>f x&&!g x)=T
 refine fi func246 ntmps246 ?_
 (refine w0 ?_)
 refine bw (bS 7 600 79 7 rfl rfl) ?_
 refine aj (X:=Nat×List It) (λx=>x.1<=s.its.length/\x.2.length<=x.1/\x.2++(s.its.drop x.1).filter (λx=>f x&&!g x)=T)
  (λx=>aF [(1,.per (gd F)),(2,ox K),(3,.ptr 3 0 0),(7,.row 600 0),(8,iC .i64 (x.1:Nat))] [(3,.box 26 ((sY s).map Cnt.per)),(600,gz x.2)]) (λx=>s.its.length-x.1) (0,[]) ⟨aag _,aA,by simpa using hT⟩ ?_
 rintro⟨i,ac⟩ ⟨h1,h2,h3⟩
 simp only at h1 h2 h3 ⊢
 by_cases hi:i<s.its.length
 ·have c1:=a1 _ (aar hi)
  have c2:=a2 _ (aar hi)
  rw[List.drop_eq_getElem_cons hi,List.filter_cons]at h3
  clear a1 a2
  cases hf:f s.its[i]with
  | false=>
   rw[hf]at h3 c1
   (refine bt c1 c2 ?_;repeat' first|apply aw|refine ah λhc=>?_)
   refine⟨(i+1,ac),⟨aL,aL,by simpa using h3⟩,aL,?_⟩
   exact ab
  | true=>
   cases hg:g s.its[i]with
   | true=>
    rw[hf,hg]at h3
    rw[hf]at c1
    rw[hg]at c2
    (refine bt c1 c2 ?_;repeat' first|apply aw|refine ah λhc=>?_)
    refine⟨(i+1,ac),⟨aL,aL,by simpa using h3⟩,aL,?_⟩
    exact ab
   | false=>
    rw[hf,hg]at h3
    rw[hf]at c1
    rw[hg]at c2
    (refine bt c1 c2 ?_;repeat' first|apply aw|refine ah λhc=>?_)
    refine⟨(i+1,ac++[s.its[i]]),⟨aL,bD,by simpa using h3⟩,aL,az (aU 600 601) (az (aU 601 600) ?_)⟩
    exact ab
 ·have h3:ac=T:=by rw[<-h3,aay ae];simp
  clear a1 a2
  (refine w0 ?_;refine ah λhc=>?_)
  refine dr ?_
  exact cJ rfl rfl rfl (by rw[h3])
theorem VL (s:Sta)(F:List Rg)(K:List Pc)(lim:Int)(R:List Rg)(bs:List Bool)(pr sd:Int)(r f k:Bool)(a1:Fn prog 8 [kq s] (dE r))(a2:Fn prog 23 [cU F] (dE f))(a3:Fn prog 25 [dN K] (dE k)) :
 Fn prog 176 [kq s,qM F K lim R bs pr sd] (eA (Rz r f k)):=by
 cases r<;>cases f<;>cases k
 all_goals
  refine fi func176 ntmps176 ?_
  (refine fF a1 a2 a3 ?_;repeat' first|apply aw|refine ah λhc=>?_)
  exact uZ
theorem MK (s:Sta)(F:List Rg)(K:List Pc)(lim:Int)(R:List Rg)(bs:List Bool)(pr sd:Int)(U:List It)(a1:Fn prog 246 [kq s,.per (gd F),ox K] (.per (cX U))) :
 Fn prog 179 [kq s,qM F K lim R bs pr sd] (.per (cX U)):=by
 refine fi func179 ntmps179 ?_
 (refine au a1 ?_)
 exact Nj
theorem ML (s:Sta)(F:List Rg)(K:List Pc)(lim:Int)(R:List Rg)(bs:List Bool)(pr sd:Int)(e:Int)(he:e≠0)(a1:Fn prog 176 [kq s,qM F K lim R bs pr sd] (eA e)) :
 Fn prog 95 [kq s,qM F K lim R bs pr sd] (.tup3 (Zo []) (.per (ib [])) (eA e)):=by
 refine fi func95 ntmps95 ?_
 (refine au a1 ?_;refine ah λhc=>?_)
 refine⟨by grind,mg rfl ?_ ?_ ?_⟩
 ·exact AK (cS rfl) ct
 ·exact AK (cS rfl) ct
 ·exact aq rfl rfl
theorem MM (s:Sta)(F:List Rg)(K:List Pc)(lim:Int)(R:List Rg)(bs:List Bool)(pr sd:Int)(U Q:List It)(B:List (List It))(e:Int)(J:List Pc)(a1:Fn prog 176 [kq s,qM F K lim R bs pr sd] (eA 0))(a2:Fn prog 179 [kq s,qM F K lim R bs pr sd] (.per (cX U)))
 (a3:Fn prog 178 [cU R,.per (qy bs pr sd),eS U] (.per (cX Q))) (a4:Fn prog 177 [iC .i64 lim,Rv Q] (.tup2 (Zo B) (eA e))) (a5:e=0->Fn prog 27 [dN s.know,cU F] (.per (ib J))) :
 Fn prog 95 [kq s,qM F K lim R bs pr sd] (.tup3 (Zo (if e=0 then B else [])) (.per (ib (if e=0 then J else []))) (eA e)):=by
 by_cases he:e=0
 ·rw[aae he,aae he]
  subst he
  have a5:=a5 rfl
  refine fi func95 ntmps95 ?_
  (refine zT a1 a2 a3 a4 a5 ?_;repeat' first|apply aw|refine ah λhc=>?_)
  refine⟨by grind,mg rfl ?_ ?_ ?_⟩
  ·exact cS rfl
  ·exact cS rfl
  ·exact aq rfl rfl
 ·rw[aab he,aab he]
  clear a5
  refine fi func95 ntmps95 ?_
  (refine u0 a1 a2 a3 a4 ?_;repeat' first|apply aw|refine ah λhc=>?_)
  refine⟨by grind,mg rfl ?_ ?_ ?_⟩
  ·exact AK (cS rfl) ct
  ·exact AK (cS rfl) ct
  ·exact aq rfl rfl
section
variable {s:Sta} {F:List Rg} {K:List Pc} {lim:Int} {R:List Rg} {th:PV} {hs:Int->Int->Bool} {bs:List Bool} {pr sd:Int}
structure RkB (R:List Rg)(hs:Int->Int->Bool)(bs:List Bool)(pr sd:Int):Prop where
 q:0<bs.length->∀r c,Fn prog 319 [.per (qy bs pr sd),vb r c] (dE (hs r c))
 z:bs.length=0->∀r c,hs r c=false
theorem Si (h:RR s F K lim R th hs):Fn prog 176 [kq s,qM F K lim R bs pr sd] (eA (yE s F K)):=by
 have hf:=h.fl
 exact VL s F K lim R bs pr sd _ _ _ (AV s h.st) (nx F ae (decide (bT F)) aA) (lV K (dP h.km) (decide (aY K)) aA)
theorem I0 (h:RR s F K lim R th hs):Fn prog 179 [kq s,qM F K lim R bs pr sd] (.per (cX (jU s.its F K))):=by
 have hl:=h.sl
 have hf:=h.fl
 exact MK s F K lim R bs pr sd _ (FO s F K (λx=>cz F x.key) (λx=>cq K x.key x.rep x.cnt) ae (λx hx=>ly F x.key ae (h.st.keys x hx)) (λx hx=>J6 K x.key x.rep x.cnt (dP h.km) (h.st.keys x hx))).frz
theorem Sj (h:RR s F K lim R th hs)(k:RkB R hs bs pr sd):Fn prog 95 [kq s,qM F K lim R bs pr sd] (.tup3 (Zo (gA s F K lim R hs).1) (.per (ib (gA s F K lim R hs).2.1)) (eA (gA s F K lim R hs).2.2)):=by
 unfold gA
 have a1:=Si (bs:=bs) (pr:=pr) (sd:=sd) h
 by_cases c:yE s F K≠0
 ·rw[aae c]
  exact ML s F K lim R bs pr sd _ c a1
 ·rw[aab c]
  have c:=aaG.1 c
  rw[c]at a1
  obtain⟨c1,c2,c3⟩:=IH.1 c
  have hf:=h.fl
  have hr:=h.rl.2
  have hl:=h.sl
  have hu:=wh s.its F K
  have kl:=Kh (F:=F) (K:=K) h.st.keys
  have hcl:∀x∈jU s.its F K,Fn prog 274 [cU R,.per (qy bs pr sd),vq x] (eA (jH R hs x)):=λx hx=>Ma R ae bs pr sd hs x (kl x hx) (λh=>k.q h _ _) (λh=>k.z h _ _)
  have h2:=Rs R bs pr sd hs (jU s.its F K) ae (λx hx y hy=>Mb R bs pr sd hs x y (kl x hx) (hcl x hx) (hcl y hy))
  have h3:=Mg lim (g8 R hs (jU s.its F K)) (by rw[uF];omega) h.l2
  have:=MM s F K lim R bs pr sd _ _ _ _ (cW s.know F) a1 (I0 h) h2 h3 (λ_=>(tj s.know F h.st.kmid h.st.kl ae).frz)
  by_cases e:jC lim (g8 R hs (jU s.its F K))=0
  ·rw[aae e]at this ⊢
   rw[aae e,e]at this
   exact this
  ·rw[aab e]at this ⊢
   rw[aab e]at this
   exact this
end
def ex35:Sta:=⟨1,[⟨emB,emB,true⟩],[],[],0⟩
theorem CP:oA ex35=true:=by decide +kernel
theorem I1:WB ex35:=⟨bP,⟨bP,bP,bP⟩,bP,bP,λx hx=>by cases hx⟩
theorem Sk {s:Sta}{F:List Rg}{K:List Pc}{lim:Int}{R:List Rg}{hs:Int->Int->Bool}(h:(gA s F K lim R hs).2.2=0) :
 yE s F K=0/\jC lim (g8 R hs (jU s.its F K))=0/\(gA s F K lim R hs).1=uG lim (g8 R hs (jU s.its F K))/\(gA s F K lim R hs).2.1=cW s.know F:=by grind[gA]
theorem MN {α:Type}(lt:α->α->Bool)(x:α):∀(l r:List α),(mw lt x l r).Perm (x::(l++r)):=by
 intro l
 induction l with
 | nil=>intro r;exact List.Perm.refl _
 | cons y l ih=>
  intro r
  rw[mw]
  split
  ·refine(ih (y::r)).trans (List.Perm.cons x ?_)
   exact List.perm_middle
  ·refine List.perm_middle.trans (List.Perm.cons x ?_)
   exact List.Perm.append_right r (List.reverse_perm _)
theorem I2 {α:Type}(lt:α->α->Bool)(l:List α):(eC lt l).Perm l:=by
 have key:∀(l p:List α),(l.foldl (lq lt) p).Perm (p++l):=by
  intro l
  induction l with
  | nil=>intro p;simp
  | cons x l ih=>
   intro p
   refine(ih _).trans ?_
   have h:(lq lt p x).Perm (x::p):=by
    have:=MN lt x p.reverse []
    rw[aan]at this
    exact this.trans (List.Perm.cons x (List.reverse_perm p))
   exact(List.Perm.append_right l h).trans List.perm_middle.symm
 have:=key l []
 rw[aaE]at this
 exact this
theorem I3 (R:List Rg)(hs:Int->Int->Bool)(l:List It):(g8 R hs l).Perm l:=by rw[yw];exact I2 _ l
def tw (l:List It):List Pc:=l.flatMap λx=>rk x.key x.rep x.cnt
theorem Zy (X:List Pc){n r:Nat}(h1:X.length<=n)(h2:((X.flatMap Pc.set).flatMap Kn.runs).length<=r):vk (zo X) (1+2*n) r:=by
 obtain⟨k1,k2⟩:=ri X
 refine⟨?_,λp hp=>?_⟩
 ·have q1:=sJ (mz X) (m0 X)
  have q2:=xY X
  unfold zo
  omega
 ·obtain⟨_,s,h3⟩:=sZ k1 p hp
  rw[<-h3,k2]
  have q1:=AI (X.flatMap (ko s))
  have q2:=ii Kn.runs (xW (xX s) X)
  exact⟨Fm _,by
   show((gQ ofR (X.flatMap (ko s))).flatMap Kn.runs).length<=r
   have:(X.flatMap λp=>p.set)=X.flatMap Pc.set:=rfl
   omega⟩
theorem FP:∀(l:List It),(tw l).length<=l.length/\(((tw l).flatMap Pc.set).flatMap Kn.runs).length<=l.length:=by
 intro l
 induction l with
 | nil=>exact⟨aaf _,aaf _⟩
 | cons x l ih=>
  have e:tw (x::l)=rk x.key x.rep x.cnt++tw l:=rfl
  rw[e,aai,List.flatMap_append,List.flatMap_append,aai,aaD]
  have:(rk x.key x.rep x.cnt).length<=1/\(((rk x.key x.rep x.cnt).flatMap Pc.set).flatMap Kn.runs).length<=1:=by unfold rk;split<;>simp
  omega
theorem Zz {X:List Pc}{s:ByteArray}{r c:Int}:cq (zo X) s r c=jb (mz X s) r c:=by
 obtain⟨h1,h2⟩:=ri X
 rw[kX h1,h2]
theorem Sm (hl:l.all dA=true)(s:ByteArray)(r c:Int):jb (mz (tw l) s) r c=l.any λx=>YI x s r c:=by
 induction l with
 | nil=>rw[show tw []=[]from rfl,XR,ql];rfl
 | cons x l ih=>
  rw[List.all_cons,aaC]at hl
  have hx:=hl.1
  unfold dA at hx
  simp only[aaC]at hx
  have e:tw (x::l)=rk x.key x.rep x.cnt++tw l:=rfl
  have o:=AQ hx.1.1 hx.1.2 s r c
  have ok:=(Iy hx.1.1 hx.1.2).1
  rw[kX ok,<-kN ok]at o
  rw[e,Ib,aav,EZ,List.any_cons,abm,o,ih hl.2]
  unfold YI
  rfl
theorem MO (hl:l.all dA=true):L8 l=zo (tw l):=by
 obtain⟨h1,h2⟩:=yt hl
 exact Ff h1 (ri _).1 λs r c=>by rw[h2,Zz,Sm hl]
theorem Yl (hl:l.all dA=true):vk (L8 l) (1+2*l.length) l.length:=by
 rw[MO hl]
 exact Zy _ (FP l).1 (FP l).2
theorem Ro.known {t g:Sta}{c:List It}(hI:Ro t c g)(ht:aY t.know)(hc:c.all dA=true):g.know=zo (t.know++L8 c):=by
 obtain⟨o1,o2⟩:=yt hc
 exact Ff (U9 hI.right).1 (ri _).1 λs r n=>by rw[ye ht o1,hI.has,o2]
theorem Ro.items {t g:Sta}{c:List It}(hI:Ro t c g)(ht:t.its.all dA=true)(hc:c.all dA=true):g.its=eJ [t.its++c]:=by
 refine Up.uniq (yu hI.right).2 (kp _).1 λk=>?_
 rw[(kp _).2.2,hI.look]
 rw[show([t.its++c]:List (List It)).flatten=t.its++c by simp,List.filter_append,jx ht,jx hc]
structure GtB (t:Sta)(c:List It):Prop where
 tb:WK t
 tr:oA t=true
 cl:c.length<=24
 cr:c.all dA=true
theorem GtB.B {t g:Sta}{c:List It}(h:GtB t c)(hI:Ro t c g):WB g/\g.its.length<=48/\g.flt.length<=8/\vk g.know 150 280:=by
 obtain⟨_,_,_,_,c5,c6,_⟩:=ru h.tr
 have hk:=hI.known c6 h.cr
 have hi:=hI.items (Fe c5) h.cr
 have hw:=(h.tb.kw.join (Yl h.cr) c6 (yt h.cr).1)
 rw[<-hk]at hw
 have hcl:=h.cl
 have il:=h.tb.il
 have fl:=h.tb.fl
 have hw2:=hw.le (c:=150) (d:=280) ae ae
 have hl:=AX [t.its++c]
 simp only[List.flatten_cons,List.flatten_nil,aan,aai]at hl
 rw[<-hi]at hl
 have hkl:=hw2.len
 have hkey:n8 g.its:=λx hx=>by
  have:=aaH.1 (yu hI.right).1 x hx
  unfold dA mj at this
  simp only[aaC,aaI]at this
  omega
 exact⟨⟨by rw[hI.flt];omega,hw2.mid bP bP,ae,ae,hkey⟩,ae,by rw[hI.flt];omega,hw2⟩
theorem vk.few {k:List Pc}{a b:Nat}(h:vk k a b)(hb:b<=4096):sq k:=λp hp x hx=>by
 have:=(h.set p hp).2
 have:=fE Kn.runs hx
 omega
theorem jW (m:Msg):(eV m).1.length<=40000:=by grind[eV,bv,B9]
theorem CQ (hB:uN m)(hs:m.sum<18446744073709551616)(h:(eV m).2=0):lW (eV m).1=(pg m,0)/\0<(eV m).1.length:=by
 unfold eV at h ⊢
 by_cases c:lK m=true
 ·rw[aae c]at h ⊢
  by_cases d:(gM m).length<=32768
  ·rw[aae d]
   refine⟨?_,by rw[B9];omega⟩
   unfold lW
   rw[PY d,aab (show ¬(0:Int)≠0 by decide)]
   exact R3 c hB.flt hB.kfew hB.kln hs (λp hp=>by have:=qt hp;omega)
  grind
 grind
theorem ZA {a b e:Int}(ha:1<=a)(ha2:bU a=true)(hb:bU b=true)(he:1<=e)(he2:bU e=true):(eV { kind:=6,ses:=a,num:=b,err:=e }).2=0:=by
 have hm:lK { kind:=6,ses:=a,num:=b,err:=e }=true:=by grind[lK]
 have hl:(gM { kind:=6,ses:=a,num:=b,err:=e }).length<=32768:=by
  have n1:=bv 6 bP
  have n2:=bv a (by grind[bU])
  have n3:=bv b (by grind[bU])
  have n4:=bv e (by grind[bU])
  unfold gM
  rw[show da { kind:=6,ses:=a,num:=b,err:=e }=[6,a,b,e]from rfl,show ew { kind:=6,ses:=a,num:=b,err:=e }=[]from rfl]
  simp
  omega
 grind[eV]
theorem I4 (a b:Int)(m:Msg):(oz a b m).length<=40000:=by grind[oz,AZ,jW]
theorem Sn {a b e:Int}(ha:1<=a)(ha2:bU a=true)(hb:bU b=true)(he:1<=e)(he2:bU e=true):oz a b { kind:=6,err:=e }=AZ a b e:=by
 unfold oz
 rw[aae (ZA ha ha2 hb he he2)]
 rfl
theorem Ym:∀{l:List It},(∀x∈l,dA x=true)->l.Pairwise (λx y=>x.key≠y.key)->Au l=true:=by
 intro l
 induction l<;>grind[List.pairwise_cons,Au]
theorem Sp {p:Pc}(h1:gg p.rg=true)(h2:ck p.set)(h3:∀x∈p.set,x.runs.length<=256):(xf p).length<=90000:=by
 have q1:=nz h1
 have q2:=qe (B:=BX) 5200 p.set (λk hk=>by
  have hf:=h3 k hk
  obtain⟨i,hi,rfl⟩:=List.getElem_of_mem hk
  obtain⟨a1,a2,a3⟩:=ic h2 hi
  have w1:=bv p.set[i].rep ae
  have w2:=bv (p.set[i].runs.length:Int) ae
  have w3:=Am p.set[i].runs 0 ae (λr hr=>by
   obtain⟨j,hj,rfl⟩:=List.getElem_of_mem hr
   exact(a3.2 j hj hj).1)
  grind[BX])
 have q3:=mT h2
 have q4:=bv (p.set.length:Int) ae
 grind[xf,kK]
theorem VM (hf:m.flt.length<=4096)(hw:vk m.know 700 256)(ht:m.there.length<=1000000)(hi:m.its.length<=4096):uN m:=by
 have hl:=hw.len
 refine⟨hf,dP (hw.mid bP bP),hw.few bP,ae,ht,hi,λp hp=>?_⟩
 have hkb:(if decide (aY m.know)then eu m.know else []).length<=300000000:=by
  by_cases c:aY m.know
  ·rw[aae (aao c)]
   have h1:=qe (B:=xf) 90000 m.know (λp hp=>by
    have hs:=(hw.set p hp).2
    grind[List.getElem_of_mem,qf,Sp,fE])
   have h3:=bv (m.know.length:Int) ae
   grind[eu]
  ·grind
 unfold mB at hp
 by_cases c1:m.kind=1
 ·grind[qc]
 simp only[aab c1]at hp
 by_cases c4:m.kind=4
 ·grind[qc,C1]
 simp only[aab c4]at hp
 by_cases c5:m.kind=5
 ·simp only[aae c5,aaU,abr,or_false]at hp
  grind[yO]
 grind
theorem ZB {s:Sta}{F:List Rg}{K:List Pc}{lim:Int}{R:List Rg}{hs:Int->Int->Bool}{M:List (List It)×List Pc×Int}(hM:gA s F K lim R hs=M)(h:M.2.2=0)(hr:oA s=true)(hl:WK s)(hF:F.length<=310)(l2:lim<=9223372036854775807) :
 0<M.1.length/\M.1.length<=24/\M.1.flatten.length<=24/\(∀c∈M.1,c.length<=24)/\∀a b:Int,1<=a->bU a=true->bU b=true->∀i<M.1.length,lK { tk M.1 M.2.1 i with ses:=a,num:=b }=true/\uN { tk M.1 M.2.1 i with ses:=a,num:=b }:=by
 subst hM
 obtain⟨h1,h2,h3,h4⟩:=Sk h
 obtain⟨_,_,_,_,_,h8,_⟩:=ru hr
 have hU:=wh s.its F K
 have hS:=uF R hs (jU s.its F K)
 have hi:=hl.il
 have hfl:=MJ l2 h2
 have hln:=Se l2 h2
 have hw:=(hl.kw.rest h8 F).le (c:=700) (d:=256) ae (aaf _)
 have hpw:(g8 R hs (jU s.its F K)).Pairwise λx y=>x.key≠y.key:=by
  refine((I3 R hs (jU s.its F K)).pairwise_iff (λ{x y} q e=>q e.symm)).2 ?_
  refine List.Pairwise.filter _ ((yu hr).2.imp λ{x y} q e=>?_)
  rw[pk,e,(sP _ _).2 rfl]at q
  omega
 have hall:∀x∈g8 R hs (jU s.its F K),dA x=true:=λx hx=>(CO h2 x hx).1
 generalize gA s F K lim R hs=M at *
 rw[h3,h4]
 generalize hB:uG lim (g8 R hs (jU s.its F K))=B at *
 have hc:∀c∈B,c.length<=24/\Au c=true:=λc hc=>by
  have q:=List.sublist_flatten_of_mem hc
  rw[hfl]at q
  have:=q.length_le
  grind[Ym]
 refine⟨ae,ae,by rw[hfl];omega,λc q=>(hc c q).1,λa b ha ha2 hb i hi=>?_⟩
 have hg:(B[i]?).getD []=B[i]:=by rw[aaa hi];rfl
 obtain⟨c1,c2⟩:=hc _ (aar hi)
 have hn:bU (i:Int)=true:=by grind[bU]
 have hok:=(lz s.know F).1
 unfold tk
 rw[hg]
 generalize cW s.know F=L at *
 have hwl:=hw.len
 split
 ·grind[lK,VM]
 ·exact⟨by grind[lK,ig],yP aA nP (λp hp=>by simp at hp) aA aA aL⟩
inductive Tr where
 | nil
 | node (l:Tr) (x:It) (own:Int) (r:Tr)
def Tr.dep:Tr->Nat
 | .nil=>0
 | .node l _ _ r=>1+max l.dep r.dep
def Tr.siz:Tr->Nat
 | .nil=>0
 | .node l _ _ r=>1+l.siz+r.siz
def Tr.tot:Tr->Int
 | .nil=>0
 | .node l _ o r=>IntKind.u64.wrap (IntKind.u64.wrap (o+l.tot)+r.tot)
theorem Tr.dep_le:∀t:Tr,t.dep<=t.siz
 | .nil=>aaf _
 | .node l _ _ r=>by have:=l.dep_le;have:=r.dep_le;grind[Tr.dep,Tr.siz]
def qz (v:Value)(h1:v.oneCell'=true)(h2:v.cells=#[v]):OV:=Uq (ai v) (dC h1 h2)
def qA:Tr->OV
 | .nil=>qz (.pointer none) rfl rfl
 | .node l x o r=>Lv 308 [qz (.string x.key) rfl rfl,qz (.int .i64 x.rep) rfl rfl,qz (.int .i64 x.cnt) rfl rfl,qz (.int .i64 x.rank) rfl rfl,qz (.int .i64 x.prio) rfl rfl,qz (.bool x.dead) rfl rfl,qz (.string x.body) rfl rfl,
  qA l,qA r,qz (.int .i64 ((Tr.node l x o r).dep:Nat)) rfl rfl,qz (.int .i64 ((Tr.node l x o r).siz:Nat)) rfl rfl,qz (.int .u64 o) rfl rfl,qz (.int .u64 (Tr.node l x o r).tot) rfl rfl]
def Bc:Tr->PV
 | .nil=>ai (.pointer none)
 | .node l x o r=>em (itP x++[Bc l,Bc r,ai (.int .i64 ((Tr.node l x o r).dep:Nat)),ai (.int .i64 ((Tr.node l x o r).siz:Nat)),ai (.int .u64 o),ai (.int .u64 (Tr.node l x o r).tot)])
theorem fq {v:Value}{h1:v.oneCell'=true}{h2:v.cells=#[v]}:nX (qz v h1 h2) (ai v):=Lw
theorem aR:∀t:Tr,nX (qA t) (Bc t)
 | .nil=>fq
 | .node l x o r=>by
  have h1:nX (qA l) (Bc l):=aR l
  have h2:nX (qA r) (Bc r):=aR r
  unfold qA Bc
  refine Hk ?_
  exact .cons fq (.cons fq (.cons fq (.cons fq (.cons fq (.cons fq (.cons fq (.cons h1 (.cons h2 (.cons fq (.cons fq (.cons fq (.cons fq .nil))))))))))))
def kP (v:Value)(h1:v.oneCell'=true)(h2:v.cells=#[v]):UC:=.p (ai v) (dC h1 h2)
def na (i j:Nat)(l r:Tr)(x:It)(o d m s:Int):List UC:=[kP (.string x.key) rfl rfl,kP (.int .i64 x.rep) rfl rfl,kP (.int .i64 x.cnt) rfl rfl,kP (.int .i64 x.rank) rfl rfl,kP (.int .i64 x.prio) rfl rfl,kP (.bool x.dead) rfl rfl,kP (.string x.body) rfl rfl,
 .o i (qA l),.o j (qA r),kP (.int .i64 d) rfl rfl,kP (.int .i64 m) rfl rfl,kP (.int .u64 o) rfl rfl,kP (.int .u64 s) rfl rfl]
abbrev ZC (cl cr:Cnt)(x:It)(o d m s:Int):List Cnt:=[sC x.key,iC .i64 x.rep,iC .i64 x.cnt,iC .i64 x.rank,iC .i64 x.prio,bC x.dead,sC x.body,cl,cr,iC .i64 d,iC .i64 m,iC .u64 o,iC .u64 s]
abbrev FQ (cl cr:Cnt)(x:It)(o d m s:Int):Blk:=.box 308 (ZC cl cr x o d m s)
theorem rB {S:St}{i j:Nat}{l r:Tr}{x:It}{o d m s:Int}(h1:S.blk i=.obj (qA l))(h2:S.blk j=.obj (qA r)):nH S (na i j l r x o d m s):=
 .p (.p (.p (.p (.p (.p (.p (.o h1 (.o h2 (.p (.p (.p (.p .nil))))))))))))
section
variable {P:Program} {n:Nat} {ops:Array Oper} {o:Oper} {S:St} {t:Nat}
theorem dm {ids:List Nat}{x:Operand}{id vr:Nat}{O:OV}{A:PV}(hx:S.opd x=.row id vr)(hv:S.ver id=vr)(hb:S.blk id=.obj O)(hl:nX O A)(hi:pd id ids=true):jp (ej S x++ul ids) S ids x (.per A):=Ex hx (.obj hv hb hl hi)
end
theorem jA (t:Tr):Fn prog 307 [.per (Bc t)] (eA ((t.dep:Nat):Int)):=by
 cases t with
 | nil=>
  show Fn prog _ [.per (ai (.pointer none))] _
  refine fi func307 ntmps307 ?_
  (refine w0 ?_;refine ah λhc=>?_)
  exact uZ
 | node l x o r=>
  unfold Bc
  refine fi func307 ntmps307 ?_
  (refine w0 ?_;refine ah λhc=>?_)
  exact uZ
theorem lD (t:Tr):Fn prog 234 [.per (Bc t)] (eA ((t.siz:Nat):Int)):=by
 cases t with
 | nil=>
  show Fn prog _ [.per (ai (.pointer none))] _
  refine fi func234 ntmps234 ?_
  (refine w0 ?_;refine ah λhc=>?_)
  exact uZ
 | node l x o r=>
  unfold Bc
  refine fi func234 ntmps234 ?_
  (refine w0 ?_;refine ah λhc=>?_)
  exact uZ
theorem pu (t:Tr):Fn prog 308 [.per (Bc t)] (.per (ai (.int .u64 t.tot))):=by
 cases t with
 | nil=>
  show Fn prog _ [.per (ai (.pointer none))] _
  refine fi func308 ntmps308 ?_
  (refine w0 ?_;refine ah λhc=>?_)
  exact Nj
 | node l x o r=>
  unfold Bc
  refine fi func308 ntmps308 ?_
  (refine w0 ?_;refine ah λhc=>?_)
  exact Nj
theorem yQ (l r:Tr)(x:It)(o d m s:Int)(hs:(Tr.node l x o r).siz<=1000000) :
 bZ prog 262 [.ptr 2000 0 0] [(2000,FQ (.row 2010 0) (.row 2011 0) x o d m s),(2010,.obj (qA l)),(2011,.obj (qA r))] (.row 3000 0) [(3000,.obj (qA (.node l x o r)))]:=by
 have h1:=jA l
 have h2:=jA r
 have h3:=lD l
 have h4:=lD r
 have h5:=pu l
 have h6:=pu r
 have b1:=l.dep_le
 have b2:=r.dep_le
 have hs':1+l.siz+r.siz<=1000000:=hs
 have hd:(1:Int)+(if((r.dep:Nat):Int)>((l.dep:Nat):Int)then((r.dep:Nat):Int)else((l.dep:Nat):Int))=(((Tr.node l x o r).dep:Nat):Int):=by grind[Tr.dep]
 have hm:(1:Int)+((l.siz:Nat):Int)+((r.siz:Nat):Int)=(((Tr.node l x o r).siz:Nat):Int):=by grind[Tr.siz]
 refine cp func262 ntmps262 ?_
 (refine oX hd hm ?_;repeat' ((first|apply aH rfl|apply aJ rfl);(focus (try apply ag rfl rfl rfl rfl rfl);first|((refine um (ids:=[2010]) (h1) (hg:=?_);(refine jf.cons ?_ jf.nil;first|exact dm rfl rfl rfl (aR _) rfl|exact dj rfl|(refine dl rfl rfl rfl rfl ?_;(focus (repeat (first|exact cd.nil|(refine cd.cons ?_ ?_;(focus (first|exact cc.per|exact cc.obj rfl rfl (aR _) rfl|exact cc.row rfl rfl rfl))))))))))|((refine um (ids:=[2011]) (h2) (hg:=?_);(refine jf.cons ?_ jf.nil;first|exact dm rfl rfl rfl (aR _) rfl|exact dj rfl|(refine dl rfl rfl rfl rfl ?_;(focus (repeat (first|exact cd.nil|(refine cd.cons ?_ ?_;(focus (first|exact cc.per|exact cc.obj rfl rfl (aR _) rfl|exact cc.row rfl rfl rfl))))))))))|((refine um (ids:=[2010]) (h3) (hg:=?_);(refine jf.cons ?_ jf.nil;first|exact dm rfl rfl rfl (aR _) rfl|exact dj rfl|(refine dl rfl rfl rfl rfl ?_;(focus (repeat (first|exact cd.nil|(refine cd.cons ?_ ?_;(focus (first|exact cc.per|exact cc.obj rfl rfl (aR _) rfl|exact cc.row rfl rfl rfl))))))))))|((refine um (ids:=[2011]) (h4) (hg:=?_);(refine jf.cons ?_ jf.nil;first|exact dm rfl rfl rfl (aR _) rfl|exact dj rfl|(refine dl rfl rfl rfl rfl ?_;(focus (repeat (first|exact cd.nil|(refine cd.cons ?_ ?_;(focus (first|exact cc.per|exact cc.obj rfl rfl (aR _) rfl|exact cc.row rfl rfl rfl))))))))))|((refine um (ids:=[2010]) (h5) (hg:=?_);(refine jf.cons ?_ jf.nil;first|exact dm rfl rfl rfl (aR _) rfl|exact dj rfl|(refine dl rfl rfl rfl rfl ?_;(focus (repeat (first|exact cd.nil|(refine cd.cons ?_ ?_;(focus (first|exact cc.per|exact cc.obj rfl rfl (aR _) rfl|exact cc.row rfl rfl rfl))))))))))|((refine um (ids:=[2011]) (h6) (hg:=?_);(refine jf.cons ?_ jf.nil;first|exact dm rfl rfl rfl (aR _) rfl|exact dj rfl|(refine dl rfl rfl rfl rfl ?_;(focus (repeat (first|exact cd.nil|(refine cd.cons ?_ ?_;(focus (first|exact cc.per|exact cc.obj rfl rfl (aR _) rfl|exact cc.row rfl rfl rfl)))))))))));refine oX hd hm ?_))
 refine⟨.inl rfl,pW (vR 2000 _ 308 (na 2010 2011 l r x o (Tr.node l x o r).dep (Tr.node l x o r).siz (Tr.node l x o r).tot) rfl rfl (rB rfl rfl) rfl) ?_⟩
 refine dv [(2000,3000)] rfl rfl ?_ (nd rfl rfl)
 (repeat (first|exact bG.nil|(refine bG.cons rfl ?_ ?_;(focus first|rfl|skip))))
theorem nQ (ll lr r:Tr)(lx x:It)(lo o d m s:Int)(hs:(Tr.node (.node ll lx lo lr) x o r).siz<=1000000) :
 bZ prog 310 [.ptr 2000 0 0] [(2000,FQ (.row 2010 0) (.row 2011 0) x o d m s),(2010,.obj (qA (.node ll lx lo lr))),(2011,.obj (qA r))] (.row 3000 0) [(3000,.obj (qA (.node ll lx lo (.node lr x o r))))]:=by
 have f1:=yQ lr r x o d m s (by grind[Tr.siz])
 have f2:=yQ ll (.node lr x o r) lx lo (Tr.node ll lx lo lr).dep (Tr.node ll lx lo lr).siz (Tr.node ll lx lo lr).tot (by grind[Tr.siz])
 refine cp func310 ntmps310 ?_
 refine bw (nG 2010 0 308 (na 2012 2013 ll lr lx lo (Tr.node ll lx lo lr).dep (Tr.node ll lx lo lr).siz (Tr.node ll lx lo lr).tot) rfl rfl rfl) ?_
 (refine nT (gn [(2000,2000),(2010,2013),(2011,2011),(3000,2020)] f1) (gn [(2000,2010),(2010,2012),(2011,2020),(3000,2030)] f2) ?_)
 refine⟨.inl rfl,dv [(2030,3000)] rfl rfl ?_ (nd rfl rfl)⟩
 (repeat (first|exact bG.nil|(refine bG.cons rfl ?_ ?_;(focus first|rfl|skip))))
theorem pv (l rl rr:Tr)(rx x:It)(ro o d m s:Int)(hs:(Tr.node l x o (.node rl rx ro rr)).siz<=1000000) :
 bZ prog 309 [.ptr 2000 0 0] [(2000,FQ (.row 2010 0) (.row 2011 0) x o d m s),(2010,.obj (qA l)),(2011,.obj (qA (.node rl rx ro rr)))] (.row 3000 0) [(3000,.obj (qA (.node (.node l x o rl) rx ro rr)))]:=by
 have f1:=yQ l rl x o d m s (by grind[Tr.siz])
 have f2:=yQ (.node l x o rl) rr rx ro (Tr.node rl rx ro rr).dep (Tr.node rl rx ro rr).siz (Tr.node rl rx ro rr).tot (by grind[Tr.siz])
 refine cp func309 ntmps309 ?_
 refine bw (nG 2011 0 308 (na 2012 2013 rl rr rx ro (Tr.node rl rx ro rr).dep (Tr.node rl rx ro rr).siz (Tr.node rl rx ro rr).tot) rfl rfl rfl) ?_
 (refine nT (gn [(2000,2000),(2010,2010),(2011,2012),(3000,2020)] f1) (gn [(2000,2011),(2010,2020),(2011,2013),(3000,2030)] f2) ?_)
 refine⟨.inl rfl,dv [(2030,3000)] rfl rfl ?_ (nd rfl rfl)⟩
 (repeat (first|exact bG.nil|(refine bG.cons rfl ?_ ?_;(focus first|rfl|skip))))
def yR:Tr->Tr
 | .node (.node ll lx lo lr) x o r=>.node ll lx lo (.node lr x o r)
 | t=>t
def yS:Tr->Tr
 | .node l x o (.node rl rx ro rr)=>.node (.node l x o rl) rx ro rr
 | t=>t
def Tr.lt:Tr->Tr
 | .nil=>.nil
 | .node l _ _ _=>l
def Tr.rt:Tr->Tr
 | .nil=>.nil
 | .node _ _ _ r=>r
def gJ (l:Tr)(x:It)(o:Int)(r:Tr):Tr:=
 if l.dep>r.dep+1 then(if l.lt.dep<l.rt.dep then yR (.node (yS l) x o r)else yR (.node l x o r))
 else if r.dep>l.dep+1 then(if r.rt.dep<r.lt.dep then yS (.node l x o (yR r))else yS (.node l x o r))
 else .node l x o r
theorem MP (t:Tr):(yR t).siz=t.siz:=by unfold yR;split<;>simp only[Tr.siz]<;>omega
theorem MQ (t:Tr):(yS t).siz=t.siz:=by unfold yS;split<;>simp only[Tr.siz]<;>omega
theorem wk {t:Tr}(h:0<t.dep):∃l x o r,t=.node l x o r:=by cases t<;>grind[Tr.dep]
theorem yT (l r:Tr)(x:It)(o d m s:Int)(hs:(Tr.node l x o r).siz<=1000000) :
 bZ prog 263 [.ptr 2000 0 0] [(2000,FQ (.row 2010 0) (.row 2011 0) x o d m s),(2010,.obj (qA l)),(2011,.obj (qA r))] (.row 3000 0) [(3000,.obj (qA (gJ l x o r)))]:=by
 have b1:=l.dep_le
 have b2:=r.dep_le
 have hs':1+l.siz+r.siz<=1000000:=hs
 have h1:=jA l
 have h2:=jA r
 by_cases c1:l.dep>r.dep+1
 ·obtain⟨ll,lx,lo,lr,rfl⟩:=wk (t:=l) ae
  have h3:=jA ll
  have h4:=jA lr
  by_cases c2:ll.dep<lr.dep
  ·obtain⟨al,ax,ao,ar,rfl⟩:=wk (t:=lr) ae
   have hL:gJ (.node ll lx lo (.node al ax ao ar)) x o r=.node (.node ll lx lo al) ax ao (.node ar x o r):=by
    unfold gJ
    rw[aae c1,aae (show(Tr.lt (.node ll lx lo (.node al ax ao ar))).dep<(Tr.rt (.node ll lx lo (.node al ax ao ar))).dep from c2)];rfl
   rw[hL]
   have t1:=pv ll al ar ax lx ao lo (Tr.node ll lx lo (.node al ax ao ar)).dep (Tr.node ll lx lo (.node al ax ao ar)).siz (Tr.node ll lx lo (.node al ax ao ar)).tot (by grind)
   have t2:=nQ (.node ll lx lo al) ar r ax x ao o d m s (by grind[Tr.siz])
   clear hL
   refine cp func263 ntmps263 ?_
   refine bw (nG 2010 0 308 (na 2012 2013 ll (.node al ax ao ar) lx lo (Tr.node ll lx lo (.node al ax ao ar)).dep (Tr.node ll lx lo (.node al ax ao ar)).siz (Tr.node ll lx lo (.node al ax ao ar)).tot) rfl rfl rfl) ?_
   (refine nT (gn [(2000,2010),(2010,2012),(2011,2013),(3000,2020)] t1) (gn [(2000,2000),(2010,2020),(2011,2011),(3000,2030)] t2) ?_;repeat' first|apply aw|refine ah λhc=>?_|((first|apply aH rfl|apply aJ rfl);(focus (try apply ag rfl rfl rfl rfl rfl);first|((refine um (ids:=[2010,2012,2013]) (h1) (hg:=?_);(refine jf.cons ?_ jf.nil;first|exact dm rfl rfl rfl (aR _) rfl|exact dj rfl|(refine dl rfl rfl rfl rfl ?_;(focus (repeat (first|exact cd.nil|(refine cd.cons ?_ ?_;(focus (first|exact cc.per|exact cc.obj rfl rfl (aR _) rfl|exact cc.row rfl rfl rfl))))))))))|((refine um (ids:=[2011]) (h2) (hg:=?_);(refine jf.cons ?_ jf.nil;first|exact dm rfl rfl rfl (aR _) rfl|exact dj rfl|(refine dl rfl rfl rfl rfl ?_;(focus (repeat (first|exact cd.nil|(refine cd.cons ?_ ?_;(focus (first|exact cc.per|exact cc.obj rfl rfl (aR _) rfl|exact cc.row rfl rfl rfl))))))))))|((refine um (ids:=[2012]) (h3) (hg:=?_);(refine jf.cons ?_ jf.nil;first|exact dm rfl rfl rfl (aR _) rfl|exact dj rfl|(refine dl rfl rfl rfl rfl ?_;(focus (repeat (first|exact cd.nil|(refine cd.cons ?_ ?_;(focus (first|exact cc.per|exact cc.obj rfl rfl (aR _) rfl|exact cc.row rfl rfl rfl))))))))))|((refine um (ids:=[2013]) (h4) (hg:=?_);(refine jf.cons ?_ jf.nil;first|exact dm rfl rfl rfl (aR _) rfl|exact dj rfl|(refine dl rfl rfl rfl rfl ?_;(focus (repeat (first|exact cd.nil|(refine cd.cons ?_ ?_;(focus (first|exact cc.per|exact cc.obj rfl rfl (aR _) rfl|exact cc.row rfl rfl rfl)))))))))));refine nT (gn [(2000,2010),(2010,2012),(2011,2013),(3000,2020)] t1) (gn [(2000,2000),(2010,2020),(2011,2011),(3000,2030)] t2) ?_))
   refine⟨.inl rfl,dv [(2030,3000)] rfl rfl ?_ (nd rfl rfl)⟩
   (repeat (first|exact bG.nil|(refine bG.cons rfl ?_ ?_;(focus first|rfl|skip))))
  ·have hL:gJ (.node ll lx lo lr) x o r=.node ll lx lo (.node lr x o r):=by
    unfold gJ
    rw[aae c1,aab (show ¬(Tr.lt (.node ll lx lo lr)).dep<(Tr.rt (.node ll lx lo lr)).dep from c2)];rfl
   rw[hL]
   have t2:=nQ ll lr r lx x lo o d m s (by grind)
   clear hL
   refine cp func263 ntmps263 ?_
   refine bw (nG 2010 0 308 (na 2012 2013 ll lr lx lo (Tr.node ll lx lo lr).dep (Tr.node ll lx lo lr).siz (Tr.node ll lx lo lr).tot) rfl rfl rfl) ?_
   (refine w0 ?_;repeat' first|apply aw|refine ah λhc=>?_|((first|apply aH rfl|apply aJ rfl);(focus (try apply ag rfl rfl rfl rfl rfl);first|((refine um (ids:=[2010,2012,2013]) (h1) (hg:=?_);(refine jf.cons ?_ jf.nil;first|exact dm rfl rfl rfl (aR _) rfl|exact dj rfl|(refine dl rfl rfl rfl rfl ?_;(focus (repeat (first|exact cd.nil|(refine cd.cons ?_ ?_;(focus (first|exact cc.per|exact cc.obj rfl rfl (aR _) rfl|exact cc.row rfl rfl rfl))))))))))|((refine um (ids:=[2011]) (h2) (hg:=?_);(refine jf.cons ?_ jf.nil;first|exact dm rfl rfl rfl (aR _) rfl|exact dj rfl|(refine dl rfl rfl rfl rfl ?_;(focus (repeat (first|exact cd.nil|(refine cd.cons ?_ ?_;(focus (first|exact cc.per|exact cc.obj rfl rfl (aR _) rfl|exact cc.row rfl rfl rfl))))))))))|((refine um (ids:=[2012]) (h3) (hg:=?_);(refine jf.cons ?_ jf.nil;first|exact dm rfl rfl rfl (aR _) rfl|exact dj rfl|(refine dl rfl rfl rfl rfl ?_;(focus (repeat (first|exact cd.nil|(refine cd.cons ?_ ?_;(focus (first|exact cc.per|exact cc.obj rfl rfl (aR _) rfl|exact cc.row rfl rfl rfl))))))))))|((refine um (ids:=[2013]) (h4) (hg:=?_);(refine jf.cons ?_ jf.nil;first|exact dm rfl rfl rfl (aR _) rfl|exact dj rfl|(refine dl rfl rfl rfl rfl ?_;(focus (repeat (first|exact cd.nil|(refine cd.cons ?_ ?_;(focus (first|exact cc.per|exact cc.obj rfl rfl (aR _) rfl|exact cc.row rfl rfl rfl)))))))))));refine w0 ?_))
   refine aV (vR 2010 _ 308 (na 2012 2013 ll lr lx lo (Tr.node ll lx lo lr).dep (Tr.node ll lx lo lr).siz (Tr.node ll lx lo lr).tot) rfl rfl (rB rfl rfl) rfl) ?_
   (refine ee (gn [(2000,2000),(2010,2010),(2011,2011),(3000,2030)] t2) ?_)
   refine⟨.inl rfl,dv [(2030,3000)] rfl rfl ?_ (nd rfl rfl)⟩
   (repeat (first|exact bG.nil|(refine bG.cons rfl ?_ ?_;(focus first|rfl|skip))))
 ·by_cases c3:r.dep>l.dep+1
  ·obtain⟨rl,rx,ro,rr,rfl⟩:=wk (t:=r) ae
   have h3:=jA rl
   have h4:=jA rr
   by_cases c2:rr.dep<rl.dep
   ·obtain⟨al,ax,ao,ar,rfl⟩:=wk (t:=rl) ae
    have hL:gJ l x o (.node (.node al ax ao ar) rx ro rr)=.node (.node l x o al) ax ao (.node ar rx ro rr):=by
     unfold gJ
     rw[aab c1,aae c3,aae (show(Tr.rt (.node (.node al ax ao ar) rx ro rr)).dep<(Tr.lt (.node (.node al ax ao ar) rx ro rr)).dep from c2)];rfl
    rw[hL]
    have t1:=nQ al ar rr ax rx ao ro (Tr.node (.node al ax ao ar) rx ro rr).dep (Tr.node (.node al ax ao ar) rx ro rr).siz (Tr.node (.node al ax ao ar) rx ro rr).tot (by grind)
    have t2:=pv l al (.node ar rx ro rr) ax x ao o d m s (by grind[Tr.siz])
    clear hL
    refine cp func263 ntmps263 ?_
    refine bw (nG 2011 0 308 (na 2012 2013 (.node al ax ao ar) rr rx ro (Tr.node (.node al ax ao ar) rx ro rr).dep (Tr.node (.node al ax ao ar) rx ro rr).siz (Tr.node (.node al ax ao ar) rx ro rr).tot) rfl rfl rfl) ?_
    (refine nT (gn [(2000,2011),(2010,2012),(2011,2013),(3000,2020)] t1) (gn [(2000,2000),(2010,2010),(2011,2020),(3000,2030)] t2) ?_;repeat' first|apply aw|refine ah λhc=>?_|((first|apply aH rfl|apply aJ rfl);(focus (try apply ag rfl rfl rfl rfl rfl);first|((refine um (ids:=[2010]) (h1) (hg:=?_);(refine jf.cons ?_ jf.nil;first|exact dm rfl rfl rfl (aR _) rfl|exact dj rfl|(refine dl rfl rfl rfl rfl ?_;(focus (repeat (first|exact cd.nil|(refine cd.cons ?_ ?_;(focus (first|exact cc.per|exact cc.obj rfl rfl (aR _) rfl|exact cc.row rfl rfl rfl))))))))))|((refine um (ids:=[2011,2012,2013]) (h2) (hg:=?_);(refine jf.cons ?_ jf.nil;first|exact dm rfl rfl rfl (aR _) rfl|exact dj rfl|(refine dl rfl rfl rfl rfl ?_;(focus (repeat (first|exact cd.nil|(refine cd.cons ?_ ?_;(focus (first|exact cc.per|exact cc.obj rfl rfl (aR _) rfl|exact cc.row rfl rfl rfl))))))))))|((refine um (ids:=[2012]) (h3) (hg:=?_);(refine jf.cons ?_ jf.nil;first|exact dm rfl rfl rfl (aR _) rfl|exact dj rfl|(refine dl rfl rfl rfl rfl ?_;(focus (repeat (first|exact cd.nil|(refine cd.cons ?_ ?_;(focus (first|exact cc.per|exact cc.obj rfl rfl (aR _) rfl|exact cc.row rfl rfl rfl))))))))))|((refine um (ids:=[2013]) (h4) (hg:=?_);(refine jf.cons ?_ jf.nil;first|exact dm rfl rfl rfl (aR _) rfl|exact dj rfl|(refine dl rfl rfl rfl rfl ?_;(focus (repeat (first|exact cd.nil|(refine cd.cons ?_ ?_;(focus (first|exact cc.per|exact cc.obj rfl rfl (aR _) rfl|exact cc.row rfl rfl rfl)))))))))));refine nT (gn [(2000,2011),(2010,2012),(2011,2013),(3000,2020)] t1) (gn [(2000,2000),(2010,2010),(2011,2020),(3000,2030)] t2) ?_))
    refine⟨.inl rfl,dv [(2030,3000)] rfl rfl ?_ (nd rfl rfl)⟩
    (repeat (first|exact bG.nil|(refine bG.cons rfl ?_ ?_;(focus first|rfl|skip))))
   ·have hL:gJ l x o (.node rl rx ro rr)=.node (.node l x o rl) rx ro rr:=by
     unfold gJ
     rw[aab c1,aae c3,aab (show ¬(Tr.rt (.node rl rx ro rr)).dep<(Tr.lt (.node rl rx ro rr)).dep from c2)];rfl
    rw[hL]
    have t2:=pv l rl rr rx x ro o d m s (by grind)
    clear hL
    refine cp func263 ntmps263 ?_
    refine bw (nG 2011 0 308 (na 2012 2013 rl rr rx ro (Tr.node rl rx ro rr).dep (Tr.node rl rx ro rr).siz (Tr.node rl rx ro rr).tot) rfl rfl rfl) ?_
    (refine w0 ?_;repeat' first|apply aw|refine ah λhc=>?_|((first|apply aH rfl|apply aJ rfl);(focus (try apply ag rfl rfl rfl rfl rfl);first|((refine um (ids:=[2010]) (h1) (hg:=?_);(refine jf.cons ?_ jf.nil;first|exact dm rfl rfl rfl (aR _) rfl|exact dj rfl|(refine dl rfl rfl rfl rfl ?_;(focus (repeat (first|exact cd.nil|(refine cd.cons ?_ ?_;(focus (first|exact cc.per|exact cc.obj rfl rfl (aR _) rfl|exact cc.row rfl rfl rfl))))))))))|((refine um (ids:=[2011,2012,2013]) (h2) (hg:=?_);(refine jf.cons ?_ jf.nil;first|exact dm rfl rfl rfl (aR _) rfl|exact dj rfl|(refine dl rfl rfl rfl rfl ?_;(focus (repeat (first|exact cd.nil|(refine cd.cons ?_ ?_;(focus (first|exact cc.per|exact cc.obj rfl rfl (aR _) rfl|exact cc.row rfl rfl rfl))))))))))|((refine um (ids:=[2012]) (h3) (hg:=?_);(refine jf.cons ?_ jf.nil;first|exact dm rfl rfl rfl (aR _) rfl|exact dj rfl|(refine dl rfl rfl rfl rfl ?_;(focus (repeat (first|exact cd.nil|(refine cd.cons ?_ ?_;(focus (first|exact cc.per|exact cc.obj rfl rfl (aR _) rfl|exact cc.row rfl rfl rfl))))))))))|((refine um (ids:=[2013]) (h4) (hg:=?_);(refine jf.cons ?_ jf.nil;first|exact dm rfl rfl rfl (aR _) rfl|exact dj rfl|(refine dl rfl rfl rfl rfl ?_;(focus (repeat (first|exact cd.nil|(refine cd.cons ?_ ?_;(focus (first|exact cc.per|exact cc.obj rfl rfl (aR _) rfl|exact cc.row rfl rfl rfl)))))))))));refine w0 ?_))
    refine aV (vR 2011 _ 308 (na 2012 2013 rl rr rx ro (Tr.node rl rx ro rr).dep (Tr.node rl rx ro rr).siz (Tr.node rl rx ro rr).tot) rfl rfl (rB rfl rfl) rfl) ?_
    (refine ee (gn [(2000,2000),(2010,2010),(2011,2011),(3000,2030)] t2) ?_)
    refine⟨.inl rfl,dv [(2030,3000)] rfl rfl ?_ (nd rfl rfl)⟩
    (repeat (first|exact bG.nil|(refine bG.cons rfl ?_ ?_;(focus first|rfl|skip))))
  ·have hL:gJ l x o r=.node l x o r:=by grind[gJ]
   rw[hL]
   have f:=yQ l r x o d m s hs
   clear hL
   refine cp func263 ntmps263 ?_
   (refine ee (gn [(2000,2000),(2010,2010),(2011,2011),(3000,2030)] f) ?_;repeat' first|apply aw|refine ah λhc=>?_|((first|apply aH rfl|apply aJ rfl);(focus (try apply ag rfl rfl rfl rfl rfl);first|((refine um (ids:=[2010]) (h1) (hg:=?_);(refine jf.cons ?_ jf.nil;first|exact dm rfl rfl rfl (aR _) rfl|exact dj rfl|(refine dl rfl rfl rfl rfl ?_;(focus (repeat (first|exact cd.nil|(refine cd.cons ?_ ?_;(focus (first|exact cc.per|exact cc.obj rfl rfl (aR _) rfl|exact cc.row rfl rfl rfl))))))))))|((refine um (ids:=[2011]) (h2) (hg:=?_);(refine jf.cons ?_ jf.nil;first|exact dm rfl rfl rfl (aR _) rfl|exact dj rfl|(refine dl rfl rfl rfl rfl ?_;(focus (repeat (first|exact cd.nil|(refine cd.cons ?_ ?_;(focus (first|exact cc.per|exact cc.obj rfl rfl (aR _) rfl|exact cc.row rfl rfl rfl)))))))))));refine ee (gn [(2000,2000),(2010,2010),(2011,2011),(3000,2030)] f) ?_))
   refine⟨.inl rfl,dv [(2030,3000)] rfl rfl ?_ (nd rfl rfl)⟩
   (repeat (first|exact bG.nil|(refine bG.cons rfl ?_ ?_;(focus first|rfl|skip))))
def qB:Tr->It->Int->Tr
 | .nil,x,o=>.node .nil x o .nil
 | .node l y p r,x,o=>if cG x.key y.key<0 then gJ (qB l x o) y p r else if cG x.key y.key>0 then gJ l y p (qB r x o)else gJ l x o r
theorem I5 (l:Tr)(x:It)(o:Int)(r:Tr):(gJ l x o r).siz=1+l.siz+r.siz:=by grind[gJ,MP,Tr.siz,MQ]
theorem pw:∀(t:Tr)(x:It)(o:Int),(qB t x o).siz<=t.siz+1
 | .nil,x,o=>by simp[qB,Tr.siz]
 | .node l y p r,x,o=>by
  have h1:=pw l x o
  have h2:=pw r x o
  grind[qB,I5,Tr.siz]
def ZD (x:It)(o d m s:Int):List UC:=[kP (.string x.key) rfl rfl,kP (.int .i64 x.rep) rfl rfl,kP (.int .i64 x.cnt) rfl rfl,kP (.int .i64 x.rank) rfl rfl,kP (.int .i64 x.prio) rfl rfl,kP (.bool x.dead) rfl rfl,kP (.string x.body) rfl rfl,
 kP (.pointer none) rfl rfl,kP (.pointer none) rfl rfl,kP (.int .i64 d) rfl rfl,kP (.int .i64 m) rfl rfl,kP (.int .u64 o) rfl rfl,kP (.int .u64 s) rfl rfl]
theorem VN (x:It)(o d m s:Int) :
 bZ prog 262 [.ptr 2000 0 0] [(2000,FQ (.per (ai (.pointer none))) (.per (ai (.pointer none))) x o d m s)] (.row 3000 0) [(3000,.obj (qA (.node .nil x o .nil)))]:=by
 have h1:Fn prog 307 [.per (ai (.pointer none))] (eA 0):=jA .nil
 have h3:Fn prog 234 [.per (ai (.pointer none))] (eA 0):=lD .nil
 have h5:Fn prog 308 [.per (ai (.pointer none))] (.per (ai (.int .u64 0))):=pu .nil
 refine cp func262 ntmps262 ?_
 (refine fF h1 h3 h5 ?_)
 refine⟨.inl rfl,pW (vR 2000 _ 308 (ZD x o 1 1 (Tr.node .nil x o .nil).tot) rfl rfl (.p (.p (.p (.p (.p (.p (.p (.p (.p (.p (.p (.p (.p .nil))))))))))))) rfl) ?_⟩
 refine dv [(2000,3000)] rfl rfl ?_ (nd rfl rfl)
 (repeat (first|exact bG.nil|(refine bG.cons rfl ?_ ?_;(focus first|rfl|skip))))
theorem I6:∀(t:Tr)(x:It)(o:Int),t.siz<=900000->x.key.size<=1000000000->bZ prog 228 [.row 2000 0,vq x,iC .u64 o] [(2000,.obj (qA t))] (.row 3000 0) [(3000,.obj (qA (qB t x o)))]
 | .nil,x,o,hs,hk=>by
  have f:=VN x o 0 0 0
  unfold qB
  refine cp func228 ntmps228 ?_
  refine bw (Ut 2000 0 (A:=ai (.pointer none)) rfl rfl) ?_
  (refine ee (gn [(2000,13),(3000,2030)] f) ?_;refine ah λhc=>?_)
  refine⟨.inl rfl,dv [(2030,3000)] rfl rfl ?_ (nd rfl rfl)⟩
  (repeat (first|exact bG.nil|(refine bG.cons rfl ?_ ?_;(focus first|rfl|skip))))
 | .node l y p r,x,o,hs,hk=>by
  have g1:=I6 l x o (by grind[Tr.siz]) hk
  have g2:=I6 r x o (by grind[Tr.siz]) hk
  have s1:=pw l x o
  have s2:=pw r x o
  have hkc:=hY x.key y.key ae
  have l1:=yT (qB l x o) r y p (Tr.node l y p r).dep (Tr.node l y p r).siz (Tr.node l y p r).tot (by grind[Tr.siz])
  have l2:=yT l (qB r x o) y p (Tr.node l y p r).dep (Tr.node l y p r).siz (Tr.node l y p r).tot (by grind[Tr.siz])
  have l3:=yT l r x o (Tr.node l y p r).dep (Tr.node l y p r).siz (Tr.node l y p r).tot (by grind[Tr.siz])
  unfold qB
  by_cases c1:cG x.key y.key<0
  ·rw[aae c1]
   refine cp func228 ntmps228 ?_
   refine bw (nG 2000 0 308 (na 2010 2011 l r y p (Tr.node l y p r).dep (Tr.node l y p r).siz (Tr.node l y p r).tot) rfl rfl rfl) ?_
   (refine r8 hkc (gn [(2000,2010),(3000,2020)] g1) (gn [(2000,2000),(2010,2020),(2011,2011),(3000,2030)] l1) ?_;repeat' first|apply aw|refine ah λhc=>?_)
   refine⟨.inl rfl,dv [(2030,3000)] rfl rfl ?_ (nd rfl rfl)⟩
   (repeat (first|exact bG.nil|(refine bG.cons rfl ?_ ?_;(focus first|rfl|skip))))
  ·rw[aab c1]
   by_cases c2:cG x.key y.key>0
   ·rw[aae c2]
    refine cp func228 ntmps228 ?_
    refine bw (nG 2000 0 308 (na 2010 2011 l r y p (Tr.node l y p r).dep (Tr.node l y p r).siz (Tr.node l y p r).tot) rfl rfl rfl) ?_
    (refine r8 hkc (gn [(2000,2011),(3000,2020)] g2) (gn [(2000,2000),(2010,2010),(2011,2020),(3000,2030)] l2) ?_;repeat' first|apply aw|refine ah λhc=>?_)
    refine⟨.inl rfl,dv [(2030,3000)] rfl rfl ?_ (nd rfl rfl)⟩
    (repeat (first|exact bG.nil|(refine bG.cons rfl ?_ ?_;(focus first|rfl|skip))))
   ·rw[aab c2]
    refine cp func228 ntmps228 ?_
    refine bw (nG 2000 0 308 (na 2010 2011 l r y p (Tr.node l y p r).dep (Tr.node l y p r).siz (Tr.node l y p r).tot) rfl rfl rfl) ?_
    (refine ld hkc (gn [(2000,2000),(2010,2010),(2011,2011),(3000,2030)] l3) ?_;repeat' first|apply aw|refine ah λhc=>?_)
    refine⟨.inl rfl,dv [(2030,3000)] rfl rfl ?_ (nd rfl rfl)⟩
    (repeat (first|exact bG.nil|(refine bG.cons rfl ?_ ?_;(focus first|rfl|skip))))
