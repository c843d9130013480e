/- Texts joined: MsX MsY MsZ MsF MsG. -/
import Derived.Test.YtaclhhkblbacgaaGreatJ42
set_option maxRecDepth 10000
set_option maxHeartbeats 8000000
namespace Go.Proofs.YtaclhhkblbacgaaGreat
open Go.RowKit Go.Proofs.Tryz
variable {l:List UInt8}
structure wg (m:Msg):Prop where
 flt:m.flt.length≤4096
 ksz:fe m.know
 kfew:sV m.know
 kln:m.know.length≤4096
 thr:m.there.length≤1000000
 its:m.its.length≤4096
 prt:∀p∈(lB m).1,p.length≤300000000
theorem Dg (m:Msg):(lB m).1.length≤3:=by
 unfold lB
 split
 ·simp
 split
 ·simp
 split
 ·simp
 ·simp
theorem yB (m:Msg)(h:∀n∈cV m,bL n):((cV m).flatMap aJ).length≤63:=by
 have h1:=wa m
 have key:∀l:List Int,(∀n∈l,bL n)→(l.flatMap aJ).length≤9*l.length:=by
  intro l
  induction l with
  | nil=>intro _;simp
  | cons n l ih=>
   intro h
   have h2:=h n au
   have h3:=jB n h2
   have h4:=ih (fun k hk=>h k (Ww _ hk))
   rw[List.flatMap_cons,V5,Wh];omega
 have:=key _ h
 omega
theorem tT {α:Type}(l:List α):decide (l=[])=decide ((l.length:Int)=0):=by
 cases l with
 | nil=>rfl
 | cons x l=>rw[Wj au,Wj bn]
theorem Oz (m:Msg)(hB:wg m):Fn prog 61 [p7 m] (.tup2 (.per (cA 1 ((lB m).1.map m6))) (dq (lB m).2)):=by
 obtain⟨b1,b2,b3,b4,b5,b6,b7⟩:=hB
 clear b7
 unfold lB
 by_cases c1:m.kind=1
 ·simp only[V6 c1]
  have a1:=(qr m.flt b1 (decide (cb m.flt)) au).frz
  have a2:=(Gi m.know b2 b3 b4 (decide (aX m.know)) au).frz
  clear b2 b3
  generalize decide (cb m.flt)=d1 at *
  generalize decide (aX m.know)=d2 at *
  cases d1<;>cases d2
  all_goals
   simp only[Xq,WH,XC,Bool.and_true,Xv]at a1 a2 ⊢
   refine fi func61 ntmps61 ?_
   (refine bg a1 a2 ?_;repeat' first|apply ah|refine ai fun hc=>?_)
   exact d9 (dA rfl) (aL rfl rfl)
 simp only[V3 c1]
 by_cases c4:m.kind=4
 ·simp only[V6 c4]
  have a1:=(qr [m.rg] au (decide (cb [m.rg])) au).frz
  have a2:=(Tj m.sum).frz
  clear b2 b3
  generalize decide (cb [m.rg])=d1 at *
  cases d1
  all_goals
   simp only[Xq,WH,XC]at a1 ⊢
   refine fi func61 ntmps61 ?_
   (refine bg a1 a2 ?_;repeat' first|apply ah|refine ai fun hc=>?_)
   exact d9 (dA rfl) (aL rfl rfl)
 simp only[V3 c4]
 by_cases c5:m.kind=5
 ·simp only[V6 c5]
  have a1:=(BU m.its b6).frz
  have a2:=(Gi m.know b2 b3 b4 (decide (aX m.know)) au).frz
  clear b2 b3
  generalize m.its.all eC=d1 at *
  generalize decide (aX m.know)=d2 at *
  cases d1<;>cases d2
  all_goals
   simp only[Xq,WH,XC,Bool.and_true,Xv]at a1 a2 ⊢
   refine fi func61 ntmps61 ?_
   (refine bg a1 a2 ?_;repeat' first|apply ah|refine ai fun hc=>?_)
   exact d9 (dA rfl) (aL rfl rfl)
 simp only[V3 c5]
 clear b2 b3
 refine fi func61 ntmps61 ?_
 (refine w0 ?_;repeat' first|apply ah|refine ai fun hc=>?_)
 exact d9 (eL rfl) (aL rfl rfl)
theorem Dh (m:Msg)(h1:m.there.length≤1000000)(h2:m.its.length≤4096):Fn prog 62 [p7 m] (dq (Aa m)):=by
 unfold Aa
 by_cases c1:m.kind=1
 ·rw[V6 c1,tT]
  obtain⟨q,hq⟩:∃q,nb m.there=q:=⟨_,rfl⟩
  obtain⟨x,e⟩:=q
  rw[hq]
  simp only
  by_cases he:e=0
  ·subst he
   obtain⟨bits,probes,row⟩:=x
   have a1:=(va m.there h1 0 hq).2
   clear hq
   refine fi func62 ntmps62 ?_
   (refine aq a1 ?_;repeat' first|apply ah|refine ai fun hc=>?_)
   all_goals
    refine dw ?_
    refine aL rfl ?_
    first|(simp[*];done)|(simp[*];omega)|(rw[Wo];simp[*];done)|(rw[Wo];simp[*];omega)
  ·have a1:=EG m.there h1 0 hq he
   clear hq
   refine fi func62 ntmps62 ?_
   (refine aq a1 ?_;repeat' first|apply ah|refine ai fun hc=>?_)
   all_goals
    refine dw ?_
    refine aL rfl ?_
    first|(simp[*];done)|(rw[show(e==0)=false by simpa using he,Wj he,Wj hc,Bool.or_self,Xv])|(simp[*];omega)|(rw[Wo];simp[*];done)|(rw[Wo];simp[*];omega)
 rw[V3 c1]
 by_cases c2:m.kind=2∨m.kind=3∨m.kind=4
 ·rw[V6 c2]
  rcases c2 with c2|c2|c2
  all_goals
   refine fi func62 ntmps62 ?_
   (refine w0 ?_;repeat' first|apply ah|refine ai fun hc=>?_)
   exact dp
 rw[V3 c2]
 by_cases c5:m.kind=5
 ·rw[V6 c5,tT]
  refine fi func62 ntmps62 ?_
  (refine w0 ?_;repeat' first|apply ah|refine ai fun hc=>?_)
  refine aj (X:=Nat) (fun i=>i≤m.its.length∧(m.its.take i).all eC=true)
   (fun i=>ay [(1,.ptr 1 0 0),(37,.per (dP m.its)),(38,iC .i64 (m.its.length:Nat)),(39,iC .i64 (i:Nat))] [(1,.box 58 ((bS m).map Cnt.per))]) (fun i=>m.its.length-i) 0 ⟨Wa _,rfl⟩ ?_
  rintro i ⟨g1,g2⟩
  by_cases hi:i<m.its.length
  ·have a1:=dU m.its[i]
   cases hr:eC m.its[i]with
   | false=>
    rw[hr]at a1
    have hu:wF m.its=false:=by
     rw[←Wy,oV,WJ]
     exact fun q=>by have:=q.1 _ (Wk hi);rw[hr]at this;cases this
    rw[hu,WV]
    (refine aq a1 ?_;repeat' first|apply ah|refine ai fun hc=>?_)
    exact dp
   | true=>
    rw[hr]at a1
    have g3:(m.its.take (i+1)).all eC=true:=by rw[bc _ i hi,List.all_append,g2];simp[hr]
    clear g2
    (refine aq a1 ?_;repeat' first|apply ah|refine ai fun hc=>?_)
    refine⟨i+1,⟨ab,g3⟩,ab,?_⟩
    exact ae
  ·rw[Wd ab]at g2
   have a1:=JH m.its ab g2
   cases hu:wF m.its with
   | false=>
    rw[hu]at a1
    rw[WV]
    (refine aq a1 ?_;repeat' first|apply ah|refine ai fun hc=>?_)
    exact dp
   | true=>
    rw[hu]at a1
    rw[WP]
    (refine aq a1 ?_;repeat' first|apply ah|refine ai fun hc=>?_)
    all_goals
     refine dw ?_
     refine aL rfl ?_
     first|(simp[*];done)|(simp[*];omega)|(rw[Wo];simp[*];done)|(rw[Wo];simp[*];omega)
 rw[V3 c5]
 by_cases c6:m.kind=6
 ·rw[Wb c6,WP]
  refine fi func62 ntmps62 ?_
  (refine w0 ?_;repeat' first|apply ah|refine ai fun hc=>?_)
  refine dw ?_
  exact aL rfl au
 ·rw[Wj c6,WV]
  refine fi func62 ntmps62 ?_
  (refine w0 ?_;repeat' first|apply ah|refine ai fun hc=>?_)
  exact dp
theorem FD (m:Msg)(hB:wg m):Fn prog 20 [p7 m] (.tup2 (.per (aK (ev m).1)) (el (ev m).2)):=by
 have a1:=FC m
 have a2:=Oz m hB
 have a3:=Dh m hB.thr hB.its
 have hI:=tS m hB.its
 have hl:=wa m
 unfold ev
 by_cases n1:(cV m).all bJ=true
 ·have ok:=Ab.1 n1
  have a4:=(ju [] (cV m) bn ok).frz
  rw[Wu]at a4
  rw[n1,WP]at hI
  have hlen:=yB m ok
  cases n2:(lB m).2 with
  | false=>
   rw[n2]at hI a2
   have hI:j8 m=false:=hI
   rw[hI]
   simp only[WH,XC]
   clear hB hI ok
   refine fi func20 ntmps20 ?_
   (refine pj a1 a2 a3 a4 ?_;repeat' first|apply ah|refine ai fun hc=>?_)
   all_goals refine d9 ?_ ?_
   all_goals first|exact eL rfl|exact al rfl rfl
  | true=>
   rw[n2]at hI a2
   by_cases n3:1≤m.ses
   ·rw[Wb n3]at hI
    have hI:j8 m=Aa m:=by simpa using hI
    rw[hI]
    cases n4:Aa m with
    | false=>
     rw[n4]at a3
     simp only[WH,XC]
     clear hB hI ok
     refine fi func20 ntmps20 ?_
     (refine pj a1 a2 a3 a4 ?_;repeat' first|apply ah|refine ai fun hc=>?_)
     all_goals refine d9 ?_ ?_
     all_goals first|exact eL rfl|exact al rfl rfl
    | true=>
     rw[n4]at a3
     simp only[Xq]
     have hp:=hB.prt
     have hpl:=Dg m
     have a5:=Tk ((cV m).flatMap aJ) (lB m).1 ab ab hp
     have e:(cV m).flatMap aJ++(lB m).1.flatMap txB=gv m:=by rw[Fz n2];rfl
     have hll:(gv m).length≤1000000000:=by
      rw[←e,V5]
      have key:∀l:List (List UInt8),(∀p∈l,p.length≤300000000)→(l.flatMap txB).length≤300000009*l.length:=by
       intro l
       induction l with
       | nil=>intro _;simp
       | cons n l ih=>
        intro h
        have h2:=h n au
        have h3:=kt n h2
        have h4:=ih (fun k hk=>h k (Ww _ hk))
        rw[List.flatMap_cons,V5,Wh];omega
      have:=key _ hp
      omega
     rw[e]at a5
     have a6:=(Rb [gv m] au (fun p hp=>by rw[Xl]at hp;subst hp;exact hll)).frz
     rw[show [gv m].flatten=gv m by simp]at a6
     clear hB hI ok e hp
     generalize gv m=L at *
     generalize (lB m).1=ps at *
     by_cases hL:L.length≤32768
     ·rw[V6 hL,V6 hL]at a6
      simp only[V6 hL]
      refine fi func20 ntmps20 ?_
      (refine Rx a1 a2 a3 a4 a5 a6 ?_;repeat' first|apply ah|refine ai fun hc=>?_)
      all_goals refine d9 ?_ ?_
      all_goals first|exact k9 rfl rfl|exact al rfl rfl
     ·rw[V3 hL,V3 hL]at a6
      simp only[V3 hL]
      refine fi func20 ntmps20 ?_
      (refine Rx a1 a2 a3 a4 a5 a6 ?_;repeat' first|apply ah|refine ai fun hc=>?_)
      all_goals refine d9 ?_ ?_
      all_goals first|exact k9 rfl rfl|exact al rfl rfl
   ·rw[Wj n3]at hI
    have hI:j8 m=false:=by simpa using hI
    rw[hI]
    simp only[WH,XC]
    clear hB hI ok
    refine fi func20 ntmps20 ?_
    (refine pj a1 a2 a3 a4 ?_;repeat' first|apply ah|refine ai fun hc=>?_)
    all_goals refine d9 ?_ ?_
    all_goals first|exact eL rfl|exact al rfl rfl
 ·have ok:¬∀n∈cV m,bL n:=fun q=>n1 (Ab.2 q)
  have a4:=(wO [] (cV m) ok).frz
  have hI:j8 m=false:=by rw[hI,Bool.eq_false_iff.2 n1];rfl
  rw[hI]
  simp only[WH,XC]
  clear hB hI ok
  refine fi func20 ntmps20 ?_
  (refine pj a1 a2 a3 a4 ?_;repeat' first|apply ah|refine ai fun hc=>?_)
  all_goals refine d9 ?_ ?_
  all_goals first|exact eL rfl|exact al rfl rfl
theorem f8 (most:Int)(l:List UInt8)(e:Int):(aW most l e).1.length≤l.length:=by
 have h:=(bN most l e).length_le
 unfold aW
 split
 ·simp
 ·split
  ·simp
  ·simp only[WA]
   have:=(ao 0 most l e).length_le
   omega
abbrev Tl (ps:List (List UInt8)):Cnt:=.per (cA 1 (ps.map m6))
abbrev Hg (m:Msg):Blk:=.box 58 ((bS m).map Cnt.per)
theorem wh (n:Nat)(hn:n≤10)(l:List UInt8)(e:Int)(hl:l.length≤1000000000):dh prog 129 [.aggK lN .aggN,iC .i64 (n:Nat)] [(1000,ct l e)] (Tl (gc n l e).1) [(1000,ct (gc n l e).2.1 (gc n l e).2.2)]:=by
 generalize hR:gc n l e=R
 refine dH func129 ntmps129 ?_
 (refine w0 ?_)
 refine bQ (bU 5 600 27 1 rfl rfl) ?_
 refine aj (X:=Nat×List (List UInt8)×List UInt8×Int) (fun x=>x.1≤n∧x.2.1.length=x.1∧x.2.2.1.length≤1000000000∧(x.2.1++(gc (n-x.1) x.2.2.1 x.2.2.2).1,(gc (n-x.1) x.2.2.1 x.2.2.2).2)=R)
  (fun x=>ay [(2,.ptr 2 0 0),(5,.row 600 0),(6,iC .i64 (n:Nat)),(7,iC .i64 (x.1:Nat))] [(1000,ct x.2.2.1 x.2.2.2),(2,.box 124 [lN]),(600,.row 27 1 (x.2.1.map m6))]) (fun x=>n-x.1) (0,[],l,e) ⟨Wa _,rfl,hl,hR⟩ ?_
 rintro⟨k,ps,l,e⟩ ⟨h1,h2,h3,h4⟩
 simp only at h1 h2 h3 h4 ⊢
 by_cases hk:k<n
 ·obtain⟨m,hm⟩:∃m,n-k=m+1:=⟨n-k-1,ab⟩
  rw[hm,gc]at h4
  dsimp only at h4
  have a1:=mM l e 281474976710656
  have hs:=(bN 281474976710656 l e).length_le
  have ht:=f8 281474976710656 l e
  generalize aW pO l e=q at *
  obtain⟨x,l',e'⟩:=q
  simp only at a1 hs ht h4
  have hx:(⟨x.toArray⟩:ByteArray).size≤1000000000000:=by show x.toArray.size≤_;rw[WR];omega
  clear hR
  (refine dy a1 ?_;repeat' first|apply ah|refine ai fun hc=>?_|((first|apply aB rfl|apply aC rfl|apply aD rfl|apply aF rfl);(focus ((try (apply bI;(focus rfl);apply ag rfl rfl rfl rfl rfl));first|((apply aZ 10;(focus rfl);exact m5 ⟨rfl,rfl,rfl⟩ rfl inferInstance inferInstance inferInstance rfl hx))));refine dy a1 ?_))
  refine⟨(k+1,ps++[x],l',e'),⟨aA,by simp[h2],aA,?_⟩,aA,?_⟩
  ·rw[←h4,show n-(k+1)=m by omega];simp
  ·exact ae
 ·rw[show n-k=0 by omega]at h4
  have h4:(ps++[],l,e)=R:=h4
  rw[Wg]at h4
  subst h4
  refine bQ (jj 600 _ 27 1 rfl rfl) ?_
  (refine w0 ?_;repeat' first|apply ah|refine ai fun hc=>?_)
  refine gM ?_
  exact um rfl rfl
def d7 (l:List UInt8):Msg×List (List UInt8)×List UInt8×Int:=
 let a:=ca l
 let b:=d0 a.1 a.2.1 a.2.2
 let c:=gc (gn b.1.kind) b.2.1 b.2.2
 (b.1,c.1,c.2.1,c.2.2)
theorem jH (c:UInt8):IntKind.u64.wrap (c.toNat:Int)=(c.toNat:Int):=by
 have:=c.toNat_lt
 rw[IntKind.wrap_u64];omega
def TG:List UInt8→Nat→Int→Int
 | [],_,s=>s
 | c::l,i,s=>TG l (i+1) (bits .or .u64 s (IntKind.u64.wrap ((c.toNat:Int)*2 ^ min (8*(i:Int)).toNat IntKind.u64.bits)))
theorem Tm:∀(l:List UInt8)(i:Nat)(s:Int),0≤s→0≤TG l i s:=by
 intro l
 induction l with
 | nil=>intro i s h;exact h
 | cons c l ih=>intro i s h;exact ih _ _ (qx _)
theorem Rf {i a:Nat}(h:i<8)(ha:a<256 ^ i)(c:UInt8):bits .or .u64 (a:Int) (IntKind.u64.wrap ((c.toNat:Int)*2 ^ min (8*(i:Int)).toNat IntKind.u64.bits))=((a+256 ^ i*c.toNat:Nat):Int):=by
 have hc:=c.toNat_lt
 have e:min (8*(i:Int)).toNat IntKind.u64.bits=8*i:=by
  show min (8*(i:Int)).toNat 64=8*i
  omega
 have e2:(2:Int) ^ (8*i)=((256 ^ i:Nat):Int):=by
  rw[show(256:Nat) ^ i=2 ^ (8*i)from(Nat.pow_mul 2 8 i).symm];simp
 have hp:256 ^ i*256≤256 ^ 8:=by rw[←Nat.pow_succ];exact Nat.pow_le_pow_right bz h
 have h8:(256:Nat) ^ 8=18446744073709551616:=bz
 have hm:256 ^ i*c.toNat≤256 ^ i*255:=Nat.mul_le_mul_left _ ab
 have hm2:256 ^ i*256=256 ^ i*255+256 ^ i:=ab
 rw[e,e2]
 have e3:IntKind.u64.wrap ((c.toNat:Int)*((256 ^ i:Nat):Int))=((256 ^ i*c.toNat:Nat):Int):=by
  rw[←Int.natCast_mul,Nat.mul_comm c.toNat,IntKind.wrap_u64]
  generalize 256 ^ i*c.toNat=q at *
  omega
 rw[e3,u64_or_nat _ _ ab ab]
 have:=Nat.two_pow_add_eq_or_of_lt (i:=8*i) (b:=a) (by rw[Nat.pow_mul];exact ha) c.toNat
 rw[Nat.pow_mul]at this
 have this:256 ^ i*c.toNat+a=256 ^ i*c.toNat ||| a:=this
 rw[Nat.or_comm,←this,Nat.add_comm]
theorem JI {i:Nat}(h:i<l.length):fJ (l.take (i+1))=fJ (l.take i)+256 ^ i*l[i].toNat:=by
 rw[List.take_add_one,V4 h,Option.toList_some,Ms,WA,show min i l.length=i by omega,Nat.pow_mul]
 simp[fJ]
theorem FE (l:List UInt8)(hl:l.length≤1000000000):dh prog 67 [.aggK lN .aggN] [(1000,ct l 0)] (.tup2 (p7 (d7 l).1) (Tl (d7 l).2.1)) [(1000,ct (d7 l).2.2.1 (d7 l).2.2.2)]:=by
 generalize hR:d7 l=R
 dsimp only [d7,ca]at hR
 have a1:=db l 0 1 6
 have s1:=(ao 1 6 l 0).length_le
 generalize af 1 6 l 0=q1 at *
 obtain⟨k,l1,e1⟩:=q1
 dsimp only at a1 s1 hR
 have a2:=db l1 e1 1 281474976710656
 have s2:=(ao 1 281474976710656 l1 e1).length_le
 generalize af 1 281474976710656 l1 e1=q2 at *
 obtain⟨s,l2,e2⟩:=q2
 dsimp only at a2 s2 hR
 have a3:=hY l2 e2
 have s3:=(bX l2 e2).length_le
 generalize aO l2 e2=q3 at *
 obtain⟨n,l3,e3⟩:=q3
 dsimp only at a3 s3 hR
 dsimp only [d0]at hR
 by_cases c1:k=1
 ·subst c1
  simp only[Xq]at hR
  have a4:=hY l3 e3
  have s4:=(bX l3 e3).length_le
  generalize aO l3 e3=q4 at *
  obtain⟨n4,l4,e4⟩:=q4
  dsimp only at a4 s4 hR
  have a5:=hY l4 e4
  have s5:=(bX l4 e4).length_le
  generalize aO l4 e4=q5 at *
  obtain⟨n5,l5,e5⟩:=q5
  dsimp only at a5 s5 hR
  have a6:=db l5 e5 0 64
  have s6:=(ao 0 64 l5 e5).length_le
  generalize af 0 64 l5 e5=q6 at *
  obtain⟨n6,l6,e6⟩:=q6
  dsimp only at a6 s6 hR
  have a7:=rI l6 e6
  have s7:=(ao 0 1 l6 e6).length_le
  generalize af 0 1 l6 e6=q7 at *
  obtain⟨n7,l7,e7⟩:=q7
  dsimp only at a7 s7 hR
  have a8:dh prog 129 [.aggK lN .aggN,iC .i64 3] _ _ _:=wh 3 bz l7 e7 ab
  rw[show gn 1=3 from rfl]at hR
  generalize gc 3 l7 e7=q8 at *
  obtain⟨ps,l8,e8⟩:=q8
  dsimp only at a8 hR
  subst hR
  dsimp only
  clear s1 s2 s3 s4 s5 s6 s7
  refine dH func67 ntmps67 ?_
  (have kr1:=a1;have kr2:=a2;have kr3:=a3;have kr4:=a4;have kr5:=a5;have kr6:=a6;have kr7:=a7;have km1:=(show kW [(1000,1000)] _ _ _ _ _ _ from a8);refine w0 ?_;(repeat' first|apply ah|refine ai fun hc=>?_);all_goals clear km1 kr7 kr6 kr5 kr4 kr3 kr2 kr1)
  refine OY ?_ ?_
  ·exact kc D0 aI
  ·exact um rfl rfl
 rw[V3 c1]at hR
 by_cases c2:k=2
 ·subst c2
  simp only[Xq]at hR
  have a4:=rI l3 e3
  generalize af 0 1 l3 e3=q4 at *
  obtain⟨n4,l4,e4⟩:=q4
  dsimp only at a4 hR
  rw[show gn 2=0 from rfl]at hR
  subst hR
  clear s1 s2 s3
  refine dH func67 ntmps67 ?_
  (refine mZ a1 a2 a3 a4 ?_;repeat' first|apply ah|refine ai fun hc=>?_)
  refine OY ?_ ?_
  ·exact kc D0 aI
  ·exact kc (A:=ak (.slice none 0 0)) (um rfl rfl) ee
 rw[V3 c2]at hR
 by_cases c3:k=3
 ·subst c3
  simp only[Xq]at hR
  have a4:=hY l3 e3
  generalize aO l3 e3=q4 at *
  obtain⟨n4,l4,e4⟩:=q4
  dsimp only at a4 hR
  rw[show gn 3=0 from rfl]at hR
  subst hR
  clear s1 s2 s3
  refine dH func67 ntmps67 ?_
  (refine mZ a1 a2 a3 a4 ?_;repeat' first|apply ah|refine ai fun hc=>?_)
  refine OY ?_ ?_
  ·exact kc D0 aI
  ·exact kc (A:=ak (.slice none 0 0)) (um rfl rfl) ee
 rw[V3 c3]at hR
 by_cases c5:k=5
 ·subst c5
  simp only[Xq]at hR
  have a4:=hY l3 e3
  have s4:=(bX l3 e3).length_le
  generalize aO l3 e3=q4 at *
  obtain⟨n4,l4,e4⟩:=q4
  dsimp only at a4 s4 hR
  have a7:=rI l4 e4
  have s7:=(ao 0 1 l4 e4).length_le
  generalize af 0 1 l4 e4=q7 at *
  obtain⟨n7,l7,e7⟩:=q7
  dsimp only at a7 s7 hR
  have a8:dh prog 129 [.aggK lN .aggN,iC .i64 2] _ _ _:=wh 2 bz l7 e7 ab
  rw[show gn 5=2 from rfl]at hR
  generalize gc 2 l7 e7=q8 at *
  obtain⟨ps,l8,e8⟩:=q8
  dsimp only at a8 hR
  subst hR
  dsimp only
  clear s1 s2 s3 s4 s7
  refine dH func67 ntmps67 ?_
  (have kr1:=a1;have kr2:=a2;have kr3:=a3;have kr4:=a4;have kr5:=a7;have km1:=(show kW [(1000,1000)] _ _ _ _ _ _ from a8);refine w0 ?_;(repeat' first|apply ah|refine ai fun hc=>?_);all_goals clear km1 kr5 kr4 kr3 kr2 kr1)
  refine OY ?_ ?_
  ·exact kc D0 aI
  ·exact um rfl rfl
 rw[V3 c5]at hR
 by_cases c6:k=6
 ·subst c6
  simp only[Xq]at hR
  have a4:=db l3 e3 1 281474976710656
  generalize af 1 281474976710656 l3 e3=q4 at *
  obtain⟨n4,l4,e4⟩:=q4
  dsimp only at a4 hR
  rw[show gn 6=0 from rfl]at hR
  subst hR
  clear s1 s2 s3
  refine dH func67 ntmps67 ?_
  (refine mZ a1 a2 a3 a4 ?_;repeat' first|apply ah|refine ai fun hc=>?_)
  refine OY ?_ ?_
  ·exact kc D0 aI
  ·exact kc (A:=ak (.slice none 0 0)) (um rfl rfl) ee
 rw[V3 c6]at hR
 by_cases c4:k=4
 ·subst c4
  have a8:dh prog 129 [.aggK lN .aggN,iC .i64 2] _ _ _:=wh 2 bz l3 e3 ab
  rw[show gn 4=2 from rfl]at hR
  generalize gc 2 l3 e3=q8 at *
  obtain⟨ps,l8,e8⟩:=q8
  dsimp only at a8 hR
  subst hR
  dsimp only
  clear s1 s2 s3
  refine dH func67 ntmps67 ?_
  (refine BG a1 a2 a3 (fD a8) ?_;repeat' first|apply ah|refine ai fun hc=>?_)
  refine OY ?_ ?_
  ·exact kc D0 aI
  ·exact um rfl rfl
 ·rw[show gn k=0 by unfold gn;rw[V3 c1,V3 (fun q=>q.elim c4 c5)]]at hR
  subst hR
  clear s1 s2 s3
  refine dH func67 ntmps67 ?_
  (refine dF a1 a2 a3 ?_;repeat' first|apply ah|refine ai fun hc=>?_)
  refine OY ?_ ?_
  ·exact kc D0 aI
  ·exact kc (A:=ak (.slice none 0 0)) (um rfl rfl) ee
theorem Rh (m:Msg)(ps:List (List UInt8))(hp:ps.length=gn m.kind)(hs:∀p∈ps,p.length≤1000000000)(h0:m.sum=0) :
 ∃m',dh prog 69 [.ptr 1000 0 0,Tl ps] [(1000,Hg m)] (iC .i64 (ej m ps).2) [(1000,Hg m')]∧((ej m ps).2=0→m'=(ej m ps).1):=by
 by_cases c1:m.kind=1
 ·rw[gn,V6 c1]at hp
  obtain⟨x,y,z,rfl⟩:∃x y z,ps=[x,y,z]:=by
   match ps,hp with
   | [x,y,z],_=>exact⟨x,y,z,rfl⟩
  have a1:=(lP x (hs x au)).frz
  have a2:=(sF y (hs y au)).frz
  clear hs hp
  unfold ej
  simp only[V6 c1,Xm,List.getD_cons_succ]
  generalize dG x=f at *
  generalize dc y=g at *
  obtain⟨f1,f2⟩:=f
  obtain⟨g1,g2⟩:=g
  by_cases hf:f2=0
  ·subst hf
   refine⟨{ m with flt:=f1,know:=g1,there:=z },?_,fun h=>?_⟩
   ·have e:(if(0:Int)≠0 then((m,(0:Int)):Msg×Int)else if g2≠0 then(m,g2)else({ m with flt:=f1,know:=g1,there:=z },0)).2=g2:=by
     rw[V3 au]
     by_cases hg:g2=0
     ·rw[V3 (by simp[hg]),hg]
     ·rw[V6 hg]
    simp only at e ⊢
    rw[e]
    clear e h0
    refine dH func69 ntmps69 ?_
    (refine bg a1 a2 ?_;repeat' first|apply ah|refine ai fun hc=>?_)
    refine gM ?_
    exact bm rfl rfl
   ·simp only at h ⊢
    rw[V3 au]at h ⊢
    by_cases hg:g2=0
    ·rw[V3 (by simp[hg])]
    ·rw[V6 hg]at h;exact absurd h hg
  ·refine⟨{ m with flt:=f1,there:=z },?_,fun h=>?_⟩
   ·simp only
    rw[V6 hf]
    clear h0
    refine dH func69 ntmps69 ?_
    (refine bg a1 a2 ?_;repeat' first|apply ah|refine ai fun hc=>?_)
    refine gM ?_
    exact bm rfl rfl
   ·simp only at h
    rw[V6 hf]at h;exact absurd h hf
 by_cases c4:m.kind=4
 ·rw[gn,V3 c1,V6 (.inl c4)]at hp
  obtain⟨x,y,rfl⟩:∃x y,ps=[x,y]:=by
   match ps,hp with
   | [x,y],_=>exact⟨x,y,rfl⟩
  have a1:=(lP x (hs x au)).frz
  have hy:=hs y au
  clear hs hp
  unfold ej
  simp only[V3 c1,V6 c4,Xm,List.getD_cons_succ]
  generalize dG x=f at *
  obtain⟨f1,f2⟩:=f
  by_cases hf:f2=0
  ·subst hf
   simp only
   rw[V3 au]
   by_cases hb:f1.length=1∧y.length=8
   ·rw[V6 hb]
    obtain⟨b1,b2⟩:=hb
    obtain⟨r,rfl⟩:∃r,f1=[r]:=by
     match f1,b1 with
     | [r],_=>exact⟨r,rfl⟩
    refine⟨{ m with rg:=r,sum:=fJ y },?_,fun _=>rfl⟩
    simp only
    refine dH func69 ntmps69 ?_
    (refine aq a1 ?_;repeat' first|apply ah|refine ai fun hc=>?_)
    refine bZ (X:=Nat) (fun i=>i≤8) (fun i=>ay [(0,.ptr 1000 0 0),(5,iC .i64 0),(76,.per (aK y)),(77,iC .i64 (y.length:Nat)),(78,iC .i64 (i:Nat))] [(1000,Hg { m with rg:=r,sum:=fJ (y.take i) })]) (fun i=>8-i) 0 ab ?_ ?_
    ·rw[show fJ (y.take 0)=m.sum by rw[h0];rfl]
     exact ae
    ·intro i hi
     by_cases hlt:i<8
     ·have hil:i<y.length:=ab
      have hS:=JI hil
      have hlo:=zr (y.take i)
      rw[WA,show min i y.length=i by omega]at hlo
      have hz:=Rf hlt hlo y[i]
      rw[←hS]at hz
      have hw:=jH y[i]
      have hz1:IntKind.u64.wrap (IntKind.u64.wrap (y[i].toNat:Int)*2 ^ min (8*(i:Int)).toNat IntKind.u64.bits)=IntKind.u64.wrap ((y[i].toNat:Int)*2 ^ min (8*(i:Int)).toNat IntKind.u64.bits):=by rw[jH]
      generalize IntKind.u64.wrap ((y[i].toNat:Int)*2 ^ min (8*(i:Int)).toNat IntKind.u64.bits)=Z at *
      generalize fJ (y.take i)=s at *
      generalize hs':fJ (y.take (i+1))=s' at *
      clear hS hlo a1
      (refine w0 ?_;repeat' first|apply ah|refine ai fun hc=>?_|((first|apply aB rfl|apply aC rfl|apply aD rfl|apply aF rfl);(focus ((try (apply bI;(focus rfl);apply ag rfl rfl rfl rfl rfl));first|((exact zo ⟨rfl,rfl,rfl⟩ rfl rfl rfl ab hz1))|((exact RF ⟨rfl,rfl,rfl⟩ rfl rfl rfl hz))));refine w0 ?_))
      refine⟨i+1,ab,ab,?_⟩
      rw[hs']
      exact ae
     ·rw[Wd ab]
      clear a1
      (refine w0 ?_;repeat' first|apply ah|refine ai fun hc=>?_)
      refine gM ?_
      exact bm rfl rfl
   ·rw[V3 hb]
    refine⟨m,?_,fun h=>absurd h au⟩
    clear h0
    refine dH func69 ntmps69 ?_
    (refine aq a1 ?_;repeat' first|apply ah|refine ai fun hc=>?_)
    all_goals first|(exfalso;apply hb;constructor<;>first|omega|(simp only[List.getElem_cons_succ,Xf]at *;omega))|skip
    all_goals refine gM ?_
    all_goals exact bm rfl rfl
  ·simp only
   rw[V6 hf]
   refine⟨{ m with sum:=(TG y 0 0).toNat },?_,fun h=>absurd h hf⟩
   have hF:=Tm y 0 0 (Int.le_refl 0)
   generalize hFe:TG y 0 0=F at *
   refine dH func69 ntmps69 ?_
   (refine aq a1 ?_;repeat' first|apply ah|refine ai fun hc=>?_)
   refine bZ (X:=Nat×Nat) (fun x=>x.1≤y.length∧TG (y.drop x.1) x.1 (x.2:Int)=F) (fun x=>ay [(0,.ptr 1000 0 0),(5,iC .i64 f2),(76,.per (aK y)),(77,iC .i64 (y.length:Nat)),(78,iC .i64 (x.1:Nat))] [(1000,Hg { m with sum:=x.2 })]) (fun x=>y.length-x.1) (0,0) ⟨Wa _,hFe⟩ ?_ ?_
   ·rw[show(((0,0):Nat×Nat)).2=m.sum from h0.symm]
    exact ae
   ·rintro⟨i,s⟩ ⟨g1,g2⟩
    simp only at g1 g2 ⊢
    by_cases hil:i<y.length
    ·rw[List.drop_eq_getElem_cons hil,TG]at g2
     have hz1:IntKind.u64.wrap (IntKind.u64.wrap (y[i].toNat:Int)*2 ^ min (8*(i:Int)).toNat IntKind.u64.bits)=IntKind.u64.wrap ((y[i].toNat:Int)*2 ^ min (8*(i:Int)).toNat IntKind.u64.bits):=by rw[jH]
     generalize IntKind.u64.wrap ((y[i].toNat:Int)*2 ^ min (8*(i:Int)).toNat IntKind.u64.bits)=Z at *
     obtain⟨s',hz⟩:∃s':Nat,bits .or .u64 (s:Int) Z=(s':Int):=⟨_,(Xu (qx _)).symm⟩
     rw[hz]at g2
     clear a1 hFe hF
     (refine w0 ?_;repeat' first|apply ah|refine ai fun hc=>?_|((first|apply aB rfl|apply aC rfl|apply aD rfl|apply aF rfl);(focus ((try (apply bI;(focus rfl);apply ag rfl rfl rfl rfl rfl));first|((exact zo ⟨rfl,rfl,rfl⟩ rfl rfl rfl ab hz1))|((exact RF ⟨rfl,rfl,rfl⟩ rfl rfl rfl hz))));refine w0 ?_))
     refine⟨(i+1,s'),⟨aA,g2⟩,aA,?_⟩
     exact ae
    ·rw[Wv ab]at g2
     have g2:(s:Int)=F:=g2
     have e:F.toNat=s:=ab
     rw[e]
     clear a1 hFe hF g2
     (refine w0 ?_;repeat' first|apply ah|refine ai fun hc=>?_)
     refine gM ?_
     exact bm rfl rfl
 by_cases c5:m.kind=5
 ·rw[gn,V3 c1,V6 (.inr c5)]at hp
  obtain⟨x,y,rfl⟩:∃x y,ps=[x,y]:=by
   match ps,hp with
   | [x,y],_=>exact⟨x,y,rfl⟩
  have a1:=(sR x (hs x au)).frz
  have a2:=(sF y (hs y au)).frz
  clear hs hp
  unfold ej
  simp only[V3 c1,V3 c4,V6 c5,Xm,List.getD_cons_succ]
  generalize dd x=f at *
  generalize dc y=g at *
  obtain⟨f1,f2⟩:=f
  obtain⟨g1,g2⟩:=g
  by_cases hf:f2=0
  ·subst hf
   refine⟨{ m with its:=f1,know:=g1 },?_,fun h=>?_⟩
   ·have e:(if(0:Int)≠0 then((m,(0:Int)):Msg×Int)else if g2≠0 then(m,g2)else({ m with its:=f1,know:=g1 },0)).2=g2:=by
     rw[V3 au]
     by_cases hg:g2=0
     ·rw[V3 (by simp[hg]),hg]
     ·rw[V6 hg]
    simp only at e ⊢
    rw[e]
    clear e h0
    refine dH func69 ntmps69 ?_
    (refine bg a1 a2 ?_;repeat' first|apply ah|refine ai fun hc=>?_)
    refine gM ?_
    exact bm rfl rfl
   ·simp only at h ⊢
    rw[V3 au]at h ⊢
    by_cases hg:g2=0
    ·rw[V3 (by simp[hg])]
    ·rw[V6 hg]at h;exact absurd h hg
  ·refine⟨{ m with its:=f1 },?_,fun h=>?_⟩
   ·simp only
    rw[V6 hf]
    clear h0
    refine dH func69 ntmps69 ?_
    (refine bg a1 a2 ?_;repeat' first|apply ah|refine ai fun hc=>?_)
    refine gM ?_
    exact bm rfl rfl
   ·simp only at h
    rw[V6 hf]at h;exact absurd h hf
 ·unfold ej
  simp only[V3 c1,V3 c4,V3 c5]
  refine⟨m,?_,fun _=>rfl⟩
  clear hs hp h0
  refine dH func69 ntmps69 ?_
  (refine w0 ?_;repeat' first|apply ah|refine ai fun hc=>?_)
  refine gM ?_
  exact bm rfl rfl
theorem UB (h:(ca l).2.2=0):1≤(ca l).1.kind∧(ca l).1.kind≤6∧1≤(ca l).1.ses∧bJ (ca l).1.ses=true∧bJ (ca l).1.num=true:=by
 unfold ca at h ⊢
 dsimp only at h ⊢
 obtain⟨a1,a2,_⟩:=eJ h
 obtain⟨b1,b2,b3,_,_⟩:=bt a1
 obtain⟨_,_,c3,c4,_⟩:=bt b1
 exact⟨c3,c4,b3,gL b2,gL a2⟩
theorem UD {m:Msg}{e:Int}(h:(d0 m l e).2.2=0)(h1:bJ m.kind=true)(h2:bJ m.ses=true)(h3:bJ m.num=true):(cV (d0 m l e).1).all bJ=true:=by
 unfold d0 at h ⊢
 unfold cV
 by_cases c1:m.kind=1
 ·simp only[V6 c1]at h ⊢
  obtain⟨d1,d2,_⟩:=bt h
  obtain⟨e1,e2,_⟩:=bt d1
  obtain⟨f1,f2,_⟩:=eJ e1
  obtain⟨g1,g2,_⟩:=eJ f1
  simp[h1,h2,h3,gL g2,gL f2,gL e2,kB]
 simp only[V3 c1]at h ⊢
 by_cases c2:m.kind=2
 ·simp only[V6 c2]at h ⊢
  simp[c1,h1,h2,h3,kB]
 simp only[V3 c2]at h ⊢
 by_cases c3:m.kind=3
 ·simp only[V6 c3]at h ⊢
  obtain⟨g1,g2,_⟩:=eJ h
  simp[c1,c2,h1,h2,h3,gL g2]
 simp only[V3 c3]at h ⊢
 by_cases c5:m.kind=5
 ·simp only[V6 c5]at h ⊢
  obtain⟨d1,d2,_⟩:=bt h
  obtain⟨g1,g2,_⟩:=eJ d1
  simp[c1,c2,c3,h1,h2,h3,gL g2,kB]
 simp only[V3 c5]at h ⊢
 by_cases c6:m.kind=6
 ·simp only[V6 c6]at h ⊢
  obtain⟨d1,d2,_⟩:=bt h
  simp[c1,c2,c3,c5,h1,h2,h3,gL d2]
 simp[V3 c1,V3 c2,V3 c3,V3 c5,V3 c6,h1,h2,h3]
theorem Hh (m:Msg)(l:List UInt8)(e:Int):(d0 m l e).1.kind=m.kind∧(d0 m l e).1.ses=m.ses∧(d0 m l e).1.its=m.its∧(d0 m l e).1.flt=m.flt∧(d0 m l e).1.know=m.know∧(d0 m l e).1.there=m.there∧(d0 m l e).1.sum=m.sum∧(d0 m l e).1.rg=m.rg:=by
 unfold d0
 dsimp only
 split
 ·exact⟨rfl,rfl,rfl,rfl,rfl,rfl,rfl,rfl⟩
 split
 ·exact⟨rfl,rfl,rfl,rfl,rfl,rfl,rfl,rfl⟩
 split
 ·exact⟨rfl,rfl,rfl,rfl,rfl,rfl,rfl,rfl⟩
 split
 ·exact⟨rfl,rfl,rfl,rfl,rfl,rfl,rfl,rfl⟩
 split
 ·exact⟨rfl,rfl,rfl,rfl,rfl,rfl,rfl,rfl⟩
 ·exact⟨rfl,rfl,rfl,rfl,rfl,rfl,rfl,rfl⟩
theorem UE {m:Msg}{p:List (List UInt8)}(h0:m.its=[])(h:(ej m p).2=0):(lB (ej m p).1).2=true∧(ej m p).1.ses=m.ses∧(ej m p).1.its.length≤4096:=by
 unfold ej at h ⊢
 unfold lB
 by_cases c1:m.kind=1
 ·simp only[V6 c1]at h ⊢
  by_cases a:(dG (p.getD 0 [])).2≠0
  ·rw[V6 a]at h;exact absurd h a
  simp only[V3 a]at h ⊢
  by_cases b:(dc (p.getD 1 [])).2≠0
  ·rw[V6 b]at h;exact absurd h b
  simp only[V3 b]at h ⊢
  have q1:=(kL (WB.1 a)).1
  have q2:=(lc (WB.1 b)).1
  simp only[V6 c1]
  rw[Wb q1,Wb q2,h0]
  simp
 simp only[V3 c1]at h ⊢
 by_cases c4:m.kind=4
 ·simp only[V6 c4]at h ⊢
  by_cases a:(dG (p.getD 0 [])).2≠0
  ·rw[V6 a]at h;exact absurd h a
  simp only[V3 a]at h ⊢
  by_cases b:(dG (p.getD 0 [])).1.length=1∧(p.getD 1 []).length=8
  ·simp only[V6 b]at h ⊢
   have q1:=(kL (WB.1 a)).1
   obtain⟨r,hr⟩:∃r,(dG (p.getD 0 [])).1=[r]:=by
    match(dG (p.getD 0 [])).1,b.1 with
    | [r],_=>exact⟨r,rfl⟩
   rw[hr]at q1
   simp only[V3 c1,V6 c4,hr,Xm]
   rw[Wb q1,h0]
   simp
  ·rw[V3 b]at h;simp at h
 simp only[V3 c4]at h ⊢
 by_cases c5:m.kind=5
 ·simp only[V6 c5]at h ⊢
  by_cases a:(dd (p.getD 0 [])).2≠0
  ·rw[V6 a]at h;exact absurd h a
  simp only[V3 a]at h ⊢
  by_cases b:(dc (p.getD 1 [])).2≠0
  ·rw[V6 b]at h;exact absurd h b
  simp only[V3 b]at h ⊢
  have q1:=ks (b:=p.getD 0 []) (WB.1 a)
  have q2:=(lc (WB.1 b)).1
  simp only[V3 c1,V3 c4,V6 c5]
  rw[Wb q2,q1.1]
  exact⟨rfl,by trivial,q1.2.1⟩
 simp only[V3 c5]at h ⊢
 simp only[V3 c1,V3 c4,h0]
 simp
theorem OA (h1:di (gc (gn (d0 (ca l).1 (ca l).2.1 (ca l).2.2).1.kind) (d0 (ca l).1 (ca l).2.1 (ca l).2.2).2.1 (d0 (ca l).1 (ca l).2.1 (ca l).2.2).2.2).2.1 (gc (gn (d0 (ca l).1 (ca l).2.1 (ca l).2.2).1.kind) (d0 (ca l).1 (ca l).2.1 (ca l).2.2).2.1 (d0 (ca l).1 (ca l).2.1 (ca l).2.2).2.2).2.2=0)
 (h2:(ej (d0 (ca l).1 (ca l).2.1 (ca l).2.2).1 (gc (gn (d0 (ca l).1 (ca l).2.1 (ca l).2.2).1.kind) (d0 (ca l).1 (ca l).2.1 (ca l).2.2).2.1 (d0 (ca l).1 (ca l).2.1 (ca l).2.2).2.2).1).2=0) :
 j8 (ej (d0 (ca l).1 (ca l).2.1 (ca l).2.2).1 (gc (gn (d0 (ca l).1 (ca l).2.1 (ca l).2.2).1.kind) (d0 (ca l).1 (ca l).2.1 (ca l).2.2).2.1 (d0 (ca l).1 (ca l).2.1 (ca l).2.2).2.2).1).1
 = Aa (ej (d0 (ca l).1 (ca l).2.1 (ca l).2.2).1 (gc (gn (d0 (ca l).1 (ca l).2.1 (ca l).2.2).1.kind) (d0 (ca l).1 (ca l).2.1 (ca l).2.2).2.1 (d0 (ca l).1 (ca l).2.1 (ca l).2.2).2.2).1).1:=by
 have Hp:(ca l).1.its=[]:=rfl
 generalize ha:ca l=a at *
 have hns:=Hh a.1 a.2.1 a.2.2
 generalize hb:d0 a.1 a.2.1 a.2.2=b at *
 generalize hc:gc (gn b.1.kind) b.2.1 b.2.2=c at *
 obtain⟨e1,e2⟩:=uE h1
 have t:=Q9 (gn b.1.kind) b.2.1 b.2.2 (by rw[hc];exact e2)
 rw[hc]at t
 obtain⟨t1,t2,t3⟩:=t
 have n:=Q8 (m:=a.1) (l:=a.2.1) (e:=a.2.2) (by rw[hb];exact t1)
 rw[hb]at n
 obtain⟨n1,_⟩:=n
 have g:=UB (l:=l) (by rw[ha];exact n1)
 rw[ha]at g
 obtain⟨g1,g2,g3,g4,g5⟩:=g
 have hno:=UD (m:=a.1) (l:=a.2.1) (e:=a.2.2) (by rw[hb];exact t1) (gL ⟨ab,ab⟩) g4 g5
 rw[hb]at hno
 obtain⟨p1,p2,p3⟩:=UE (m:=b.1) (p:=c.1) (by rw[hns.2.2.1];exact Hp) h2
 have p4:=(Ra (m:=b.1) (p:=c.1) t3 h2).2
 rw[tS _ p3,p4,hno,p1,Wb (by rw[p2,hns.2.1];exact g3)]
 simp
end Go.Proofs.YtaclhhkblbacgaaGreat
