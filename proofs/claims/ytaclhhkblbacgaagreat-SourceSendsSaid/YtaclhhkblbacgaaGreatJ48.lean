/- Texts joined: MsT2. -/
import Derived.Test.YtaclhhkblbacgaaGreatJ47
set_option maxRecDepth 10000
set_option maxHeartbeats 8000000
namespace Go.Proofs.YtaclhhkblbacgaaGreat
open Go.RowKit Go.Proofs.Tryz
theorem JY {L:List UInt8}(hL:L.length≤1000000){b:List UInt8}(a0:Fn prog 50 [.per (aK b)] (.tup2 (.per (aK L)) (el 0)))(hk:(af 1 6 L 0).1=4) :
 Fn prog 14 [.per (aK b)] (.tup2 (.per (DB (zt L).1)) (el (zt L).2)):=by
 have hL0:L.length≤1000000000000:=ab
 have hs0:L <:+ L:=WM L
 generalize hR:d7 L=R
 rw[p8 hR]
 dsimp only [d7,ca]at hR
 have a1:=bd L L 0 hs0 hL0 1 6
 have s1:=(ao 1 6 L 0).trans hs0
 generalize af 1 6 L 0=q1 at *
 obtain⟨k,l1,e1⟩:=q1
 dsimp only at a1 s1 hR
 have e0:((L.length-L.length:Nat):Int)=0:=ab
 unfold dQ at a1
 rw[e0]at a1
 clear e0
 have a2:=bd L l1 e1 s1 hL0 1 281474976710656
 have s2:=(ao 1 281474976710656 l1 e1).trans s1
 generalize af 1 281474976710656 l1 e1=q2 at *
 obtain⟨s,l2,e2⟩:=q2
 dsimp only at a2 s2 hR
 have a3:=eF L l2 e2 s2 hL0
 have s3:=(bX l2 e2).trans s2
 generalize aO l2 e2=q3 at *
 obtain⟨n,l3,e3⟩:=q3
 dsimp only at a3 s3 hR
 dsimp only [d0]at hR
 clear s1 s2 hs0
 have hk:k=4:=hk
 subst hk
 rw[V3 (show ¬(4:Int)=1 by decide),V3 (show ¬(4:Int)=2 by decide),V3 (show ¬(4:Int)=3 by decide),V3 (show ¬(4:Int)=5 by decide),V3 (show ¬(4:Int)=6 by decide)]at hR
 dsimp only at hR
 rw[show gn 4=2 from rfl]at hR
 dsimp only [gc,pO]at hR
 have z3:=s3.length_le
 have a4:=gr L l3 e3 s3 hL0 281474976710656
 have t4:=f8 281474976710656 l3 e3
 have u4:=(bN 281474976710656 l3 e3).length_le
 have s4:=(bN 281474976710656 l3 e3).trans s3
 generalize aW 281474976710656 l3 e3=q4 at *
 obtain⟨x,l4,e4⟩:=q4
 dsimp only at a4 t4 u4 s4 hR
 have a5:=gr L l4 e4 s4 hL0 281474976710656
 have t5:=f8 281474976710656 l4 e4
 have u5:=(bN 281474976710656 l4 e4).length_le
 have s5:=(bN 281474976710656 l4 e4).trans s4
 generalize aW 281474976710656 l4 e4=q5 at *
 obtain⟨y,l5,e5⟩:=q5
 dsimp only at a5 t5 u5 s5 hR
 have hx:(⟨x.toArray⟩:ByteArray).size≤1000000000000:=by show x.toArray.size≤_;rw[WR];omega
 have hy:(⟨y.toArray⟩:ByteArray).size≤1000000000000:=by show y.toArray.size≤_;rw[WR];omega
 subst hR
 dsimp only
 have b1:=kK L l5 e5 s5
 generalize di l5 e5=v at *
 dsimp only [dQ]at a1 a2 a3 a4 a5 b1
 generalize ((L.length-l1.length:Nat):Int)=o1 at a1 a2 a3 a4 a5 b1
 generalize ((L.length-l2.length:Nat):Int)=o2 at a1 a2 a3 a4 a5 b1
 generalize ((L.length-l3.length:Nat):Int)=o3 at a1 a2 a3 a4 a5 b1
 generalize ((L.length-l4.length:Nat):Int)=o4 at a1 a2 a3 a4 a5 b1
 generalize ((L.length-l5.length:Nat):Int)=o5 at a1 a2 a3 a4 a5 b1
 have b3:=(nH x ab).frz
 have hP:ej { kind:=4,ses:=s,num:=n } [x,y]=(if(dG x).2≠0 then({ kind:=4,ses:=s,num:=n },(dG x).2)else if(dG x).1.length=1∧y.length=8 then({ kind:=4,ses:=s,num:=n,rg:=(dG x).1.getD 0 ⟨⟨#[]⟩,⟨#[]⟩,false⟩,sum:=fJ y },0)else({ kind:=4,ses:=s,num:=n },11)):=by
  unfold ej;rw[V3 (show ¬(4:Int)=1 by decide),V6 (show(4:Int)=4 from rfl)];rfl
 rw[hP]
 clear hP
 have hyl:(⟨y.toArray⟩:ByteArray).size=y.length:=by show y.toArray.size=_;rw[WR]
 generalize dG x=f at *
 obtain⟨f1,f2⟩:=f
 dsimp only at b3 ⊢
 try clear s3 s4 s5 s6 s7 s8 s9 s10
 by_cases hv:v≠0
 ·rw[V6 hv]
  clear b3
  refine fi func14 ntmps14 ?_
  (refine aq a0 ?_;repeat' first|apply ah|refine ai fun hc=>?_)
  refine aR (cE 7 _ 32 cd (bS {}) rfl rfl fS) ?_
  (refine dF a1 a2 a3 ?_;repeat' first|apply ah|refine ai fun hc=>?_)
  refine aR (show Le _ _ (ay [(2,.ptr 2 0 0),(5,iC .i64 0),(6,.ptr 25 0 0),(7,.ptr 7 0 0),(96,.ptr 25 0 0),(8,sC ⟨#[]⟩),(9,sC ⟨#[]⟩),(10,sC ⟨#[]⟩)] [(2,.box 32 (cd.map Cnt.per)),(7,.box 32 ((bS { kind:=4,ses:=s,num:=n }).map Cnt.per)),(25,.box 102 [.per (aK L),iC .i64 o3,iC .i64 e3])])from(by exact ae)) ?_
  (refine ft a4 a5 ?_;repeat' first|apply ah|refine ai fun hc=>?_)
  refine aR (show Le _ _ (ay [(2,.ptr 2 0 0),(5,iC .i64 0),(6,.ptr 25 0 0),(7,.ptr 7 0 0),(105,.ptr 25 0 0),(8,sC ⟨x.toArray⟩),(9,sC ⟨y.toArray⟩),(10,sC ⟨#[]⟩)] [(2,.box 32 (cd.map Cnt.per)),(7,.box 32 ((bS { kind:=4,ses:=s,num:=n }).map Cnt.per)),(25,.box 102 [.per (aK L),iC .i64 o5,iC .i64 e5])])from(by exact ae)) ?_
  (refine dy b1 ?_;repeat' first|apply ah|refine ai fun hc=>?_)
  refine d9 ?_ ?_
  ·exact lD
  ·exact al rfl rfl
 rw[V3 hv]
 have hv:v=0:=WB.1 hv
 subst hv
 by_cases hf:f2≠0
 ·rw[V6 hf,V6 hf]
  refine fi func14 ntmps14 ?_
  (refine aq a0 ?_;repeat' first|apply ah|refine ai fun hc=>?_)
  refine aR (cE 7 _ 32 cd (bS {}) rfl rfl fS) ?_
  (refine dF a1 a2 a3 ?_;repeat' first|apply ah|refine ai fun hc=>?_)
  refine aR (show Le _ _ (ay [(2,.ptr 2 0 0),(5,iC .i64 0),(6,.ptr 25 0 0),(7,.ptr 7 0 0),(96,.ptr 25 0 0),(8,sC ⟨#[]⟩),(9,sC ⟨#[]⟩),(10,sC ⟨#[]⟩)] [(2,.box 32 (cd.map Cnt.per)),(7,.box 32 ((bS { kind:=4,ses:=s,num:=n }).map Cnt.per)),(25,.box 102 [.per (aK L),iC .i64 o3,iC .i64 e3])])from(by exact ae)) ?_
  (refine ft a4 a5 ?_;repeat' first|apply ah|refine ai fun hc=>?_)
  refine aR (show Le _ _ (ay [(2,.ptr 2 0 0),(5,iC .i64 0),(6,.ptr 25 0 0),(7,.ptr 7 0 0),(105,.ptr 25 0 0),(8,sC ⟨x.toArray⟩),(9,sC ⟨y.toArray⟩),(10,sC ⟨#[]⟩)] [(2,.box 32 (cd.map Cnt.per)),(7,.box 32 ((bS { kind:=4,ses:=s,num:=n }).map Cnt.per)),(25,.box 102 [.per (aK L),iC .i64 o5,iC .i64 e5])])from(by exact ae)) ?_
  (refine cW b3 b1 ?_;repeat' first|apply ah|refine ai fun hc=>?_|((first|apply aB rfl|apply aC rfl|apply aD rfl|apply aF rfl);(focus ((try (apply bI;(focus rfl);apply ag rfl rfl rfl rfl rfl));first|((apply aZ 10;(focus rfl);exact m5 ⟨rfl,rfl,rfl⟩ rfl inferInstance inferInstance inferInstance rfl (by first|exact hx|exact hy)))));refine cW b3 b1 ?_))
  refine d9 ?_ ?_
  ·exact lD
  ·exact al rfl rfl
 rw[V3 hf]
 have hf:f2=0:=WB.1 hf
 subst hf
 by_cases hb:¬(f1.length=1∧y.length=8)
 ·rw[V3 hb,V6 (show(11:Int)≠0 by decide)]
  refine fi func14 ntmps14 ?_
  (refine aq a0 ?_;repeat' first|apply ah|refine ai fun hc=>?_)
  refine aR (cE 7 _ 32 cd (bS {}) rfl rfl fS) ?_
  (refine dF a1 a2 a3 ?_;repeat' first|apply ah|refine ai fun hc=>?_)
  refine aR (show Le _ _ (ay [(2,.ptr 2 0 0),(5,iC .i64 0),(6,.ptr 25 0 0),(7,.ptr 7 0 0),(96,.ptr 25 0 0),(8,sC ⟨#[]⟩),(9,sC ⟨#[]⟩),(10,sC ⟨#[]⟩)] [(2,.box 32 (cd.map Cnt.per)),(7,.box 32 ((bS { kind:=4,ses:=s,num:=n }).map Cnt.per)),(25,.box 102 [.per (aK L),iC .i64 o3,iC .i64 e3])])from(by exact ae)) ?_
  (refine ft a4 a5 ?_;repeat' first|apply ah|refine ai fun hc=>?_)
  refine aR (show Le _ _ (ay [(2,.ptr 2 0 0),(5,iC .i64 0),(6,.ptr 25 0 0),(7,.ptr 7 0 0),(105,.ptr 25 0 0),(8,sC ⟨x.toArray⟩),(9,sC ⟨y.toArray⟩),(10,sC ⟨#[]⟩)] [(2,.box 32 (cd.map Cnt.per)),(7,.box 32 ((bS { kind:=4,ses:=s,num:=n }).map Cnt.per)),(25,.box 102 [.per (aK L),iC .i64 o5,iC .i64 e5])])from(by exact ae)) ?_
  (refine cW b3 b1 ?_;repeat' first|apply ah|refine ai fun hc=>?_|((first|apply aB rfl|apply aC rfl|apply aD rfl|apply aF rfl);(focus ((try (apply bI;(focus rfl);apply ag rfl rfl rfl rfl rfl));first|((apply aZ 10;(focus rfl);exact m5 ⟨rfl,rfl,rfl⟩ rfl inferInstance inferInstance inferInstance rfl (by first|exact hx|exact hy)))));refine cW b3 b1 ?_))
  all_goals first|(exfalso;apply hb;constructor<;>first|omega|(simp only at *;omega)|(simp only at *;omega))|skip
  all_goals refine d9 ?_ ?_
  all_goals first|(exact lD)|exact al rfl rfl
 replace hb:=WB.1 hb
 rw[V6 hb,V3 (show ¬(0:Int)≠0 by decide)]
 obtain⟨k1,k2⟩:=hb
 obtain⟨r,rfl⟩:∃r,f1=[r]:=by
  match f1,k1 with
  | [r],_=>exact⟨r,rfl⟩
 dsimp only [Xm]
 have b5:=je { kind:=4,ses:=s,num:=n,rg:=r,sum:=fJ y } au mn au au
 have rd0:[r].getD 0 ⟨⟨#[]⟩,⟨#[]⟩,false⟩=r:=rfl
 rw[rd0]
 clear rd0
 generalize hr:j8 { kind:=4,ses:=s,num:=n,rg:=r,sum:=fJ y }=br at *
 refine fi func14 ntmps14 ?_
 (refine aq a0 ?_;repeat' first|apply ah|refine ai fun hc=>?_)
 refine aR (cE 7 _ 32 cd (bS {}) rfl rfl fS) ?_
 (refine dF a1 a2 a3 ?_;repeat' first|apply ah|refine ai fun hc=>?_)
 refine aR (show Le _ _ (ay [(2,.ptr 2 0 0),(5,iC .i64 0),(6,.ptr 25 0 0),(7,.ptr 7 0 0),(96,.ptr 25 0 0),(8,sC ⟨#[]⟩),(9,sC ⟨#[]⟩),(10,sC ⟨#[]⟩)] [(2,.box 32 (cd.map Cnt.per)),(7,.box 32 ((bS { kind:=4,ses:=s,num:=n }).map Cnt.per)),(25,.box 102 [.per (aK L),iC .i64 o3,iC .i64 e3])])from(by exact ae)) ?_
 (refine ft a4 a5 ?_;repeat' first|apply ah|refine ai fun hc=>?_)
 refine aR (show Le _ _ (ay [(2,.ptr 2 0 0),(5,iC .i64 0),(6,.ptr 25 0 0),(7,.ptr 7 0 0),(105,.ptr 25 0 0),(8,sC ⟨x.toArray⟩),(9,sC ⟨y.toArray⟩),(10,sC ⟨#[]⟩)] [(2,.box 32 (cd.map Cnt.per)),(7,.box 32 ((bS { kind:=4,ses:=s,num:=n }).map Cnt.per)),(25,.box 102 [.per (aK L),iC .i64 o5,iC .i64 e5])])from(by exact ae)) ?_
 (refine cW b3 b1 ?_;repeat' first|apply ah|refine ai fun hc=>?_|((first|apply aB rfl|apply aC rfl|apply aD rfl|apply aF rfl);(focus ((try (apply bI;(focus rfl);apply ag rfl rfl rfl rfl rfl));first|((apply aZ 10;(focus rfl);exact m5 ⟨rfl,rfl,rfl⟩ rfl inferInstance inferInstance inferInstance rfl (by first|exact hx|exact hy)))));refine cW b3 b1 ?_))
 refine bZ (X:=Nat) (fun j=>j≤8) (fun j=>ay [(2,.ptr 2 0 0),(5,iC .i64 0),(7,.ptr 7 0 0),(9,sC ⟨y.toArray⟩),(13,iC .i64 ((j:Int)-1))] [(2,.box 32 (cd.map Cnt.per)),(7,.box 32 ((bS { kind:=4,ses:=s,num:=n,rg:=r,sum:=fJ (y.drop j) }).map Cnt.per))]) (fun j=>j) 8 ab ?_ ?_
 ·rw[show y.drop 8=[]from Wv ab]
  exact ae
 ·intro j hj
  cases j with
  | succ i=>
   have hil:i<y.length:=ab
   have hS:=JR hil
   have hlo:=zr (y.drop (i+1))
   rw[Xb]at hlo
   have hp:256 ^ (y.length-(i+1))≤256 ^ 7:=Nat.pow_le_pow_right bz ab
   have h7:(256:Nat) ^ 7=72057594037927936:=bz
   have hcb:=y[i].toNat_lt
   have hmul:IntKind.u64.wrap (256*(fJ (y.drop (i+1)):Int))=((256*fJ (y.drop (i+1)):Nat):Int):=by
    rw[IntKind.wrap_u64];omega
   have hw:=jH y[i]
   have hadd:IntKind.u64.wrap (((256*fJ (y.drop (i+1)):Nat):Int)+(y[i].toNat:Int))=(fJ (y.drop i):Int):=by
    rw[IntKind.wrap_u64];omega
   have HJ:(⟨y.toArray⟩:ByteArray).data.toList[i]?=some y[i]:=V4 hil
   have hz:((i+1:Nat):Int)-1=((i:Nat):Int):=ab
   rw[hz]
   clear hz hS hlo hp h7 b5 b3 hr
   generalize fJ (y.drop (i+1))=s1 at *
   generalize hs2:fJ (y.drop i)=s2 at *
   (repeat' (first|refine ck ?_|refine bi ?_|refine bA ?_|refine bB ?_|refine cn ?_|refine aU ?_|refine bV cI ?_|refine ci ?_|refine cj (by kernel_rfl) ?_|(refine dL rfl rfl ⟨fun hc=>?_,fun hc=>?_⟩<;>(repeat rw[V7]at hc)<;>(try exact ce hc))|((first|apply aB rfl|apply aC rfl|apply aD rfl|apply aF rfl);focus (first|((apply aZ 8;(focus rfl);exact gC ⟨rfl,rfl,rfl⟩ rfl rfl rfl rfl hmul))|(apply bI;(focus rfl);apply ag rfl rfl rfl rfl rfl;((apply aZ 8;(focus rfl);exact gC ⟨rfl,rfl,rfl⟩ rfl rfl rfl rfl hmul)))|((apply aZ 8;(focus rfl);exact gC ⟨rfl,rfl,rfl⟩ rfl rfl rfl rfl hadd))|(apply bI;(focus rfl);apply ag rfl rfl rfl rfl rfl;((apply aZ 8;(focus rfl);exact gC ⟨rfl,rfl,rfl⟩ rfl rfl rfl rfl hadd)))|((apply aZ 10;(focus rfl);exact d8 ⟨rfl,rfl,rfl⟩ rfl inferInstance inferInstance rfl hw))|(apply bI;(focus rfl);apply ag rfl rfl rfl rfl rfl;((apply aZ 10;(focus rfl);exact d8 ⟨rfl,rfl,rfl⟩ rfl inferInstance inferInstance rfl hw)))|((apply aZ 13;(focus rfl);exact gZ ⟨rfl,rfl,rfl⟩ rfl inferInstance rfl rfl rfl HJ))|(apply bI;(focus rfl);apply ag rfl rfl rfl rfl rfl;((apply aZ 13;(focus rfl);exact gZ ⟨rfl,rfl,rfl⟩ rfl inferInstance rfl rfl rfl HJ)))|exact cz|fail))|refine bD ?_|refine bF ?_|refine bG ?_|refine de ?_|refine dg ?_|refine bH ?_|refine bj rfl ?_|((first|refine dM rfl rfl rfl ⟨fun hc=>?_,fun hc=>?_⟩|refine dN rfl rfl rfl ⟨fun hc=>?_,fun hc=>?_⟩)<;>(fail_if_success (have q:(true=true):=hc))<;>(fail_if_success (have q:(false=false):=hc))<;>(repeat rw[V7]at hc)<;>(try exact ce hc))|refine aH rfl rfl (fun hc=>?_) ?_))
   refine⟨i,ab,ab,?_⟩
   rw[hs2]
   exact ae
  | zero=>
   rw[Xw]
   clear b3
   cases br with
   | false=>
    rw[V3 au]
    (refine aq b5 ?_;repeat' first|apply ah|refine ai fun hc=>?_)
    refine d9 ?_ ?_
    ·exact lD
    ·exact al rfl rfl
   | true=>
    rw[V6 rfl]
    (refine aq b5 ?_;repeat' first|apply ah|refine ai fun hc=>?_)
    refine d9 ?_ ?_
    ·exact lD
    ·exact al rfl rfl
theorem Aj (b:List UInt8)(hb:b.length≤1000000):Fn prog 14 [.per (aK b)] (.tup2 (.per (DB (Ci b).1)) (el (Ci b).2)):=by
 have a0:=Ow b ab
 have hL:=yC b
 unfold Ci
 generalize kM b=q at *
 obtain⟨L,e⟩:=q
 simp only at a0 hL ⊢
 by_cases he:e≠0
 ·rw[V6 he]
  refine fi func14 ntmps14 ?_
  (refine aq a0 ?_;repeat' first|apply ah|refine ai fun hc=>?_)
  refine d9 ?_ ?_
  ·exact lD
  ·exact al rfl rfl
 rw[V3 he]
 have he:e=0:=WB.1 he
 subst he
 by_cases c1:(af 1 6 L 0).1=1
 ·exact JW ab a0 c1
 by_cases c2:(af 1 6 L 0).1=2
 ·exact JS ab a0 c2
 by_cases c3:(af 1 6 L 0).1=3
 ·exact JT ab a0 c3
 by_cases c4:(af 1 6 L 0).1=4
 ·exact JY ab a0 c4
 by_cases c5:(af 1 6 L 0).1=5
 ·exact JX ab a0 c5
 by_cases c6:(af 1 6 L 0).1=6
 ·exact JU ab a0 c6
 ·exact JV ab a0 fun k hk=>by subst hk;exact⟨c1,c2,c3,c4,c5,c6⟩
end Go.Proofs.YtaclhhkblbacgaaGreat
