/- Texts joined: MsT1. -/
import Derived.Test.YtaclhhkblbacgaaGreatJ46
set_option maxRecDepth 10000
set_option maxHeartbeats 8000000
namespace Go.Proofs.YtaclhhkblbacgaaGreat
open Go.RowKit Go.Proofs.Tryz
theorem JW {L:List UInt8}(hL:L.length≤1000000){b:List UInt8}(a0:Fn prog 50 [.per (aK b)] (.tup2 (.per (aK L)) (el 0)))(hk:(af 1 6 L 0).1=1) :
 Fn prog 14 [.per (aK b)] (.tup2 (.per (DB (zt L).1)) (el (zt L).2)):=by
 have hL0:L.length≤1000000000000:=ab
 have hs0:L <:+ L:=WM L
 generalize hR:d7 L=R
 rw[p8 hR]
 dsimp only [d7,ca]at hR
 have a1:=bd L L 0 hs0 hL0 1 6
 have s1:=(ao 1 6 L 0).trans hs0
 generalize af 1 6 L 0=q1 at *
 obtain⟨k,l1,e1⟩:=q1
 dsimp only at a1 s1 hR
 have e0:((L.length-L.length:Nat):Int)=0:=ab
 unfold dQ at a1
 rw[e0]at a1
 clear e0
 have a2:=bd L l1 e1 s1 hL0 1 281474976710656
 have s2:=(ao 1 281474976710656 l1 e1).trans s1
 generalize af 1 281474976710656 l1 e1=q2 at *
 obtain⟨s,l2,e2⟩:=q2
 dsimp only at a2 s2 hR
 have a3:=eF L l2 e2 s2 hL0
 have s3:=(bX l2 e2).trans s2
 generalize aO l2 e2=q3 at *
 obtain⟨n,l3,e3⟩:=q3
 dsimp only at a3 s3 hR
 dsimp only [d0]at hR
 clear s1 s2 hs0
 have hk:k=1:=hk
 subst hk
 rw[V6 (show(1:Int)=1 from rfl)]at hR
 dsimp only at hR
 have a4:=eF L l3 e3 s3 hL0
 have s4:=(bX l3 e3).trans s3
 generalize aO l3 e3=q4 at *
 obtain⟨n4,l4,e4⟩:=q4
 dsimp only at a4 s4 hR
 have a5:=eF L l4 e4 s4 hL0
 have s5:=(bX l4 e4).trans s4
 generalize aO l4 e4=q5 at *
 obtain⟨n5,l5,e5⟩:=q5
 dsimp only at a5 s5 hR
 have a6:=bd L l5 e5 s5 hL0 0 64
 have s6:=(ao 0 64 l5 e5).trans s5
 generalize af 0 64 l5 e5=q6 at *
 obtain⟨n6,l6,e6⟩:=q6
 dsimp only at a6 s6 hR
 have a7:=bd L l6 e6 s6 hL0 0 1
 have s7:=(ao 0 1 l6 e6).trans s6
 generalize af 0 1 l6 e6=q7 at *
 obtain⟨n7,l7,e7⟩:=q7
 dsimp only at a7 s7 hR
 rw[show gn 1=3 from rfl]at hR
 dsimp only [gc,pO]at hR
 have z7:=s7.length_le
 have a8:=gr L l7 e7 s7 hL0 281474976710656
 have t8:=f8 281474976710656 l7 e7
 have u8:=(bN 281474976710656 l7 e7).length_le
 have s8:=(bN 281474976710656 l7 e7).trans s7
 generalize aW 281474976710656 l7 e7=q8 at *
 obtain⟨x,l8,e8⟩:=q8
 dsimp only at a8 t8 u8 s8 hR
 have a9:=gr L l8 e8 s8 hL0 281474976710656
 have t9:=f8 281474976710656 l8 e8
 have u9:=(bN 281474976710656 l8 e8).length_le
 have s9:=(bN 281474976710656 l8 e8).trans s8
 generalize aW 281474976710656 l8 e8=q9 at *
 obtain⟨y,l9,e9⟩:=q9
 dsimp only at a9 t9 u9 s9 hR
 have a10:=gr L l9 e9 s9 hL0 281474976710656
 have t10:=f8 281474976710656 l9 e9
 have u10:=(bN 281474976710656 l9 e9).length_le
 have s10:=(bN 281474976710656 l9 e9).trans s9
 generalize aW 281474976710656 l9 e9=q10 at *
 obtain⟨z,l10,e10⟩:=q10
 dsimp only at a10 t10 u10 s10 hR
 have hx:(⟨x.toArray⟩:ByteArray).size≤1000000000000:=by show x.toArray.size≤_;rw[WR];omega
 have hy:(⟨y.toArray⟩:ByteArray).size≤1000000000000:=by show y.toArray.size≤_;rw[WR];omega
 have hz:(⟨z.toArray⟩:ByteArray).size≤1000000000000:=by show z.toArray.size≤_;rw[WR];omega
 subst hR
 dsimp only
 have b1:=kK L l10 e10 s10
 generalize di l10 e10=v at *
 dsimp only [dQ]at a1 a2 a3 a4 a5 a6 a7 a8 a9 a10 b1
 generalize ((L.length-l1.length:Nat):Int)=o1 at a1 a2 a3 a4 a5 a6 a7 a8 a9 a10 b1
 generalize ((L.length-l2.length:Nat):Int)=o2 at a1 a2 a3 a4 a5 a6 a7 a8 a9 a10 b1
 generalize ((L.length-l3.length:Nat):Int)=o3 at a1 a2 a3 a4 a5 a6 a7 a8 a9 a10 b1
 generalize ((L.length-l4.length:Nat):Int)=o4 at a1 a2 a3 a4 a5 a6 a7 a8 a9 a10 b1
 generalize ((L.length-l5.length:Nat):Int)=o5 at a1 a2 a3 a4 a5 a6 a7 a8 a9 a10 b1
 generalize ((L.length-l6.length:Nat):Int)=o6 at a1 a2 a3 a4 a5 a6 a7 a8 a9 a10 b1
 generalize ((L.length-l7.length:Nat):Int)=o7 at a1 a2 a3 a4 a5 a6 a7 a8 a9 a10 b1
 generalize ((L.length-l8.length:Nat):Int)=o8 at a1 a2 a3 a4 a5 a6 a7 a8 a9 a10 b1
 generalize ((L.length-l9.length:Nat):Int)=o9 at a1 a2 a3 a4 a5 a6 a7 a8 a9 a10 b1
 generalize ((L.length-l10.length:Nat):Int)=o10 at a1 a2 a3 a4 a5 a6 a7 a8 a9 a10 b1
 have b3:=(nH x ab).frz
 have b4:=(qv y ab).frz
 have k1:(dG x).2=0→(dG x).1.length≤4096:=fun h=>by have:=(kL h).2.1;omega
 have k2:=yD y
 have hP:ej { kind:=1,ses:=s,num:=n,lim:=n4,seed:=n5,bits:=n6,wants:=n7==1 } [x,y,z]=(if(dG x).2≠0 then({ kind:=1,ses:=s,num:=n,lim:=n4,seed:=n5,bits:=n6,wants:=n7==1 },(dG x).2)else if(dc y).2≠0 then({ kind:=1,ses:=s,num:=n,lim:=n4,seed:=n5,bits:=n6,wants:=n7==1 },(dc y).2)else({ kind:=1,ses:=s,num:=n,lim:=n4,seed:=n5,bits:=n6,wants:=n7==1,flt:=(dG x).1,know:=(dc y).1,there:=z },0)):=by
  unfold ej;rw[V6 (show(1:Int)=1 from rfl)];rfl
 rw[hP]
 clear hP
 generalize dG x=f at *
 generalize dc y=g at *
 obtain⟨f1,f2⟩:=f
 obtain⟨g1,g2⟩:=g
 dsimp only at b3 b4 k1 k2 ⊢
 try clear s3 s4 s5 s6 s7 s8 s9 s10
 by_cases hv:v≠0
 ·rw[V6 hv]
  clear b3 b4 k1 k2
  refine fi func14 ntmps14 ?_
  (refine aq a0 ?_;repeat' first|apply ah|refine ai fun hc=>?_)
  refine aR (cE 7 _ 32 cd (bS {}) rfl rfl fS) ?_
  (refine dF a1 a2 a3 ?_;repeat' first|apply ah|refine ai fun hc=>?_)
  refine aR (show Le _ _ (ay [(2,.ptr 2 0 0),(5,iC .i64 0),(6,.ptr 25 0 0),(7,.ptr 7 0 0),(39,.ptr 25 0 0)] [(2,.box 32 (cd.map Cnt.per)),(7,.box 32 ((bS { kind:=1,ses:=s,num:=n }).map Cnt.per)),(25,.box 102 [.per (aK L),iC .i64 o3,iC .i64 e3])])from(by exact ae)) ?_
  (refine mZ a4 a5 a6 a7 ?_;repeat' first|apply ah|refine ai fun hc=>?_)
  refine aR (show Le _ _ (ay [(2,.ptr 2 0 0),(5,iC .i64 0),(6,.ptr 25 0 0),(7,.ptr 7 0 0),(96,.ptr 25 0 0),(8,sC ⟨#[]⟩),(9,sC ⟨#[]⟩),(10,sC ⟨#[]⟩)] [(2,.box 32 (cd.map Cnt.per)),(7,.box 32 ((bS { kind:=1,ses:=s,num:=n,lim:=n4,seed:=n5,bits:=n6,wants:=n7==1 }).map Cnt.per)),(25,.box 102 [.per (aK L),iC .i64 o7,iC .i64 e7])])from(by exact ae)) ?_
  (refine dF a8 a9 a10 ?_;repeat' first|apply ah|refine ai fun hc=>?_)
  refine aR (show Le _ _ (ay [(2,.ptr 2 0 0),(5,iC .i64 0),(6,.ptr 25 0 0),(7,.ptr 7 0 0),(105,.ptr 25 0 0),(8,sC ⟨x.toArray⟩),(9,sC ⟨y.toArray⟩),(10,sC ⟨z.toArray⟩)] [(2,.box 32 (cd.map Cnt.per)),(7,.box 32 ((bS { kind:=1,ses:=s,num:=n,lim:=n4,seed:=n5,bits:=n6,wants:=n7==1 }).map Cnt.per)),(25,.box 102 [.per (aK L),iC .i64 o10,iC .i64 e10])])from(by exact ae)) ?_
  (refine dy b1 ?_;repeat' first|apply ah|refine ai fun hc=>?_)
  refine d9 ?_ ?_
  ·exact lD
  ·exact al rfl rfl
 rw[V3 hv]
 have hv:v=0:=WB.1 hv
 subst hv
 by_cases hf:f2≠0
 ·rw[V6 hf,V6 hf]
  clear b4 k1 k2
  refine fi func14 ntmps14 ?_
  (refine aq a0 ?_;repeat' first|apply ah|refine ai fun hc=>?_)
  refine aR (cE 7 _ 32 cd (bS {}) rfl rfl fS) ?_
  (refine dF a1 a2 a3 ?_;repeat' first|apply ah|refine ai fun hc=>?_)
  refine aR (show Le _ _ (ay [(2,.ptr 2 0 0),(5,iC .i64 0),(6,.ptr 25 0 0),(7,.ptr 7 0 0),(39,.ptr 25 0 0)] [(2,.box 32 (cd.map Cnt.per)),(7,.box 32 ((bS { kind:=1,ses:=s,num:=n }).map Cnt.per)),(25,.box 102 [.per (aK L),iC .i64 o3,iC .i64 e3])])from(by exact ae)) ?_
  (refine mZ a4 a5 a6 a7 ?_;repeat' first|apply ah|refine ai fun hc=>?_)
  refine aR (show Le _ _ (ay [(2,.ptr 2 0 0),(5,iC .i64 0),(6,.ptr 25 0 0),(7,.ptr 7 0 0),(96,.ptr 25 0 0),(8,sC ⟨#[]⟩),(9,sC ⟨#[]⟩),(10,sC ⟨#[]⟩)] [(2,.box 32 (cd.map Cnt.per)),(7,.box 32 ((bS { kind:=1,ses:=s,num:=n,lim:=n4,seed:=n5,bits:=n6,wants:=n7==1 }).map Cnt.per)),(25,.box 102 [.per (aK L),iC .i64 o7,iC .i64 e7])])from(by exact ae)) ?_
  (refine dF a8 a9 a10 ?_;repeat' first|apply ah|refine ai fun hc=>?_)
  refine aR (show Le _ _ (ay [(2,.ptr 2 0 0),(5,iC .i64 0),(6,.ptr 25 0 0),(7,.ptr 7 0 0),(105,.ptr 25 0 0),(8,sC ⟨x.toArray⟩),(9,sC ⟨y.toArray⟩),(10,sC ⟨z.toArray⟩)] [(2,.box 32 (cd.map Cnt.per)),(7,.box 32 ((bS { kind:=1,ses:=s,num:=n,lim:=n4,seed:=n5,bits:=n6,wants:=n7==1 }).map Cnt.per)),(25,.box 102 [.per (aK L),iC .i64 o10,iC .i64 e10])])from(by exact ae)) ?_
  (refine cW b3 b1 ?_;repeat' first|apply ah|refine ai fun hc=>?_|((first|apply aB rfl|apply aC rfl|apply aD rfl|apply aF rfl);(focus ((try (apply bI;(focus rfl);apply ag rfl rfl rfl rfl rfl));first|((apply aZ 10;(focus rfl);exact m5 ⟨rfl,rfl,rfl⟩ rfl inferInstance inferInstance inferInstance rfl (by first|exact hx|exact hy|exact hz)))));refine cW b3 b1 ?_))
  refine d9 ?_ ?_
  ·exact lD
  ·exact al rfl rfl
 rw[V3 hf]
 have hf:f2=0:=WB.1 hf
 subst hf
 by_cases hg:g2≠0
 ·rw[V6 hg,V6 hg]
  clear k1 k2
  refine fi func14 ntmps14 ?_
  (refine aq a0 ?_;repeat' first|apply ah|refine ai fun hc=>?_)
  refine aR (cE 7 _ 32 cd (bS {}) rfl rfl fS) ?_
  (refine dF a1 a2 a3 ?_;repeat' first|apply ah|refine ai fun hc=>?_)
  refine aR (show Le _ _ (ay [(2,.ptr 2 0 0),(5,iC .i64 0),(6,.ptr 25 0 0),(7,.ptr 7 0 0),(39,.ptr 25 0 0)] [(2,.box 32 (cd.map Cnt.per)),(7,.box 32 ((bS { kind:=1,ses:=s,num:=n }).map Cnt.per)),(25,.box 102 [.per (aK L),iC .i64 o3,iC .i64 e3])])from(by exact ae)) ?_
  (refine mZ a4 a5 a6 a7 ?_;repeat' first|apply ah|refine ai fun hc=>?_)
  refine aR (show Le _ _ (ay [(2,.ptr 2 0 0),(5,iC .i64 0),(6,.ptr 25 0 0),(7,.ptr 7 0 0),(96,.ptr 25 0 0),(8,sC ⟨#[]⟩),(9,sC ⟨#[]⟩),(10,sC ⟨#[]⟩)] [(2,.box 32 (cd.map Cnt.per)),(7,.box 32 ((bS { kind:=1,ses:=s,num:=n,lim:=n4,seed:=n5,bits:=n6,wants:=n7==1 }).map Cnt.per)),(25,.box 102 [.per (aK L),iC .i64 o7,iC .i64 e7])])from(by exact ae)) ?_
  (refine dF a8 a9 a10 ?_;repeat' first|apply ah|refine ai fun hc=>?_)
  refine aR (show Le _ _ (ay [(2,.ptr 2 0 0),(5,iC .i64 0),(6,.ptr 25 0 0),(7,.ptr 7 0 0),(105,.ptr 25 0 0),(8,sC ⟨x.toArray⟩),(9,sC ⟨y.toArray⟩),(10,sC ⟨z.toArray⟩)] [(2,.box 32 (cd.map Cnt.per)),(7,.box 32 ((bS { kind:=1,ses:=s,num:=n,lim:=n4,seed:=n5,bits:=n6,wants:=n7==1 }).map Cnt.per)),(25,.box 102 [.per (aK L),iC .i64 o10,iC .i64 e10])])from(by exact ae)) ?_
  (refine qp b3 b4 b1 ?_;repeat' first|apply ah|refine ai fun hc=>?_|((first|apply aB rfl|apply aC rfl|apply aD rfl|apply aF rfl);(focus ((try (apply bI;(focus rfl);apply ag rfl rfl rfl rfl rfl));first|((apply aZ 10;(focus rfl);exact m5 ⟨rfl,rfl,rfl⟩ rfl inferInstance inferInstance inferInstance rfl (by first|exact hx|exact hy|exact hz)))));refine qp b3 b4 b1 ?_))
  refine d9 ?_ ?_
  ·exact lD
  ·exact al rfl rfl
 rw[V3 hg,V3 (show ¬(0:Int)≠0 by decide)]
 have hg:g2=0:=WB.1 hg
 subst hg
 have k1:=k1 rfl
 have k2:=k2.1
 have b5:=je { kind:=1,ses:=s,num:=n,lim:=n4,seed:=n5,bits:=n6,wants:=n7==1,flt:=f1,know:=g1,there:=z } aA k2 aA au
 dsimp only
 clear k1 k2
 cases hr:j8 { kind:=1,ses:=s,num:=n,lim:=n4,seed:=n5,bits:=n6,wants:=n7==1,flt:=f1,know:=g1,there:=z }with
 | false=>
  rw[hr]at b5
  rw[V3 au]
  refine fi func14 ntmps14 ?_
  (refine aq a0 ?_;repeat' first|apply ah|refine ai fun hc=>?_)
  refine aR (cE 7 _ 32 cd (bS {}) rfl rfl fS) ?_
  (refine dF a1 a2 a3 ?_;repeat' first|apply ah|refine ai fun hc=>?_)
  refine aR (show Le _ _ (ay [(2,.ptr 2 0 0),(5,iC .i64 0),(6,.ptr 25 0 0),(7,.ptr 7 0 0),(39,.ptr 25 0 0)] [(2,.box 32 (cd.map Cnt.per)),(7,.box 32 ((bS { kind:=1,ses:=s,num:=n }).map Cnt.per)),(25,.box 102 [.per (aK L),iC .i64 o3,iC .i64 e3])])from(by exact ae)) ?_
  (refine mZ a4 a5 a6 a7 ?_;repeat' first|apply ah|refine ai fun hc=>?_)
  refine aR (show Le _ _ (ay [(2,.ptr 2 0 0),(5,iC .i64 0),(6,.ptr 25 0 0),(7,.ptr 7 0 0),(96,.ptr 25 0 0),(8,sC ⟨#[]⟩),(9,sC ⟨#[]⟩),(10,sC ⟨#[]⟩)] [(2,.box 32 (cd.map Cnt.per)),(7,.box 32 ((bS { kind:=1,ses:=s,num:=n,lim:=n4,seed:=n5,bits:=n6,wants:=n7==1 }).map Cnt.per)),(25,.box 102 [.per (aK L),iC .i64 o7,iC .i64 e7])])from(by exact ae)) ?_
  (refine dF a8 a9 a10 ?_;repeat' first|apply ah|refine ai fun hc=>?_)
  refine aR (show Le _ _ (ay [(2,.ptr 2 0 0),(5,iC .i64 0),(6,.ptr 25 0 0),(7,.ptr 7 0 0),(105,.ptr 25 0 0),(8,sC ⟨x.toArray⟩),(9,sC ⟨y.toArray⟩),(10,sC ⟨z.toArray⟩)] [(2,.box 32 (cd.map Cnt.per)),(7,.box 32 ((bS { kind:=1,ses:=s,num:=n,lim:=n4,seed:=n5,bits:=n6,wants:=n7==1 }).map Cnt.per)),(25,.box 102 [.per (aK L),iC .i64 o10,iC .i64 e10])])from(by exact ae)) ?_
  (refine jQ b3 b4 b5 b1 ?_;repeat' first|apply ah|refine ai fun hc=>?_|((first|apply aB rfl|apply aC rfl|apply aD rfl|apply aF rfl);(focus ((try (apply bI;(focus rfl);apply ag rfl rfl rfl rfl rfl));first|((apply aZ 10;(focus rfl);exact m5 ⟨rfl,rfl,rfl⟩ rfl inferInstance inferInstance inferInstance rfl (by first|exact hx|exact hy|exact hz)))));refine jQ b3 b4 b5 b1 ?_))
  refine d9 ?_ ?_
  ·exact lD
  ·exact al rfl rfl
 | true=>
  rw[hr]at b5
  rw[V6 rfl]
  refine fi func14 ntmps14 ?_
  (refine aq a0 ?_;repeat' first|apply ah|refine ai fun hc=>?_)
  refine aR (cE 7 _ 32 cd (bS {}) rfl rfl fS) ?_
  (refine dF a1 a2 a3 ?_;repeat' first|apply ah|refine ai fun hc=>?_)
  refine aR (show Le _ _ (ay [(2,.ptr 2 0 0),(5,iC .i64 0),(6,.ptr 25 0 0),(7,.ptr 7 0 0),(39,.ptr 25 0 0)] [(2,.box 32 (cd.map Cnt.per)),(7,.box 32 ((bS { kind:=1,ses:=s,num:=n }).map Cnt.per)),(25,.box 102 [.per (aK L),iC .i64 o3,iC .i64 e3])])from(by exact ae)) ?_
  (refine mZ a4 a5 a6 a7 ?_;repeat' first|apply ah|refine ai fun hc=>?_)
  refine aR (show Le _ _ (ay [(2,.ptr 2 0 0),(5,iC .i64 0),(6,.ptr 25 0 0),(7,.ptr 7 0 0),(96,.ptr 25 0 0),(8,sC ⟨#[]⟩),(9,sC ⟨#[]⟩),(10,sC ⟨#[]⟩)] [(2,.box 32 (cd.map Cnt.per)),(7,.box 32 ((bS { kind:=1,ses:=s,num:=n,lim:=n4,seed:=n5,bits:=n6,wants:=n7==1 }).map Cnt.per)),(25,.box 102 [.per (aK L),iC .i64 o7,iC .i64 e7])])from(by exact ae)) ?_
  (refine dF a8 a9 a10 ?_;repeat' first|apply ah|refine ai fun hc=>?_)
  refine aR (show Le _ _ (ay [(2,.ptr 2 0 0),(5,iC .i64 0),(6,.ptr 25 0 0),(7,.ptr 7 0 0),(105,.ptr 25 0 0),(8,sC ⟨x.toArray⟩),(9,sC ⟨y.toArray⟩),(10,sC ⟨z.toArray⟩)] [(2,.box 32 (cd.map Cnt.per)),(7,.box 32 ((bS { kind:=1,ses:=s,num:=n,lim:=n4,seed:=n5,bits:=n6,wants:=n7==1 }).map Cnt.per)),(25,.box 102 [.per (aK L),iC .i64 o10,iC .i64 e10])])from(by exact ae)) ?_
  (refine jQ b3 b4 b5 b1 ?_;repeat' first|apply ah|refine ai fun hc=>?_|((first|apply aB rfl|apply aC rfl|apply aD rfl|apply aF rfl);(focus ((try (apply bI;(focus rfl);apply ag rfl rfl rfl rfl rfl));first|((apply aZ 10;(focus rfl);exact m5 ⟨rfl,rfl,rfl⟩ rfl inferInstance inferInstance inferInstance rfl (by first|exact hx|exact hy|exact hz)))));refine jQ b3 b4 b5 b1 ?_))
  refine d9 ?_ ?_
  ·exact lD
  ·exact al rfl rfl
theorem JX {L:List UInt8}(hL:L.length≤1000000){b:List UInt8}(a0:Fn prog 50 [.per (aK b)] (.tup2 (.per (aK L)) (el 0)))(hk:(af 1 6 L 0).1=5) :
 Fn prog 14 [.per (aK b)] (.tup2 (.per (DB (zt L).1)) (el (zt L).2)):=by
 have hL0:L.length≤1000000000000:=ab
 have hs0:L <:+ L:=WM L
 generalize hR:d7 L=R
 rw[p8 hR]
 dsimp only [d7,ca]at hR
 have a1:=bd L L 0 hs0 hL0 1 6
 have s1:=(ao 1 6 L 0).trans hs0
 generalize af 1 6 L 0=q1 at *
 obtain⟨k,l1,e1⟩:=q1
 dsimp only at a1 s1 hR
 have e0:((L.length-L.length:Nat):Int)=0:=ab
 unfold dQ at a1
 rw[e0]at a1
 clear e0
 have a2:=bd L l1 e1 s1 hL0 1 281474976710656
 have s2:=(ao 1 281474976710656 l1 e1).trans s1
 generalize af 1 281474976710656 l1 e1=q2 at *
 obtain⟨s,l2,e2⟩:=q2
 dsimp only at a2 s2 hR
 have a3:=eF L l2 e2 s2 hL0
 have s3:=(bX l2 e2).trans s2
 generalize aO l2 e2=q3 at *
 obtain⟨n,l3,e3⟩:=q3
 dsimp only at a3 s3 hR
 dsimp only [d0]at hR
 clear s1 s2 hs0
 have hk:k=5:=hk
 subst hk
 rw[V3 (show ¬(5:Int)=1 by decide),V3 (show ¬(5:Int)=2 by decide),V3 (show ¬(5:Int)=3 by decide),V6 (show(5:Int)=5 from rfl)]at hR
 dsimp only at hR
 have a4:=eF L l3 e3 s3 hL0
 have s4:=(bX l3 e3).trans s3
 generalize aO l3 e3=q4 at *
 obtain⟨n4,l4,e4⟩:=q4
 dsimp only at a4 s4 hR
 have a5:=bd L l4 e4 s4 hL0 0 1
 have s5:=(ao 0 1 l4 e4).trans s4
 generalize af 0 1 l4 e4=q5 at *
 obtain⟨n5,l5,e5⟩:=q5
 dsimp only at a5 s5 hR
 rw[show gn 5=2 from rfl]at hR
 dsimp only [gc,pO]at hR
 have z5:=s5.length_le
 have a6:=gr L l5 e5 s5 hL0 281474976710656
 have t6:=f8 281474976710656 l5 e5
 have u6:=(bN 281474976710656 l5 e5).length_le
 have s6:=(bN 281474976710656 l5 e5).trans s5
 generalize aW 281474976710656 l5 e5=q6 at *
 obtain⟨x,l6,e6⟩:=q6
 dsimp only at a6 t6 u6 s6 hR
 have a7:=gr L l6 e6 s6 hL0 281474976710656
 have t7:=f8 281474976710656 l6 e6
 have u7:=(bN 281474976710656 l6 e6).length_le
 have s7:=(bN 281474976710656 l6 e6).trans s6
 generalize aW 281474976710656 l6 e6=q7 at *
 obtain⟨y,l7,e7⟩:=q7
 dsimp only at a7 t7 u7 s7 hR
 have hx:(⟨x.toArray⟩:ByteArray).size≤1000000000000:=by show x.toArray.size≤_;rw[WR];omega
 have hy:(⟨y.toArray⟩:ByteArray).size≤1000000000000:=by show y.toArray.size≤_;rw[WR];omega
 subst hR
 dsimp only
 have b1:=kK L l7 e7 s7
 generalize di l7 e7=v at *
 dsimp only [dQ]at a1 a2 a3 a4 a5 a6 a7 b1
 generalize ((L.length-l1.length:Nat):Int)=o1 at a1 a2 a3 a4 a5 a6 a7 b1
 generalize ((L.length-l2.length:Nat):Int)=o2 at a1 a2 a3 a4 a5 a6 a7 b1
 generalize ((L.length-l3.length:Nat):Int)=o3 at a1 a2 a3 a4 a5 a6 a7 b1
 generalize ((L.length-l4.length:Nat):Int)=o4 at a1 a2 a3 a4 a5 a6 a7 b1
 generalize ((L.length-l5.length:Nat):Int)=o5 at a1 a2 a3 a4 a5 a6 a7 b1
 generalize ((L.length-l6.length:Nat):Int)=o6 at a1 a2 a3 a4 a5 a6 a7 b1
 generalize ((L.length-l7.length:Nat):Int)=o7 at a1 a2 a3 a4 a5 a6 a7 b1
 have b3:=(wD x ab).frz
 have b4:=(qv y ab).frz
 have k1:(dd x).2=0→(dd x).1.length≤4096:=fun h=>by have:=(ks h).2.1;omega
 have k2:=yD y
 have hP:ej { kind:=5,ses:=s,num:=n,nxt:=n4,last:=n5==1 } [x,y]=(if(dd x).2≠0 then({ kind:=5,ses:=s,num:=n,nxt:=n4,last:=n5==1 },(dd x).2)else if(dc y).2≠0 then({ kind:=5,ses:=s,num:=n,nxt:=n4,last:=n5==1 },(dc y).2)else({ kind:=5,ses:=s,num:=n,nxt:=n4,last:=n5==1,its:=(dd x).1,know:=(dc y).1 },0)):=by
  unfold ej;rw[V3 (show ¬(5:Int)=1 by decide),V3 (show ¬(5:Int)=4 by decide),V6 (show(5:Int)=5 from rfl)];rfl
 rw[hP]
 clear hP
 generalize dd x=f at *
 generalize dc y=g at *
 obtain⟨f1,f2⟩:=f
 obtain⟨g1,g2⟩:=g
 dsimp only at b3 b4 k1 k2 ⊢
 try clear s3 s4 s5 s6 s7 s8 s9 s10
 by_cases hv:v≠0
 ·rw[V6 hv]
  clear b3 b4 k1 k2
  refine fi func14 ntmps14 ?_
  (refine aq a0 ?_;repeat' first|apply ah|refine ai fun hc=>?_)
  refine aR (cE 7 _ 32 cd (bS {}) rfl rfl fS) ?_
  (refine dF a1 a2 a3 ?_;repeat' first|apply ah|refine ai fun hc=>?_)
  refine aR (show Le _ _ (ay [(2,.ptr 2 0 0),(5,iC .i64 0),(6,.ptr 25 0 0),(7,.ptr 7 0 0),(67,.ptr 25 0 0)] [(2,.box 32 (cd.map Cnt.per)),(7,.box 32 ((bS { kind:=5,ses:=s,num:=n }).map Cnt.per)),(25,.box 102 [.per (aK L),iC .i64 o3,iC .i64 e3])])from(by exact ae)) ?_
  (refine ft a4 a5 ?_;repeat' first|apply ah|refine ai fun hc=>?_)
  refine aR (show Le _ _ (ay [(2,.ptr 2 0 0),(5,iC .i64 0),(6,.ptr 25 0 0),(7,.ptr 7 0 0),(96,.ptr 25 0 0),(8,sC ⟨#[]⟩),(9,sC ⟨#[]⟩),(10,sC ⟨#[]⟩)] [(2,.box 32 (cd.map Cnt.per)),(7,.box 32 ((bS { kind:=5,ses:=s,num:=n,nxt:=n4,last:=n5==1 }).map Cnt.per)),(25,.box 102 [.per (aK L),iC .i64 o5,iC .i64 e5])])from(by exact ae)) ?_
  (refine ft a6 a7 ?_;repeat' first|apply ah|refine ai fun hc=>?_)
  refine aR (show Le _ _ (ay [(2,.ptr 2 0 0),(5,iC .i64 0),(6,.ptr 25 0 0),(7,.ptr 7 0 0),(105,.ptr 25 0 0),(8,sC ⟨x.toArray⟩),(9,sC ⟨y.toArray⟩),(10,sC ⟨#[]⟩)] [(2,.box 32 (cd.map Cnt.per)),(7,.box 32 ((bS { kind:=5,ses:=s,num:=n,nxt:=n4,last:=n5==1 }).map Cnt.per)),(25,.box 102 [.per (aK L),iC .i64 o7,iC .i64 e7])])from(by exact ae)) ?_
  (refine dy b1 ?_;repeat' first|apply ah|refine ai fun hc=>?_)
  refine d9 ?_ ?_
  ·exact lD
  ·exact al rfl rfl
 rw[V3 hv]
 have hv:v=0:=WB.1 hv
 subst hv
 by_cases hf:f2≠0
 ·rw[V6 hf,V6 hf]
  clear b4 k1 k2
  refine fi func14 ntmps14 ?_
  (refine aq a0 ?_;repeat' first|apply ah|refine ai fun hc=>?_)
  refine aR (cE 7 _ 32 cd (bS {}) rfl rfl fS) ?_
  (refine dF a1 a2 a3 ?_;repeat' first|apply ah|refine ai fun hc=>?_)
  refine aR (show Le _ _ (ay [(2,.ptr 2 0 0),(5,iC .i64 0),(6,.ptr 25 0 0),(7,.ptr 7 0 0),(67,.ptr 25 0 0)] [(2,.box 32 (cd.map Cnt.per)),(7,.box 32 ((bS { kind:=5,ses:=s,num:=n }).map Cnt.per)),(25,.box 102 [.per (aK L),iC .i64 o3,iC .i64 e3])])from(by exact ae)) ?_
  (refine ft a4 a5 ?_;repeat' first|apply ah|refine ai fun hc=>?_)
  refine aR (show Le _ _ (ay [(2,.ptr 2 0 0),(5,iC .i64 0),(6,.ptr 25 0 0),(7,.ptr 7 0 0),(96,.ptr 25 0 0),(8,sC ⟨#[]⟩),(9,sC ⟨#[]⟩),(10,sC ⟨#[]⟩)] [(2,.box 32 (cd.map Cnt.per)),(7,.box 32 ((bS { kind:=5,ses:=s,num:=n,nxt:=n4,last:=n5==1 }).map Cnt.per)),(25,.box 102 [.per (aK L),iC .i64 o5,iC .i64 e5])])from(by exact ae)) ?_
  (refine ft a6 a7 ?_;repeat' first|apply ah|refine ai fun hc=>?_)
  refine aR (show Le _ _ (ay [(2,.ptr 2 0 0),(5,iC .i64 0),(6,.ptr 25 0 0),(7,.ptr 7 0 0),(105,.ptr 25 0 0),(8,sC ⟨x.toArray⟩),(9,sC ⟨y.toArray⟩),(10,sC ⟨#[]⟩)] [(2,.box 32 (cd.map Cnt.per)),(7,.box 32 ((bS { kind:=5,ses:=s,num:=n,nxt:=n4,last:=n5==1 }).map Cnt.per)),(25,.box 102 [.per (aK L),iC .i64 o7,iC .i64 e7])])from(by exact ae)) ?_
  (refine cW b3 b1 ?_;repeat' first|apply ah|refine ai fun hc=>?_|((first|apply aB rfl|apply aC rfl|apply aD rfl|apply aF rfl);(focus ((try (apply bI;(focus rfl);apply ag rfl rfl rfl rfl rfl));first|((apply aZ 10;(focus rfl);exact m5 ⟨rfl,rfl,rfl⟩ rfl inferInstance inferInstance inferInstance rfl (by first|exact hx|exact hy)))));refine cW b3 b1 ?_))
  refine d9 ?_ ?_
  ·exact lD
  ·exact al rfl rfl
 rw[V3 hf]
 have hf:f2=0:=WB.1 hf
 subst hf
 by_cases hg:g2≠0
 ·rw[V6 hg,V6 hg]
  clear k1 k2
  refine fi func14 ntmps14 ?_
  (refine aq a0 ?_;repeat' first|apply ah|refine ai fun hc=>?_)
  refine aR (cE 7 _ 32 cd (bS {}) rfl rfl fS) ?_
  (refine dF a1 a2 a3 ?_;repeat' first|apply ah|refine ai fun hc=>?_)
  refine aR (show Le _ _ (ay [(2,.ptr 2 0 0),(5,iC .i64 0),(6,.ptr 25 0 0),(7,.ptr 7 0 0),(67,.ptr 25 0 0)] [(2,.box 32 (cd.map Cnt.per)),(7,.box 32 ((bS { kind:=5,ses:=s,num:=n }).map Cnt.per)),(25,.box 102 [.per (aK L),iC .i64 o3,iC .i64 e3])])from(by exact ae)) ?_
  (refine ft a4 a5 ?_;repeat' first|apply ah|refine ai fun hc=>?_)
  refine aR (show Le _ _ (ay [(2,.ptr 2 0 0),(5,iC .i64 0),(6,.ptr 25 0 0),(7,.ptr 7 0 0),(96,.ptr 25 0 0),(8,sC ⟨#[]⟩),(9,sC ⟨#[]⟩),(10,sC ⟨#[]⟩)] [(2,.box 32 (cd.map Cnt.per)),(7,.box 32 ((bS { kind:=5,ses:=s,num:=n,nxt:=n4,last:=n5==1 }).map Cnt.per)),(25,.box 102 [.per (aK L),iC .i64 o5,iC .i64 e5])])from(by exact ae)) ?_
  (refine ft a6 a7 ?_;repeat' first|apply ah|refine ai fun hc=>?_)
  refine aR (show Le _ _ (ay [(2,.ptr 2 0 0),(5,iC .i64 0),(6,.ptr 25 0 0),(7,.ptr 7 0 0),(105,.ptr 25 0 0),(8,sC ⟨x.toArray⟩),(9,sC ⟨y.toArray⟩),(10,sC ⟨#[]⟩)] [(2,.box 32 (cd.map Cnt.per)),(7,.box 32 ((bS { kind:=5,ses:=s,num:=n,nxt:=n4,last:=n5==1 }).map Cnt.per)),(25,.box 102 [.per (aK L),iC .i64 o7,iC .i64 e7])])from(by exact ae)) ?_
  (refine qp b3 b4 b1 ?_;repeat' first|apply ah|refine ai fun hc=>?_|((first|apply aB rfl|apply aC rfl|apply aD rfl|apply aF rfl);(focus ((try (apply bI;(focus rfl);apply ag rfl rfl rfl rfl rfl));first|((apply aZ 10;(focus rfl);exact m5 ⟨rfl,rfl,rfl⟩ rfl inferInstance inferInstance inferInstance rfl (by first|exact hx|exact hy)))));refine qp b3 b4 b1 ?_))
  refine d9 ?_ ?_
  ·exact lD
  ·exact al rfl rfl
 rw[V3 hg,V3 (show ¬(0:Int)≠0 by decide)]
 have hg:g2=0:=WB.1 hg
 subst hg
 have k1:=k1 rfl
 have k2:=k2.1
 have b5:=je { kind:=5,ses:=s,num:=n,nxt:=n4,last:=n5==1,its:=f1,know:=g1 } au k2 au aA
 dsimp only
 clear k1 k2
 cases hr:j8 { kind:=5,ses:=s,num:=n,nxt:=n4,last:=n5==1,its:=f1,know:=g1 }with
 | false=>
  rw[hr]at b5
  rw[V3 au]
  refine fi func14 ntmps14 ?_
  (refine aq a0 ?_;repeat' first|apply ah|refine ai fun hc=>?_)
  refine aR (cE 7 _ 32 cd (bS {}) rfl rfl fS) ?_
  (refine dF a1 a2 a3 ?_;repeat' first|apply ah|refine ai fun hc=>?_)
  refine aR (show Le _ _ (ay [(2,.ptr 2 0 0),(5,iC .i64 0),(6,.ptr 25 0 0),(7,.ptr 7 0 0),(67,.ptr 25 0 0)] [(2,.box 32 (cd.map Cnt.per)),(7,.box 32 ((bS { kind:=5,ses:=s,num:=n }).map Cnt.per)),(25,.box 102 [.per (aK L),iC .i64 o3,iC .i64 e3])])from(by exact ae)) ?_
  (refine ft a4 a5 ?_;repeat' first|apply ah|refine ai fun hc=>?_)
  refine aR (show Le _ _ (ay [(2,.ptr 2 0 0),(5,iC .i64 0),(6,.ptr 25 0 0),(7,.ptr 7 0 0),(96,.ptr 25 0 0),(8,sC ⟨#[]⟩),(9,sC ⟨#[]⟩),(10,sC ⟨#[]⟩)] [(2,.box 32 (cd.map Cnt.per)),(7,.box 32 ((bS { kind:=5,ses:=s,num:=n,nxt:=n4,last:=n5==1 }).map Cnt.per)),(25,.box 102 [.per (aK L),iC .i64 o5,iC .i64 e5])])from(by exact ae)) ?_
  (refine ft a6 a7 ?_;repeat' first|apply ah|refine ai fun hc=>?_)
  refine aR (show Le _ _ (ay [(2,.ptr 2 0 0),(5,iC .i64 0),(6,.ptr 25 0 0),(7,.ptr 7 0 0),(105,.ptr 25 0 0),(8,sC ⟨x.toArray⟩),(9,sC ⟨y.toArray⟩),(10,sC ⟨#[]⟩)] [(2,.box 32 (cd.map Cnt.per)),(7,.box 32 ((bS { kind:=5,ses:=s,num:=n,nxt:=n4,last:=n5==1 }).map Cnt.per)),(25,.box 102 [.per (aK L),iC .i64 o7,iC .i64 e7])])from(by exact ae)) ?_
  (refine jQ b3 b4 b5 b1 ?_;repeat' first|apply ah|refine ai fun hc=>?_|((first|apply aB rfl|apply aC rfl|apply aD rfl|apply aF rfl);(focus ((try (apply bI;(focus rfl);apply ag rfl rfl rfl rfl rfl));first|((apply aZ 10;(focus rfl);exact m5 ⟨rfl,rfl,rfl⟩ rfl inferInstance inferInstance inferInstance rfl (by first|exact hx|exact hy)))));refine jQ b3 b4 b5 b1 ?_))
  refine d9 ?_ ?_
  ·exact lD
  ·exact al rfl rfl
 | true=>
  rw[hr]at b5
  rw[V6 rfl]
  refine fi func14 ntmps14 ?_
  (refine aq a0 ?_;repeat' first|apply ah|refine ai fun hc=>?_)
  refine aR (cE 7 _ 32 cd (bS {}) rfl rfl fS) ?_
  (refine dF a1 a2 a3 ?_;repeat' first|apply ah|refine ai fun hc=>?_)
  refine aR (show Le _ _ (ay [(2,.ptr 2 0 0),(5,iC .i64 0),(6,.ptr 25 0 0),(7,.ptr 7 0 0),(67,.ptr 25 0 0)] [(2,.box 32 (cd.map Cnt.per)),(7,.box 32 ((bS { kind:=5,ses:=s,num:=n }).map Cnt.per)),(25,.box 102 [.per (aK L),iC .i64 o3,iC .i64 e3])])from(by exact ae)) ?_
  (refine ft a4 a5 ?_;repeat' first|apply ah|refine ai fun hc=>?_)
  refine aR (show Le _ _ (ay [(2,.ptr 2 0 0),(5,iC .i64 0),(6,.ptr 25 0 0),(7,.ptr 7 0 0),(96,.ptr 25 0 0),(8,sC ⟨#[]⟩),(9,sC ⟨#[]⟩),(10,sC ⟨#[]⟩)] [(2,.box 32 (cd.map Cnt.per)),(7,.box 32 ((bS { kind:=5,ses:=s,num:=n,nxt:=n4,last:=n5==1 }).map Cnt.per)),(25,.box 102 [.per (aK L),iC .i64 o5,iC .i64 e5])])from(by exact ae)) ?_
  (refine ft a6 a7 ?_;repeat' first|apply ah|refine ai fun hc=>?_)
  refine aR (show Le _ _ (ay [(2,.ptr 2 0 0),(5,iC .i64 0),(6,.ptr 25 0 0),(7,.ptr 7 0 0),(105,.ptr 25 0 0),(8,sC ⟨x.toArray⟩),(9,sC ⟨y.toArray⟩),(10,sC ⟨#[]⟩)] [(2,.box 32 (cd.map Cnt.per)),(7,.box 32 ((bS { kind:=5,ses:=s,num:=n,nxt:=n4,last:=n5==1 }).map Cnt.per)),(25,.box 102 [.per (aK L),iC .i64 o7,iC .i64 e7])])from(by exact ae)) ?_
  (refine jQ b3 b4 b5 b1 ?_;repeat' first|apply ah|refine ai fun hc=>?_|((first|apply aB rfl|apply aC rfl|apply aD rfl|apply aF rfl);(focus ((try (apply bI;(focus rfl);apply ag rfl rfl rfl rfl rfl));first|((apply aZ 10;(focus rfl);exact m5 ⟨rfl,rfl,rfl⟩ rfl inferInstance inferInstance inferInstance rfl (by first|exact hx|exact hy)))));refine jQ b3 b4 b5 b1 ?_))
  refine d9 ?_ ?_
  ·exact lD
  ·exact al rfl rfl
end Go.Proofs.YtaclhhkblbacgaaGreat
