/- Lemmas, walks. -/
import Derived.Test.YtecdgdoledkdfaaGreatJ31
set_option maxRecDepth 10000
set_option maxHeartbeats 8000000
namespace Go.Proofs.YtecdgdoledkdfaaGreat
open Go.RowKit Go.Proofs.Tryz
theorem M7 {L:List UInt8}(hL:L.length<=1000000){b:List UInt8}(a0:Fn prog 84 [.per (aK b)] (.tup2 (.per (aK L)) (eA 0)))(hk:(af 1 6 L 0).1=1) :
 Fn prog 38 [.per (aK b)] (.tup2 (.per (MA (vW L).1)) (eA (vW L).2)):=by
 have hL0:L.length<=1000000000000:=ae
 have hs0:L <:+ L:=aa5 L
 generalize hR:cY L=R
 rw[rE hR]
 dsimp only [cY,bM]at hR
 have a1:=bu L L 0 hs0 hL0 1 6
 have s1:=(aC 1 6 L 0).trans hs0
 generalize af 1 6 L 0=q1 at *
 obtain⟨k,l1,e1⟩:=q1
 dsimp only at a1 s1 hR
 have e0:((L.length-L.length:Nat):Int)=0:=ae
 unfold d0 at a1
 rw[e0]at a1
 clear e0
 have a2:=bu L l1 e1 s1 hL0 1 281474976710656
 have s2:=(aC 1 281474976710656 l1 e1).trans s1
 generalize af 1 281474976710656 l1 e1=q2 at *
 obtain⟨s,l2,e2⟩:=q2
 dsimp only at a2 s2 hR
 have a3:=eU L l2 e2 s2 hL0
 have s3:=(cQ l2 e2).trans s2
 generalize bI l2 e2=q3 at *
 obtain⟨n,l3,e3⟩:=q3
 dsimp only at a3 s3 hR
 dsimp only [d7]at hR
 clear s1 s2 hs0
 have hk:k=1:=hk
 subst hk
 rw[aae (show(1:Int)=1 from rfl)]at hR
 dsimp only at hR
 have a4:=eU L l3 e3 s3 hL0
 have s4:=(cQ l3 e3).trans s3
 generalize bI l3 e3=q4 at *
 obtain⟨n4,l4,e4⟩:=q4
 dsimp only at a4 s4 hR
 have a5:=eU L l4 e4 s4 hL0
 have s5:=(cQ l4 e4).trans s4
 generalize bI l4 e4=q5 at *
 obtain⟨n5,l5,e5⟩:=q5
 dsimp only at a5 s5 hR
 have a6:=bu L l5 e5 s5 hL0 0 64
 have s6:=(aC 0 64 l5 e5).trans s5
 generalize af 0 64 l5 e5=q6 at *
 obtain⟨n6,l6,e6⟩:=q6
 dsimp only at a6 s6 hR
 have a7:=bu L l6 e6 s6 hL0 0 1
 have s7:=(aC 0 1 l6 e6).trans s6
 generalize af 0 1 l6 e6=q7 at *
 obtain⟨n7,l7,e7⟩:=q7
 dsimp only at a7 s7 hR
 rw[show gv 1=3 from rfl]at hR
 dsimp only [gu,Hv]at hR
 have z7:=s7.length_le
 have a8:=gK L l7 e7 s7 hL0 281474976710656
 have t8:=gm 281474976710656 l7 e7
 have u8:=(bL 281474976710656 l7 e7).length_le
 have s8:=(bL 281474976710656 l7 e7).trans s7
 generalize bm 281474976710656 l7 e7=q8 at *
 obtain⟨x,l8,e8⟩:=q8
 dsimp only at a8 t8 u8 s8 hR
 have a9:=gK L l8 e8 s8 hL0 281474976710656
 have t9:=gm 281474976710656 l8 e8
 have u9:=(bL 281474976710656 l8 e8).length_le
 have s9:=(bL 281474976710656 l8 e8).trans s8
 generalize bm 281474976710656 l8 e8=q9 at *
 obtain⟨y,l9,e9⟩:=q9
 dsimp only at a9 t9 u9 s9 hR
 have a10:=gK L l9 e9 s9 hL0 281474976710656
 have t10:=gm 281474976710656 l9 e9
 have u10:=(bL 281474976710656 l9 e9).length_le
 have s10:=(bL 281474976710656 l9 e9).trans s9
 generalize bm 281474976710656 l9 e9=q10 at *
 obtain⟨z,l10,e10⟩:=q10
 dsimp only at a10 t10 u10 s10 hR
 have hx:(⟨x.toArray⟩:ByteArray).size<=1000000000000:=by show x.toArray.size<=_;rw[aaV];omega
 have hy:(⟨y.toArray⟩:ByteArray).size<=1000000000000:=by show y.toArray.size<=_;rw[aaV];omega
 have hz:(⟨z.toArray⟩:ByteArray).size<=1000000000000:=by show z.toArray.size<=_;rw[aaV];omega
 subst hR
 dsimp only
 have b1:=lj L l10 e10 s10
 generalize dg l10 e10=v at *
 dsimp only [d0]at a1 a2 a3 a4 a5 a6 a7 a8 a9 a10 b1
 generalize ((L.length-l1.length:Nat):Int)=o1 at a1 a2 a3 a4 a5 a6 a7 a8 a9 a10 b1
 generalize ((L.length-l2.length:Nat):Int)=o2 at a1 a2 a3 a4 a5 a6 a7 a8 a9 a10 b1
 generalize ((L.length-l3.length:Nat):Int)=o3 at a1 a2 a3 a4 a5 a6 a7 a8 a9 a10 b1
 generalize ((L.length-l4.length:Nat):Int)=o4 at a1 a2 a3 a4 a5 a6 a7 a8 a9 a10 b1
 generalize ((L.length-l5.length:Nat):Int)=o5 at a1 a2 a3 a4 a5 a6 a7 a8 a9 a10 b1
 generalize ((L.length-l6.length:Nat):Int)=o6 at a1 a2 a3 a4 a5 a6 a7 a8 a9 a10 b1
 generalize ((L.length-l7.length:Nat):Int)=o7 at a1 a2 a3 a4 a5 a6 a7 a8 a9 a10 b1
 generalize ((L.length-l8.length:Nat):Int)=o8 at a1 a2 a3 a4 a5 a6 a7 a8 a9 a10 b1
 generalize ((L.length-l9.length:Nat):Int)=o9 at a1 a2 a3 a4 a5 a6 a7 a8 a9 a10 b1
 generalize ((L.length-l10.length:Nat):Int)=o10 at a1 a2 a3 a4 a5 a6 a7 a8 a9 a10 b1
 have b3:=(pb x ae).frz
 have b4:=(sr y ae).frz
 have k1:(dM x).2=0->(dM x).1.length<=4096:=λh=>by have:=(jM h).2.1;omega
 have k2:=qs y
 have hP:dx { kind:=1,ses:=s,num:=n,lim:=n4,seed:=n5,bits:=n6,wants:=n7==1 } [x,y,z]=(if(dM x).2≠0 then({ kind:=1,ses:=s,num:=n,lim:=n4,seed:=n5,bits:=n6,wants:=n7==1 },(dM x).2)else if(dI y).2≠0 then({ kind:=1,ses:=s,num:=n,lim:=n4,seed:=n5,bits:=n6,wants:=n7==1 },(dI y).2)else({ kind:=1,ses:=s,num:=n,lim:=n4,seed:=n5,bits:=n6,wants:=n7==1,flt:=(dM x).1,know:=(dI y).1,there:=z },0)):=by grind[dx]
 rw[hP]
 clear hP
 generalize dM x=f at *
 generalize dI y=g at *
 obtain⟨f1,f2⟩:=f
 obtain⟨g1,g2⟩:=g
 dsimp only at b3 b4 k1 k2 ⊢
 try clear s3 s4 s5 s6 s7 s8 s9 s10
 by_cases hv:v≠0
 ·rw[aae hv]
  clear b3 b4 k1 k2
  refine fi func38 ntmps38 ?_
  (refine au a0 ?_;refine ah λhc=>?_)
  refine aV (cL 7 _ 43 ce (bR {}) rfl rfl f7) ?_
  (refine dQ a1 a2 a3 ?_;refine ah λhc=>?_)
  refine aV (show Le _ _ (aF [(2,.ptr 2 0 0),(5,iC .i64 0),(6,.ptr 25 0 0),(7,.ptr 7 0 0),(39,.ptr 25 0 0)] [(2,.box 43 (ce.map Cnt.per)),(7,.box 43 ((bR { kind:=1,ses:=s,num:=n }).map Cnt.per)),(25,.box 145 [.per (aK L),iC .i64 o3,iC .i64 e3])])from(by exact ab)) ?_
  (refine nU a4 a5 a6 a7 ?_;repeat' first|apply aw|refine ah λhc=>?_)
  refine aV (show Le _ _ (aF [(2,.ptr 2 0 0),(5,iC .i64 0),(6,.ptr 25 0 0),(7,.ptr 7 0 0),(96,.ptr 25 0 0),(8,sC ⟨#[]⟩),(9,sC ⟨#[]⟩),(10,sC ⟨#[]⟩)] [(2,.box 43 (ce.map Cnt.per)),(7,.box 43 ((bR { kind:=1,ses:=s,num:=n,lim:=n4,seed:=n5,bits:=n6,wants:=n7==1 }).map Cnt.per)),(25,.box 145 [.per (aK L),iC .i64 o7,iC .i64 e7])])from(by exact ab)) ?_
  (refine dQ a8 a9 a10 ?_;refine ah λhc=>?_)
  refine aV (show Le _ _ (aF [(2,.ptr 2 0 0),(5,iC .i64 0),(6,.ptr 25 0 0),(7,.ptr 7 0 0),(105,.ptr 25 0 0),(8,sC ⟨x.toArray⟩),(9,sC ⟨y.toArray⟩),(10,sC ⟨z.toArray⟩)] [(2,.box 43 (ce.map Cnt.per)),(7,.box 43 ((bR { kind:=1,ses:=s,num:=n,lim:=n4,seed:=n5,bits:=n6,wants:=n7==1 }).map Cnt.per)),(25,.box 145 [.per (aK L),iC .i64 o10,iC .i64 e10])])from(by exact ab)) ?_
  (refine dK b1 ?_;repeat' first|apply aw|refine ah λhc=>?_)
  refine dV ?_ ?_
  ·exact m5
  ·exact aq rfl rfl
 rw[aab hv]
 have hv:v=0:=aaG.1 hv
 subst hv
 by_cases hf:f2≠0
 ·rw[aae hf,aae hf]
  clear b4 k1 k2
  refine fi func38 ntmps38 ?_
  (refine au a0 ?_;refine ah λhc=>?_)
  refine aV (cL 7 _ 43 ce (bR {}) rfl rfl f7) ?_
  (refine dQ a1 a2 a3 ?_;refine ah λhc=>?_)
  refine aV (show Le _ _ (aF [(2,.ptr 2 0 0),(5,iC .i64 0),(6,.ptr 25 0 0),(7,.ptr 7 0 0),(39,.ptr 25 0 0)] [(2,.box 43 (ce.map Cnt.per)),(7,.box 43 ((bR { kind:=1,ses:=s,num:=n }).map Cnt.per)),(25,.box 145 [.per (aK L),iC .i64 o3,iC .i64 e3])])from(by exact ab)) ?_
  (refine nU a4 a5 a6 a7 ?_;repeat' first|apply aw|refine ah λhc=>?_)
  refine aV (show Le _ _ (aF [(2,.ptr 2 0 0),(5,iC .i64 0),(6,.ptr 25 0 0),(7,.ptr 7 0 0),(96,.ptr 25 0 0),(8,sC ⟨#[]⟩),(9,sC ⟨#[]⟩),(10,sC ⟨#[]⟩)] [(2,.box 43 (ce.map Cnt.per)),(7,.box 43 ((bR { kind:=1,ses:=s,num:=n,lim:=n4,seed:=n5,bits:=n6,wants:=n7==1 }).map Cnt.per)),(25,.box 145 [.per (aK L),iC .i64 o7,iC .i64 e7])])from(by exact ab)) ?_
  (refine dQ a8 a9 a10 ?_;refine ah λhc=>?_)
  refine aV (show Le _ _ (aF [(2,.ptr 2 0 0),(5,iC .i64 0),(6,.ptr 25 0 0),(7,.ptr 7 0 0),(105,.ptr 25 0 0),(8,sC ⟨x.toArray⟩),(9,sC ⟨y.toArray⟩),(10,sC ⟨z.toArray⟩)] [(2,.box 43 (ce.map Cnt.per)),(7,.box 43 ((bR { kind:=1,ses:=s,num:=n,lim:=n4,seed:=n5,bits:=n6,wants:=n7==1 }).map Cnt.per)),(25,.box 145 [.per (aK L),iC .i64 o10,iC .i64 e10])])from(by exact ab)) ?_
  (refine de b3 b1 ?_;repeat' first|apply aw|refine ah λhc=>?_|((first|apply aH rfl|apply aJ rfl);(focus (try apply ag rfl rfl rfl rfl rfl);((apply bn 10;(focus rfl);exact od ⟨rfl,rfl,rfl⟩ rfl aS aS aS rfl (by first|exact hx|exact hy|exact hz))));refine de b3 b1 ?_))
  refine dV ?_ ?_
  ·exact m5
  ·exact aq rfl rfl
 rw[aab hf]
 have hf:f2=0:=aaG.1 hf
 subst hf
 by_cases hg:g2≠0
 ·rw[aae hg,aae hg]
  clear k1 k2
  refine fi func38 ntmps38 ?_
  (refine au a0 ?_;refine ah λhc=>?_)
  refine aV (cL 7 _ 43 ce (bR {}) rfl rfl f7) ?_
  (refine dQ a1 a2 a3 ?_;refine ah λhc=>?_)
  refine aV (show Le _ _ (aF [(2,.ptr 2 0 0),(5,iC .i64 0),(6,.ptr 25 0 0),(7,.ptr 7 0 0),(39,.ptr 25 0 0)] [(2,.box 43 (ce.map Cnt.per)),(7,.box 43 ((bR { kind:=1,ses:=s,num:=n }).map Cnt.per)),(25,.box 145 [.per (aK L),iC .i64 o3,iC .i64 e3])])from(by exact ab)) ?_
  (refine nU a4 a5 a6 a7 ?_;repeat' first|apply aw|refine ah λhc=>?_)
  refine aV (show Le _ _ (aF [(2,.ptr 2 0 0),(5,iC .i64 0),(6,.ptr 25 0 0),(7,.ptr 7 0 0),(96,.ptr 25 0 0),(8,sC ⟨#[]⟩),(9,sC ⟨#[]⟩),(10,sC ⟨#[]⟩)] [(2,.box 43 (ce.map Cnt.per)),(7,.box 43 ((bR { kind:=1,ses:=s,num:=n,lim:=n4,seed:=n5,bits:=n6,wants:=n7==1 }).map Cnt.per)),(25,.box 145 [.per (aK L),iC .i64 o7,iC .i64 e7])])from(by exact ab)) ?_
  (refine dQ a8 a9 a10 ?_;refine ah λhc=>?_)
  refine aV (show Le _ _ (aF [(2,.ptr 2 0 0),(5,iC .i64 0),(6,.ptr 25 0 0),(7,.ptr 7 0 0),(105,.ptr 25 0 0),(8,sC ⟨x.toArray⟩),(9,sC ⟨y.toArray⟩),(10,sC ⟨z.toArray⟩)] [(2,.box 43 (ce.map Cnt.per)),(7,.box 43 ((bR { kind:=1,ses:=s,num:=n,lim:=n4,seed:=n5,bits:=n6,wants:=n7==1 }).map Cnt.per)),(25,.box 145 [.per (aK L),iC .i64 o10,iC .i64 e10])])from(by exact ab)) ?_
  (refine r9 b3 b4 b1 ?_;repeat' first|apply aw|refine ah λhc=>?_|((first|apply aH rfl|apply aJ rfl);(focus (try apply ag rfl rfl rfl rfl rfl);((apply bn 10;(focus rfl);exact od ⟨rfl,rfl,rfl⟩ rfl aS aS aS rfl (by first|exact hx|exact hy|exact hz))));refine r9 b3 b4 b1 ?_))
  refine dV ?_ ?_
  ·exact m5
  ·exact aq rfl rfl
 rw[aab hg,aab (show ¬(0:Int)≠0 by decide)]
 have hg:g2=0:=aaG.1 hg
 subst hg
 have k1:=k1 rfl
 have k2:=k2.1
 have b5:=kt { kind:=1,ses:=s,num:=n,lim:=n4,seed:=n5,bits:=n6,wants:=n7==1,flt:=f1,know:=g1,there:=z } aL k2 aL aA
 dsimp only
 clear k1 k2
 cases hr:lK { kind:=1,ses:=s,num:=n,lim:=n4,seed:=n5,bits:=n6,wants:=n7==1,flt:=f1,know:=g1,there:=z }with
 | false=>
  rw[hr]at b5
  rw[aab aA]
  refine fi func38 ntmps38 ?_
  (refine au a0 ?_;refine ah λhc=>?_)
  refine aV (cL 7 _ 43 ce (bR {}) rfl rfl f7) ?_
  (refine dQ a1 a2 a3 ?_;refine ah λhc=>?_)
  refine aV (show Le _ _ (aF [(2,.ptr 2 0 0),(5,iC .i64 0),(6,.ptr 25 0 0),(7,.ptr 7 0 0),(39,.ptr 25 0 0)] [(2,.box 43 (ce.map Cnt.per)),(7,.box 43 ((bR { kind:=1,ses:=s,num:=n }).map Cnt.per)),(25,.box 145 [.per (aK L),iC .i64 o3,iC .i64 e3])])from(by exact ab)) ?_
  (refine nU a4 a5 a6 a7 ?_;repeat' first|apply aw|refine ah λhc=>?_)
  refine aV (show Le _ _ (aF [(2,.ptr 2 0 0),(5,iC .i64 0),(6,.ptr 25 0 0),(7,.ptr 7 0 0),(96,.ptr 25 0 0),(8,sC ⟨#[]⟩),(9,sC ⟨#[]⟩),(10,sC ⟨#[]⟩)] [(2,.box 43 (ce.map Cnt.per)),(7,.box 43 ((bR { kind:=1,ses:=s,num:=n,lim:=n4,seed:=n5,bits:=n6,wants:=n7==1 }).map Cnt.per)),(25,.box 145 [.per (aK L),iC .i64 o7,iC .i64 e7])])from(by exact ab)) ?_
  (refine dQ a8 a9 a10 ?_;refine ah λhc=>?_)
  refine aV (show Le _ _ (aF [(2,.ptr 2 0 0),(5,iC .i64 0),(6,.ptr 25 0 0),(7,.ptr 7 0 0),(105,.ptr 25 0 0),(8,sC ⟨x.toArray⟩),(9,sC ⟨y.toArray⟩),(10,sC ⟨z.toArray⟩)] [(2,.box 43 (ce.map Cnt.per)),(7,.box 43 ((bR { kind:=1,ses:=s,num:=n,lim:=n4,seed:=n5,bits:=n6,wants:=n7==1 }).map Cnt.per)),(25,.box 145 [.per (aK L),iC .i64 o10,iC .i64 e10])])from(by exact ab)) ?_
  (refine ke b3 b4 b5 b1 ?_;repeat' first|apply aw|refine ah λhc=>?_|((first|apply aH rfl|apply aJ rfl);(focus (try apply ag rfl rfl rfl rfl rfl);((apply bn 10;(focus rfl);exact od ⟨rfl,rfl,rfl⟩ rfl aS aS aS rfl (by first|exact hx|exact hy|exact hz))));refine ke b3 b4 b5 b1 ?_))
  refine dV ?_ ?_
  ·exact m5
  ·exact aq rfl rfl
 | true=>
  rw[hr]at b5
  rw[aae rfl]
  refine fi func38 ntmps38 ?_
  (refine au a0 ?_;refine ah λhc=>?_)
  refine aV (cL 7 _ 43 ce (bR {}) rfl rfl f7) ?_
  (refine dQ a1 a2 a3 ?_;refine ah λhc=>?_)
  refine aV (show Le _ _ (aF [(2,.ptr 2 0 0),(5,iC .i64 0),(6,.ptr 25 0 0),(7,.ptr 7 0 0),(39,.ptr 25 0 0)] [(2,.box 43 (ce.map Cnt.per)),(7,.box 43 ((bR { kind:=1,ses:=s,num:=n }).map Cnt.per)),(25,.box 145 [.per (aK L),iC .i64 o3,iC .i64 e3])])from(by exact ab)) ?_
  (refine nU a4 a5 a6 a7 ?_;repeat' first|apply aw|refine ah λhc=>?_)
  refine aV (show Le _ _ (aF [(2,.ptr 2 0 0),(5,iC .i64 0),(6,.ptr 25 0 0),(7,.ptr 7 0 0),(96,.ptr 25 0 0),(8,sC ⟨#[]⟩),(9,sC ⟨#[]⟩),(10,sC ⟨#[]⟩)] [(2,.box 43 (ce.map Cnt.per)),(7,.box 43 ((bR { kind:=1,ses:=s,num:=n,lim:=n4,seed:=n5,bits:=n6,wants:=n7==1 }).map Cnt.per)),(25,.box 145 [.per (aK L),iC .i64 o7,iC .i64 e7])])from(by exact ab)) ?_
  (refine dQ a8 a9 a10 ?_;refine ah λhc=>?_)
  refine aV (show Le _ _ (aF [(2,.ptr 2 0 0),(5,iC .i64 0),(6,.ptr 25 0 0),(7,.ptr 7 0 0),(105,.ptr 25 0 0),(8,sC ⟨x.toArray⟩),(9,sC ⟨y.toArray⟩),(10,sC ⟨z.toArray⟩)] [(2,.box 43 (ce.map Cnt.per)),(7,.box 43 ((bR { kind:=1,ses:=s,num:=n,lim:=n4,seed:=n5,bits:=n6,wants:=n7==1 }).map Cnt.per)),(25,.box 145 [.per (aK L),iC .i64 o10,iC .i64 e10])])from(by exact ab)) ?_
  (refine ke b3 b4 b5 b1 ?_;repeat' first|apply aw|refine ah λhc=>?_|((first|apply aH rfl|apply aJ rfl);(focus (try apply ag rfl rfl rfl rfl rfl);((apply bn 10;(focus rfl);exact od ⟨rfl,rfl,rfl⟩ rfl aS aS aS rfl (by first|exact hx|exact hy|exact hz))));refine ke b3 b4 b5 b1 ?_))
  refine dV ?_ ?_
  ·exact m5
  ·exact aq rfl rfl
theorem M8 {L:List UInt8}(hL:L.length<=1000000){b:List UInt8}(a0:Fn prog 84 [.per (aK b)] (.tup2 (.per (aK L)) (eA 0)))(hk:(af 1 6 L 0).1=5) :
 Fn prog 38 [.per (aK b)] (.tup2 (.per (MA (vW L).1)) (eA (vW L).2)):=by
 have hL0:L.length<=1000000000000:=ae
 have hs0:L <:+ L:=aa5 L
 generalize hR:cY L=R
 rw[rE hR]
 dsimp only [cY,bM]at hR
 have a1:=bu L L 0 hs0 hL0 1 6
 have s1:=(aC 1 6 L 0).trans hs0
 generalize af 1 6 L 0=q1 at *
 obtain⟨k,l1,e1⟩:=q1
 dsimp only at a1 s1 hR
 have e0:((L.length-L.length:Nat):Int)=0:=ae
 unfold d0 at a1
 rw[e0]at a1
 clear e0
 have a2:=bu L l1 e1 s1 hL0 1 281474976710656
 have s2:=(aC 1 281474976710656 l1 e1).trans s1
 generalize af 1 281474976710656 l1 e1=q2 at *
 obtain⟨s,l2,e2⟩:=q2
 dsimp only at a2 s2 hR
 have a3:=eU L l2 e2 s2 hL0
 have s3:=(cQ l2 e2).trans s2
 generalize bI l2 e2=q3 at *
 obtain⟨n,l3,e3⟩:=q3
 dsimp only at a3 s3 hR
 dsimp only [d7]at hR
 clear s1 s2 hs0
 have hk:k=5:=hk
 subst hk
 rw[aab (show ¬(5:Int)=1 by decide),aab (show ¬(5:Int)=2 by decide),aab (show ¬(5:Int)=3 by decide),aae (show(5:Int)=5 from rfl)]at hR
 dsimp only at hR
 have a4:=eU L l3 e3 s3 hL0
 have s4:=(cQ l3 e3).trans s3
 generalize bI l3 e3=q4 at *
 obtain⟨n4,l4,e4⟩:=q4
 dsimp only at a4 s4 hR
 have a5:=bu L l4 e4 s4 hL0 0 1
 have s5:=(aC 0 1 l4 e4).trans s4
 generalize af 0 1 l4 e4=q5 at *
 obtain⟨n5,l5,e5⟩:=q5
 dsimp only at a5 s5 hR
 rw[show gv 5=2 from rfl]at hR
 dsimp only [gu,Hv]at hR
 have z5:=s5.length_le
 have a6:=gK L l5 e5 s5 hL0 281474976710656
 have t6:=gm 281474976710656 l5 e5
 have u6:=(bL 281474976710656 l5 e5).length_le
 have s6:=(bL 281474976710656 l5 e5).trans s5
 generalize bm 281474976710656 l5 e5=q6 at *
 obtain⟨x,l6,e6⟩:=q6
 dsimp only at a6 t6 u6 s6 hR
 have a7:=gK L l6 e6 s6 hL0 281474976710656
 have t7:=gm 281474976710656 l6 e6
 have u7:=(bL 281474976710656 l6 e6).length_le
 have s7:=(bL 281474976710656 l6 e6).trans s6
 generalize bm 281474976710656 l6 e6=q7 at *
 obtain⟨y,l7,e7⟩:=q7
 dsimp only at a7 t7 u7 s7 hR
 have hx:(⟨x.toArray⟩:ByteArray).size<=1000000000000:=by show x.toArray.size<=_;rw[aaV];omega
 have hy:(⟨y.toArray⟩:ByteArray).size<=1000000000000:=by show y.toArray.size<=_;rw[aaV];omega
 subst hR
 dsimp only
 have b1:=lj L l7 e7 s7
 generalize dg l7 e7=v at *
 dsimp only [d0]at a1 a2 a3 a4 a5 a6 a7 b1
 generalize ((L.length-l1.length:Nat):Int)=o1 at a1 a2 a3 a4 a5 a6 a7 b1
 generalize ((L.length-l2.length:Nat):Int)=o2 at a1 a2 a3 a4 a5 a6 a7 b1
 generalize ((L.length-l3.length:Nat):Int)=o3 at a1 a2 a3 a4 a5 a6 a7 b1
 generalize ((L.length-l4.length:Nat):Int)=o4 at a1 a2 a3 a4 a5 a6 a7 b1
 generalize ((L.length-l5.length:Nat):Int)=o5 at a1 a2 a3 a4 a5 a6 a7 b1
 generalize ((L.length-l6.length:Nat):Int)=o6 at a1 a2 a3 a4 a5 a6 a7 b1
 generalize ((L.length-l7.length:Nat):Int)=o7 at a1 a2 a3 a4 a5 a6 a7 b1
 have b3:=(zl x ae).frz
 have b4:=(sr y ae).frz
 have k1:(dF x).2=0->(dF x).1.length<=4096:=λh=>by have:=(jz h).2.1;omega
 have k2:=qs y
 have hP:dx { kind:=5,ses:=s,num:=n,nxt:=n4,last:=n5==1 } [x,y]=(if(dF x).2≠0 then({ kind:=5,ses:=s,num:=n,nxt:=n4,last:=n5==1 },(dF x).2)else if(dI y).2≠0 then({ kind:=5,ses:=s,num:=n,nxt:=n4,last:=n5==1 },(dI y).2)else({ kind:=5,ses:=s,num:=n,nxt:=n4,last:=n5==1,its:=(dF x).1,know:=(dI y).1 },0)):=by grind[dx]
 rw[hP]
 clear hP
 generalize dF x=f at *
 generalize dI y=g at *
 obtain⟨f1,f2⟩:=f
 obtain⟨g1,g2⟩:=g
 dsimp only at b3 b4 k1 k2 ⊢
 try clear s3 s4 s5 s6 s7 s8 s9 s10
 by_cases hv:v≠0
 ·rw[aae hv]
  clear b3 b4 k1 k2
  refine fi func38 ntmps38 ?_
  (refine au a0 ?_;refine ah λhc=>?_)
  refine aV (cL 7 _ 43 ce (bR {}) rfl rfl f7) ?_
  (refine dQ a1 a2 a3 ?_;repeat' first|apply aw|refine ah λhc=>?_)
  refine aV (show Le _ _ (aF [(2,.ptr 2 0 0),(5,iC .i64 0),(6,.ptr 25 0 0),(7,.ptr 7 0 0),(67,.ptr 25 0 0)] [(2,.box 43 (ce.map Cnt.per)),(7,.box 43 ((bR { kind:=5,ses:=s,num:=n }).map Cnt.per)),(25,.box 145 [.per (aK L),iC .i64 o3,iC .i64 e3])])from(by exact ab)) ?_
  (refine fG a4 a5 ?_;repeat' first|apply aw|refine ah λhc=>?_)
  refine aV (show Le _ _ (aF [(2,.ptr 2 0 0),(5,iC .i64 0),(6,.ptr 25 0 0),(7,.ptr 7 0 0),(96,.ptr 25 0 0),(8,sC ⟨#[]⟩),(9,sC ⟨#[]⟩),(10,sC ⟨#[]⟩)] [(2,.box 43 (ce.map Cnt.per)),(7,.box 43 ((bR { kind:=5,ses:=s,num:=n,nxt:=n4,last:=n5==1 }).map Cnt.per)),(25,.box 145 [.per (aK L),iC .i64 o5,iC .i64 e5])])from(by exact ab)) ?_
  (refine fG a6 a7 ?_;refine ah λhc=>?_)
  refine aV (show Le _ _ (aF [(2,.ptr 2 0 0),(5,iC .i64 0),(6,.ptr 25 0 0),(7,.ptr 7 0 0),(105,.ptr 25 0 0),(8,sC ⟨x.toArray⟩),(9,sC ⟨y.toArray⟩),(10,sC ⟨#[]⟩)] [(2,.box 43 (ce.map Cnt.per)),(7,.box 43 ((bR { kind:=5,ses:=s,num:=n,nxt:=n4,last:=n5==1 }).map Cnt.per)),(25,.box 145 [.per (aK L),iC .i64 o7,iC .i64 e7])])from(by exact ab)) ?_
  (refine dK b1 ?_;repeat' first|apply aw|refine ah λhc=>?_)
  refine dV ?_ ?_
  ·exact m5
  ·exact aq rfl rfl
 rw[aab hv]
 have hv:v=0:=aaG.1 hv
 subst hv
 by_cases hf:f2≠0
 ·rw[aae hf,aae hf]
  clear b4 k1 k2
  refine fi func38 ntmps38 ?_
  (refine au a0 ?_;refine ah λhc=>?_)
  refine aV (cL 7 _ 43 ce (bR {}) rfl rfl f7) ?_
  (refine dQ a1 a2 a3 ?_;repeat' first|apply aw|refine ah λhc=>?_)
  refine aV (show Le _ _ (aF [(2,.ptr 2 0 0),(5,iC .i64 0),(6,.ptr 25 0 0),(7,.ptr 7 0 0),(67,.ptr 25 0 0)] [(2,.box 43 (ce.map Cnt.per)),(7,.box 43 ((bR { kind:=5,ses:=s,num:=n }).map Cnt.per)),(25,.box 145 [.per (aK L),iC .i64 o3,iC .i64 e3])])from(by exact ab)) ?_
  (refine fG a4 a5 ?_;repeat' first|apply aw|refine ah λhc=>?_)
  refine aV (show Le _ _ (aF [(2,.ptr 2 0 0),(5,iC .i64 0),(6,.ptr 25 0 0),(7,.ptr 7 0 0),(96,.ptr 25 0 0),(8,sC ⟨#[]⟩),(9,sC ⟨#[]⟩),(10,sC ⟨#[]⟩)] [(2,.box 43 (ce.map Cnt.per)),(7,.box 43 ((bR { kind:=5,ses:=s,num:=n,nxt:=n4,last:=n5==1 }).map Cnt.per)),(25,.box 145 [.per (aK L),iC .i64 o5,iC .i64 e5])])from(by exact ab)) ?_
  (refine fG a6 a7 ?_;refine ah λhc=>?_)
  refine aV (show Le _ _ (aF [(2,.ptr 2 0 0),(5,iC .i64 0),(6,.ptr 25 0 0),(7,.ptr 7 0 0),(105,.ptr 25 0 0),(8,sC ⟨x.toArray⟩),(9,sC ⟨y.toArray⟩),(10,sC ⟨#[]⟩)] [(2,.box 43 (ce.map Cnt.per)),(7,.box 43 ((bR { kind:=5,ses:=s,num:=n,nxt:=n4,last:=n5==1 }).map Cnt.per)),(25,.box 145 [.per (aK L),iC .i64 o7,iC .i64 e7])])from(by exact ab)) ?_
  (refine de b3 b1 ?_;repeat' first|apply aw|refine ah λhc=>?_|((first|apply aH rfl|apply aJ rfl);(focus (try apply ag rfl rfl rfl rfl rfl);((apply bn 10;(focus rfl);exact od ⟨rfl,rfl,rfl⟩ rfl aS aS aS rfl (by first|exact hx|exact hy))));refine de b3 b1 ?_))
  refine dV ?_ ?_
  ·exact m5
  ·exact aq rfl rfl
 rw[aab hf]
 have hf:f2=0:=aaG.1 hf
 subst hf
 by_cases hg:g2≠0
 ·rw[aae hg,aae hg]
  clear k1 k2
  refine fi func38 ntmps38 ?_
  (refine au a0 ?_;refine ah λhc=>?_)
  refine aV (cL 7 _ 43 ce (bR {}) rfl rfl f7) ?_
  (refine dQ a1 a2 a3 ?_;repeat' first|apply aw|refine ah λhc=>?_)
  refine aV (show Le _ _ (aF [(2,.ptr 2 0 0),(5,iC .i64 0),(6,.ptr 25 0 0),(7,.ptr 7 0 0),(67,.ptr 25 0 0)] [(2,.box 43 (ce.map Cnt.per)),(7,.box 43 ((bR { kind:=5,ses:=s,num:=n }).map Cnt.per)),(25,.box 145 [.per (aK L),iC .i64 o3,iC .i64 e3])])from(by exact ab)) ?_
  (refine fG a4 a5 ?_;repeat' first|apply aw|refine ah λhc=>?_)
  refine aV (show Le _ _ (aF [(2,.ptr 2 0 0),(5,iC .i64 0),(6,.ptr 25 0 0),(7,.ptr 7 0 0),(96,.ptr 25 0 0),(8,sC ⟨#[]⟩),(9,sC ⟨#[]⟩),(10,sC ⟨#[]⟩)] [(2,.box 43 (ce.map Cnt.per)),(7,.box 43 ((bR { kind:=5,ses:=s,num:=n,nxt:=n4,last:=n5==1 }).map Cnt.per)),(25,.box 145 [.per (aK L),iC .i64 o5,iC .i64 e5])])from(by exact ab)) ?_
  (refine fG a6 a7 ?_;refine ah λhc=>?_)
  refine aV (show Le _ _ (aF [(2,.ptr 2 0 0),(5,iC .i64 0),(6,.ptr 25 0 0),(7,.ptr 7 0 0),(105,.ptr 25 0 0),(8,sC ⟨x.toArray⟩),(9,sC ⟨y.toArray⟩),(10,sC ⟨#[]⟩)] [(2,.box 43 (ce.map Cnt.per)),(7,.box 43 ((bR { kind:=5,ses:=s,num:=n,nxt:=n4,last:=n5==1 }).map Cnt.per)),(25,.box 145 [.per (aK L),iC .i64 o7,iC .i64 e7])])from(by exact ab)) ?_
  (refine r9 b3 b4 b1 ?_;repeat' first|apply aw|refine ah λhc=>?_|((first|apply aH rfl|apply aJ rfl);(focus (try apply ag rfl rfl rfl rfl rfl);((apply bn 10;(focus rfl);exact od ⟨rfl,rfl,rfl⟩ rfl aS aS aS rfl (by first|exact hx|exact hy))));refine r9 b3 b4 b1 ?_))
  refine dV ?_ ?_
  ·exact m5
  ·exact aq rfl rfl
 rw[aab hg,aab (show ¬(0:Int)≠0 by decide)]
 have hg:g2=0:=aaG.1 hg
 subst hg
 have k1:=k1 rfl
 have k2:=k2.1
 have b5:=kt { kind:=5,ses:=s,num:=n,nxt:=n4,last:=n5==1,its:=f1,know:=g1 } aA k2 aA aL
 dsimp only
 clear k1 k2
 cases hr:lK { kind:=5,ses:=s,num:=n,nxt:=n4,last:=n5==1,its:=f1,know:=g1 }with
 | false=>
  rw[hr]at b5
  rw[aab aA]
  refine fi func38 ntmps38 ?_
  (refine au a0 ?_;refine ah λhc=>?_)
  refine aV (cL 7 _ 43 ce (bR {}) rfl rfl f7) ?_
  (refine dQ a1 a2 a3 ?_;repeat' first|apply aw|refine ah λhc=>?_)
  refine aV (show Le _ _ (aF [(2,.ptr 2 0 0),(5,iC .i64 0),(6,.ptr 25 0 0),(7,.ptr 7 0 0),(67,.ptr 25 0 0)] [(2,.box 43 (ce.map Cnt.per)),(7,.box 43 ((bR { kind:=5,ses:=s,num:=n }).map Cnt.per)),(25,.box 145 [.per (aK L),iC .i64 o3,iC .i64 e3])])from(by exact ab)) ?_
  (refine fG a4 a5 ?_;repeat' first|apply aw|refine ah λhc=>?_)
  refine aV (show Le _ _ (aF [(2,.ptr 2 0 0),(5,iC .i64 0),(6,.ptr 25 0 0),(7,.ptr 7 0 0),(96,.ptr 25 0 0),(8,sC ⟨#[]⟩),(9,sC ⟨#[]⟩),(10,sC ⟨#[]⟩)] [(2,.box 43 (ce.map Cnt.per)),(7,.box 43 ((bR { kind:=5,ses:=s,num:=n,nxt:=n4,last:=n5==1 }).map Cnt.per)),(25,.box 145 [.per (aK L),iC .i64 o5,iC .i64 e5])])from(by exact ab)) ?_
  (refine fG a6 a7 ?_;refine ah λhc=>?_)
  refine aV (show Le _ _ (aF [(2,.ptr 2 0 0),(5,iC .i64 0),(6,.ptr 25 0 0),(7,.ptr 7 0 0),(105,.ptr 25 0 0),(8,sC ⟨x.toArray⟩),(9,sC ⟨y.toArray⟩),(10,sC ⟨#[]⟩)] [(2,.box 43 (ce.map Cnt.per)),(7,.box 43 ((bR { kind:=5,ses:=s,num:=n,nxt:=n4,last:=n5==1 }).map Cnt.per)),(25,.box 145 [.per (aK L),iC .i64 o7,iC .i64 e7])])from(by exact ab)) ?_
  (refine ke b3 b4 b5 b1 ?_;repeat' first|apply aw|refine ah λhc=>?_|((first|apply aH rfl|apply aJ rfl);(focus (try apply ag rfl rfl rfl rfl rfl);((apply bn 10;(focus rfl);exact od ⟨rfl,rfl,rfl⟩ rfl aS aS aS rfl (by first|exact hx|exact hy))));refine ke b3 b4 b5 b1 ?_))
  refine dV ?_ ?_
  ·exact m5
  ·exact aq rfl rfl
 | true=>
  rw[hr]at b5
  rw[aae rfl]
  refine fi func38 ntmps38 ?_
  (refine au a0 ?_;refine ah λhc=>?_)
  refine aV (cL 7 _ 43 ce (bR {}) rfl rfl f7) ?_
  (refine dQ a1 a2 a3 ?_;repeat' first|apply aw|refine ah λhc=>?_)
  refine aV (show Le _ _ (aF [(2,.ptr 2 0 0),(5,iC .i64 0),(6,.ptr 25 0 0),(7,.ptr 7 0 0),(67,.ptr 25 0 0)] [(2,.box 43 (ce.map Cnt.per)),(7,.box 43 ((bR { kind:=5,ses:=s,num:=n }).map Cnt.per)),(25,.box 145 [.per (aK L),iC .i64 o3,iC .i64 e3])])from(by exact ab)) ?_
  (refine fG a4 a5 ?_;repeat' first|apply aw|refine ah λhc=>?_)
  refine aV (show Le _ _ (aF [(2,.ptr 2 0 0),(5,iC .i64 0),(6,.ptr 25 0 0),(7,.ptr 7 0 0),(96,.ptr 25 0 0),(8,sC ⟨#[]⟩),(9,sC ⟨#[]⟩),(10,sC ⟨#[]⟩)] [(2,.box 43 (ce.map Cnt.per)),(7,.box 43 ((bR { kind:=5,ses:=s,num:=n,nxt:=n4,last:=n5==1 }).map Cnt.per)),(25,.box 145 [.per (aK L),iC .i64 o5,iC .i64 e5])])from(by exact ab)) ?_
  (refine fG a6 a7 ?_;refine ah λhc=>?_)
  refine aV (show Le _ _ (aF [(2,.ptr 2 0 0),(5,iC .i64 0),(6,.ptr 25 0 0),(7,.ptr 7 0 0),(105,.ptr 25 0 0),(8,sC ⟨x.toArray⟩),(9,sC ⟨y.toArray⟩),(10,sC ⟨#[]⟩)] [(2,.box 43 (ce.map Cnt.per)),(7,.box 43 ((bR { kind:=5,ses:=s,num:=n,nxt:=n4,last:=n5==1 }).map Cnt.per)),(25,.box 145 [.per (aK L),iC .i64 o7,iC .i64 e7])])from(by exact ab)) ?_
  (refine ke b3 b4 b5 b1 ?_;repeat' first|apply aw|refine ah λhc=>?_|((first|apply aH rfl|apply aJ rfl);(focus (try apply ag rfl rfl rfl rfl rfl);((apply bn 10;(focus rfl);exact od ⟨rfl,rfl,rfl⟩ rfl aS aS aS rfl (by first|exact hx|exact hy))));refine ke b3 b4 b5 b1 ?_))
  refine dV ?_ ?_
  ·exact m5
  ·exact aq rfl rfl
