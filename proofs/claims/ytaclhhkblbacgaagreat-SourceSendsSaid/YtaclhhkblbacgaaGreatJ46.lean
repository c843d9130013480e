/- Texts joined: MsT. -/
import Derived.Test.YtaclhhkblbacgaaGreatJ44
set_option maxRecDepth 10000
set_option maxHeartbeats 8000000
namespace Go.Proofs.YtaclhhkblbacgaaGreat
open Go.RowKit Go.Proofs.Tryz
variable {L b:List UInt8}
theorem fS:PW cd (bS {}):=by(repeat (first|exact PW.nil|(refine PW.cons (by first|exact zS.refl|exact ee) ?_)))
theorem p8 {l:List UInt8}{R:Msg×List (List UInt8)×List UInt8×Int}(h:d7 l=R) :
 zt l=(if di R.2.2.1 R.2.2.2≠0 then({},di R.2.2.1 R.2.2.2)else if(ej R.1 R.2.1).2≠0 then({},(ej R.1 R.2.1).2)else if j8 (ej R.1 R.2.1).1 then((ej R.1 R.2.1).1,0)else({},11)):=by
 rw[OE,h]
theorem mn:fe []:=⟨au,fun p hp=>by simp at hp⟩
theorem JR {l:List UInt8}{i:Nat}(h:i<l.length):fJ (l.drop i)=l[i].toNat+256*fJ (l.drop (i+1)):=by
 rw[List.drop_eq_getElem_cons h];rfl
theorem JS (hL:L.length≤1000000)(a0:Fn prog 50 [.per (aK b)] (.tup2 (.per (aK L)) (el 0)))(hk:(af 1 6 L 0).1=2) :
 Fn prog 14 [.per (aK b)] (.tup2 (.per (DB (zt L).1)) (el (zt L).2)):=by
 have hL0:L.length≤1000000000000:=ab
 have hs0:L <:+ L:=WM L
 generalize hR:d7 L=R
 rw[p8 hR]
 dsimp only [d7,ca]at hR
 have a1:=bd L L 0 hs0 hL0 1 6
 have s1:=(ao 1 6 L 0).trans hs0
 generalize af 1 6 L 0=q1 at *
 obtain⟨k,l1,e1⟩:=q1
 dsimp only at a1 s1 hR
 have e0:((L.length-L.length:Nat):Int)=0:=ab
 unfold dQ at a1
 rw[e0]at a1
 clear e0
 have a2:=bd L l1 e1 s1 hL0 1 281474976710656
 have s2:=(ao 1 281474976710656 l1 e1).trans s1
 generalize af 1 281474976710656 l1 e1=q2 at *
 obtain⟨s,l2,e2⟩:=q2
 dsimp only at a2 s2 hR
 have a3:=eF L l2 e2 s2 hL0
 have s3:=(bX l2 e2).trans s2
 generalize aO l2 e2=q3 at *
 obtain⟨n,l3,e3⟩:=q3
 dsimp only at a3 s3 hR
 dsimp only [d0]at hR
 clear s1 s2 hs0
 have hk:k=2:=hk
 subst hk
 rw[V3 (show ¬(2:Int)=1 by decide),V6 (show(2:Int)=2 from rfl)]at hR
 dsimp only at hR
 have a4:=bd L l3 e3 s3 hL0 0 1
 have s4:=(ao 0 1 l3 e3).trans s3
 generalize af 0 1 l3 e3=q4 at *
 obtain⟨n4,l4,e4⟩:=q4
 dsimp only at a4 s4 hR
 rw[show gn 2=0 from rfl]at hR
 dsimp only [gc]at hR
 subst hR
 dsimp only
 have b1:=kK L l4 e4 s4
 generalize di l4 e4=v at *
 dsimp only [dQ]at a1 a2 a3 a4 b1
 generalize ((L.length-l1.length:Nat):Int)=o1 at a1 a2 a3 a4 b1
 generalize ((L.length-l2.length:Nat):Int)=o2 at a1 a2 a3 a4 b1
 generalize ((L.length-l3.length:Nat):Int)=o3 at a1 a2 a3 a4 b1
 generalize ((L.length-l4.length:Nat):Int)=o4 at a1 a2 a3 a4 b1
 have hP:ej { kind:=2,ses:=s,num:=n,same:=n4==1 } []=({ kind:=2,ses:=s,num:=n,same:=n4==1 },0):=by unfold ej;rw[V3 (show ¬(2:Int)=1 by decide),V3 (show ¬(2:Int)=4 by decide),V3 (show ¬(2:Int)=5 by decide)]
 rw[hP]
 dsimp only
 clear hP
 have b2:=je { kind:=2,ses:=s,num:=n,same:=n4==1 } au mn au au
 try clear s3 s4 s5 s6 s7 s8 s9 s10
 by_cases hv:v≠0
 ·rw[V6 hv]
  refine fi func14 ntmps14 ?_
  (refine aq a0 ?_;repeat' first|apply ah|refine ai fun hc=>?_)
  refine aR (cE 7 _ 32 cd (bS {}) rfl rfl fS) ?_
  (refine dF a1 a2 a3 ?_;repeat' first|apply ah|refine ai fun hc=>?_)
  refine aR (show Le _ _ (ay [(2,.ptr 2 0 0),(5,iC .i64 0),(6,.ptr 25 0 0),(7,.ptr 7 0 0),(55,.ptr 25 0 0)] [(2,.box 32 (cd.map Cnt.per)),(7,.box 32 ((bS { kind:=2,ses:=s,num:=n }).map Cnt.per)),(25,.box 102 [.per (aK L),iC .i64 o3,iC .i64 e3])])from(by exact ae)) ?_
  (refine dy a4 ?_;repeat' first|apply ah|refine ai fun hc=>?_)
  refine aR (show Le _ _ (ay [(2,.ptr 2 0 0),(5,iC .i64 0),(6,.ptr 25 0 0),(7,.ptr 7 0 0),(105,.ptr 25 0 0),(8,sC ⟨#[]⟩),(9,sC ⟨#[]⟩),(10,sC ⟨#[]⟩)] [(2,.box 32 (cd.map Cnt.per)),(7,.box 32 ((bS { kind:=2,ses:=s,num:=n,same:=n4==1 }).map Cnt.per)),(25,.box 102 [.per (aK L),iC .i64 o4,iC .i64 e4])])from(by exact ae)) ?_
  (refine dy b1 ?_;repeat' first|apply ah|refine ai fun hc=>?_)
  refine d9 ?_ ?_
  ·exact lD
  ·exact al rfl rfl
 rw[V3 hv,V3 (show ¬(0:Int)≠0 by decide)]
 have hv:v=0:=WB.1 hv
 subst hv
 cases hr:j8 { kind:=2,ses:=s,num:=n,same:=n4==1 }with
 | false=>
  rw[hr]at b2
  rw[V3 au]
  refine fi func14 ntmps14 ?_
  (refine aq a0 ?_;repeat' first|apply ah|refine ai fun hc=>?_)
  refine aR (cE 7 _ 32 cd (bS {}) rfl rfl fS) ?_
  (refine dF a1 a2 a3 ?_;repeat' first|apply ah|refine ai fun hc=>?_)
  refine aR (show Le _ _ (ay [(2,.ptr 2 0 0),(5,iC .i64 0),(6,.ptr 25 0 0),(7,.ptr 7 0 0),(55,.ptr 25 0 0)] [(2,.box 32 (cd.map Cnt.per)),(7,.box 32 ((bS { kind:=2,ses:=s,num:=n }).map Cnt.per)),(25,.box 102 [.per (aK L),iC .i64 o3,iC .i64 e3])])from(by exact ae)) ?_
  (refine dy a4 ?_;repeat' first|apply ah|refine ai fun hc=>?_)
  refine aR (show Le _ _ (ay [(2,.ptr 2 0 0),(5,iC .i64 0),(6,.ptr 25 0 0),(7,.ptr 7 0 0),(105,.ptr 25 0 0),(8,sC ⟨#[]⟩),(9,sC ⟨#[]⟩),(10,sC ⟨#[]⟩)] [(2,.box 32 (cd.map Cnt.per)),(7,.box 32 ((bS { kind:=2,ses:=s,num:=n,same:=n4==1 }).map Cnt.per)),(25,.box 102 [.per (aK L),iC .i64 o4,iC .i64 e4])])from(by exact ae)) ?_
  (refine cW b2 b1 ?_;repeat' first|apply ah|refine ai fun hc=>?_)
  refine d9 ?_ ?_
  ·exact lD
  ·exact al rfl rfl
 | true=>
  rw[hr]at b2
  rw[V6 rfl]
  refine fi func14 ntmps14 ?_
  (refine aq a0 ?_;repeat' first|apply ah|refine ai fun hc=>?_)
  refine aR (cE 7 _ 32 cd (bS {}) rfl rfl fS) ?_
  (refine dF a1 a2 a3 ?_;repeat' first|apply ah|refine ai fun hc=>?_)
  refine aR (show Le _ _ (ay [(2,.ptr 2 0 0),(5,iC .i64 0),(6,.ptr 25 0 0),(7,.ptr 7 0 0),(55,.ptr 25 0 0)] [(2,.box 32 (cd.map Cnt.per)),(7,.box 32 ((bS { kind:=2,ses:=s,num:=n }).map Cnt.per)),(25,.box 102 [.per (aK L),iC .i64 o3,iC .i64 e3])])from(by exact ae)) ?_
  (refine dy a4 ?_;repeat' first|apply ah|refine ai fun hc=>?_)
  refine aR (show Le _ _ (ay [(2,.ptr 2 0 0),(5,iC .i64 0),(6,.ptr 25 0 0),(7,.ptr 7 0 0),(105,.ptr 25 0 0),(8,sC ⟨#[]⟩),(9,sC ⟨#[]⟩),(10,sC ⟨#[]⟩)] [(2,.box 32 (cd.map Cnt.per)),(7,.box 32 ((bS { kind:=2,ses:=s,num:=n,same:=n4==1 }).map Cnt.per)),(25,.box 102 [.per (aK L),iC .i64 o4,iC .i64 e4])])from(by exact ae)) ?_
  (refine cW b2 b1 ?_;repeat' first|apply ah|refine ai fun hc=>?_)
  refine d9 ?_ ?_
  ·exact lD
  ·exact al rfl rfl
theorem JT (hL:L.length≤1000000)(a0:Fn prog 50 [.per (aK b)] (.tup2 (.per (aK L)) (el 0)))(hk:(af 1 6 L 0).1=3) :
 Fn prog 14 [.per (aK b)] (.tup2 (.per (DB (zt L).1)) (el (zt L).2)):=by
 have hL0:L.length≤1000000000000:=ab
 have hs0:L <:+ L:=WM L
 generalize hR:d7 L=R
 rw[p8 hR]
 dsimp only [d7,ca]at hR
 have a1:=bd L L 0 hs0 hL0 1 6
 have s1:=(ao 1 6 L 0).trans hs0
 generalize af 1 6 L 0=q1 at *
 obtain⟨k,l1,e1⟩:=q1
 dsimp only at a1 s1 hR
 have e0:((L.length-L.length:Nat):Int)=0:=ab
 unfold dQ at a1
 rw[e0]at a1
 clear e0
 have a2:=bd L l1 e1 s1 hL0 1 281474976710656
 have s2:=(ao 1 281474976710656 l1 e1).trans s1
 generalize af 1 281474976710656 l1 e1=q2 at *
 obtain⟨s,l2,e2⟩:=q2
 dsimp only at a2 s2 hR
 have a3:=eF L l2 e2 s2 hL0
 have s3:=(bX l2 e2).trans s2
 generalize aO l2 e2=q3 at *
 obtain⟨n,l3,e3⟩:=q3
 dsimp only at a3 s3 hR
 dsimp only [d0]at hR
 clear s1 s2 hs0
 have hk:k=3:=hk
 subst hk
 rw[V3 (show ¬(3:Int)=1 by decide),V3 (show ¬(3:Int)=2 by decide),V6 (show(3:Int)=3 from rfl)]at hR
 dsimp only at hR
 have a4:=eF L l3 e3 s3 hL0
 have s4:=(bX l3 e3).trans s3
 generalize aO l3 e3=q4 at *
 obtain⟨n4,l4,e4⟩:=q4
 dsimp only at a4 s4 hR
 rw[show gn 3=0 from rfl]at hR
 dsimp only [gc]at hR
 subst hR
 dsimp only
 have b1:=kK L l4 e4 s4
 generalize di l4 e4=v at *
 dsimp only [dQ]at a1 a2 a3 a4 b1
 generalize ((L.length-l1.length:Nat):Int)=o1 at a1 a2 a3 a4 b1
 generalize ((L.length-l2.length:Nat):Int)=o2 at a1 a2 a3 a4 b1
 generalize ((L.length-l3.length:Nat):Int)=o3 at a1 a2 a3 a4 b1
 generalize ((L.length-l4.length:Nat):Int)=o4 at a1 a2 a3 a4 b1
 have hP:ej { kind:=3,ses:=s,num:=n,nxt:=n4 } []=({ kind:=3,ses:=s,num:=n,nxt:=n4 },0):=by unfold ej;rw[V3 (show ¬(3:Int)=1 by decide),V3 (show ¬(3:Int)=4 by decide),V3 (show ¬(3:Int)=5 by decide)]
 rw[hP]
 dsimp only
 clear hP
 have b2:=je { kind:=3,ses:=s,num:=n,nxt:=n4 } au mn au au
 try clear s3 s4 s5 s6 s7 s8 s9 s10
 by_cases hv:v≠0
 ·rw[V6 hv]
  refine fi func14 ntmps14 ?_
  (refine aq a0 ?_;repeat' first|apply ah|refine ai fun hc=>?_)
  refine aR (cE 7 _ 32 cd (bS {}) rfl rfl fS) ?_
  (refine dF a1 a2 a3 ?_;repeat' first|apply ah|refine ai fun hc=>?_)
  refine aR (show Le _ _ (ay [(2,.ptr 2 0 0),(5,iC .i64 0),(6,.ptr 25 0 0),(7,.ptr 7 0 0),(67,.ptr 25 0 0)] [(2,.box 32 (cd.map Cnt.per)),(7,.box 32 ((bS { kind:=3,ses:=s,num:=n }).map Cnt.per)),(25,.box 102 [.per (aK L),iC .i64 o3,iC .i64 e3])])from(by exact ae)) ?_
  (refine dy a4 ?_;repeat' first|apply ah|refine ai fun hc=>?_)
  refine aR (show Le _ _ (ay [(2,.ptr 2 0 0),(5,iC .i64 0),(6,.ptr 25 0 0),(7,.ptr 7 0 0),(105,.ptr 25 0 0),(8,sC ⟨#[]⟩),(9,sC ⟨#[]⟩),(10,sC ⟨#[]⟩)] [(2,.box 32 (cd.map Cnt.per)),(7,.box 32 ((bS { kind:=3,ses:=s,num:=n,nxt:=n4 }).map Cnt.per)),(25,.box 102 [.per (aK L),iC .i64 o4,iC .i64 e4])])from(by exact ae)) ?_
  (refine dy b1 ?_;repeat' first|apply ah|refine ai fun hc=>?_)
  refine d9 ?_ ?_
  ·exact lD
  ·exact al rfl rfl
 rw[V3 hv,V3 (show ¬(0:Int)≠0 by decide)]
 have hv:v=0:=WB.1 hv
 subst hv
 cases hr:j8 { kind:=3,ses:=s,num:=n,nxt:=n4 }with
 | false=>
  rw[hr]at b2
  rw[V3 au]
  refine fi func14 ntmps14 ?_
  (refine aq a0 ?_;repeat' first|apply ah|refine ai fun hc=>?_)
  refine aR (cE 7 _ 32 cd (bS {}) rfl rfl fS) ?_
  (refine dF a1 a2 a3 ?_;repeat' first|apply ah|refine ai fun hc=>?_)
  refine aR (show Le _ _ (ay [(2,.ptr 2 0 0),(5,iC .i64 0),(6,.ptr 25 0 0),(7,.ptr 7 0 0),(67,.ptr 25 0 0)] [(2,.box 32 (cd.map Cnt.per)),(7,.box 32 ((bS { kind:=3,ses:=s,num:=n }).map Cnt.per)),(25,.box 102 [.per (aK L),iC .i64 o3,iC .i64 e3])])from(by exact ae)) ?_
  (refine dy a4 ?_;repeat' first|apply ah|refine ai fun hc=>?_)
  refine aR (show Le _ _ (ay [(2,.ptr 2 0 0),(5,iC .i64 0),(6,.ptr 25 0 0),(7,.ptr 7 0 0),(105,.ptr 25 0 0),(8,sC ⟨#[]⟩),(9,sC ⟨#[]⟩),(10,sC ⟨#[]⟩)] [(2,.box 32 (cd.map Cnt.per)),(7,.box 32 ((bS { kind:=3,ses:=s,num:=n,nxt:=n4 }).map Cnt.per)),(25,.box 102 [.per (aK L),iC .i64 o4,iC .i64 e4])])from(by exact ae)) ?_
  (refine cW b2 b1 ?_;repeat' first|apply ah|refine ai fun hc=>?_)
  refine d9 ?_ ?_
  ·exact lD
  ·exact al rfl rfl
 | true=>
  rw[hr]at b2
  rw[V6 rfl]
  refine fi func14 ntmps14 ?_
  (refine aq a0 ?_;repeat' first|apply ah|refine ai fun hc=>?_)
  refine aR (cE 7 _ 32 cd (bS {}) rfl rfl fS) ?_
  (refine dF a1 a2 a3 ?_;repeat' first|apply ah|refine ai fun hc=>?_)
  refine aR (show Le _ _ (ay [(2,.ptr 2 0 0),(5,iC .i64 0),(6,.ptr 25 0 0),(7,.ptr 7 0 0),(67,.ptr 25 0 0)] [(2,.box 32 (cd.map Cnt.per)),(7,.box 32 ((bS { kind:=3,ses:=s,num:=n }).map Cnt.per)),(25,.box 102 [.per (aK L),iC .i64 o3,iC .i64 e3])])from(by exact ae)) ?_
  (refine dy a4 ?_;repeat' first|apply ah|refine ai fun hc=>?_)
  refine aR (show Le _ _ (ay [(2,.ptr 2 0 0),(5,iC .i64 0),(6,.ptr 25 0 0),(7,.ptr 7 0 0),(105,.ptr 25 0 0),(8,sC ⟨#[]⟩),(9,sC ⟨#[]⟩),(10,sC ⟨#[]⟩)] [(2,.box 32 (cd.map Cnt.per)),(7,.box 32 ((bS { kind:=3,ses:=s,num:=n,nxt:=n4 }).map Cnt.per)),(25,.box 102 [.per (aK L),iC .i64 o4,iC .i64 e4])])from(by exact ae)) ?_
  (refine cW b2 b1 ?_;repeat' first|apply ah|refine ai fun hc=>?_)
  refine d9 ?_ ?_
  ·exact lD
  ·exact al rfl rfl
theorem JU (hL:L.length≤1000000)(a0:Fn prog 50 [.per (aK b)] (.tup2 (.per (aK L)) (el 0)))(hk:(af 1 6 L 0).1=6) :
 Fn prog 14 [.per (aK b)] (.tup2 (.per (DB (zt L).1)) (el (zt L).2)):=by
 have hL0:L.length≤1000000000000:=ab
 have hs0:L <:+ L:=WM L
 generalize hR:d7 L=R
 rw[p8 hR]
 dsimp only [d7,ca]at hR
 have a1:=bd L L 0 hs0 hL0 1 6
 have s1:=(ao 1 6 L 0).trans hs0
 generalize af 1 6 L 0=q1 at *
 obtain⟨k,l1,e1⟩:=q1
 dsimp only at a1 s1 hR
 have e0:((L.length-L.length:Nat):Int)=0:=ab
 unfold dQ at a1
 rw[e0]at a1
 clear e0
 have a2:=bd L l1 e1 s1 hL0 1 281474976710656
 have s2:=(ao 1 281474976710656 l1 e1).trans s1
 generalize af 1 281474976710656 l1 e1=q2 at *
 obtain⟨s,l2,e2⟩:=q2
 dsimp only at a2 s2 hR
 have a3:=eF L l2 e2 s2 hL0
 have s3:=(bX l2 e2).trans s2
 generalize aO l2 e2=q3 at *
 obtain⟨n,l3,e3⟩:=q3
 dsimp only at a3 s3 hR
 dsimp only [d0]at hR
 clear s1 s2 hs0
 have hk:k=6:=hk
 subst hk
 rw[V3 (show ¬(6:Int)=1 by decide),V3 (show ¬(6:Int)=2 by decide),V3 (show ¬(6:Int)=3 by decide),V3 (show ¬(6:Int)=5 by decide),V6 (show(6:Int)=6 from rfl)]at hR
 dsimp only at hR
 have a4:=bd L l3 e3 s3 hL0 1 281474976710656
 have s4:=(ao 1 281474976710656 l3 e3).trans s3
 generalize af 1 281474976710656 l3 e3=q4 at *
 obtain⟨n4,l4,e4⟩:=q4
 dsimp only at a4 s4 hR
 rw[show gn 6=0 from rfl]at hR
 dsimp only [gc]at hR
 subst hR
 dsimp only
 have b1:=kK L l4 e4 s4
 generalize di l4 e4=v at *
 dsimp only [dQ]at a1 a2 a3 a4 b1
 generalize ((L.length-l1.length:Nat):Int)=o1 at a1 a2 a3 a4 b1
 generalize ((L.length-l2.length:Nat):Int)=o2 at a1 a2 a3 a4 b1
 generalize ((L.length-l3.length:Nat):Int)=o3 at a1 a2 a3 a4 b1
 generalize ((L.length-l4.length:Nat):Int)=o4 at a1 a2 a3 a4 b1
 have hP:ej { kind:=6,ses:=s,num:=n,err:=n4 } []=({ kind:=6,ses:=s,num:=n,err:=n4 },0):=by unfold ej;rw[V3 (show ¬(6:Int)=1 by decide),V3 (show ¬(6:Int)=4 by decide),V3 (show ¬(6:Int)=5 by decide)]
 rw[hP]
 dsimp only
 clear hP
 have b2:=je { kind:=6,ses:=s,num:=n,err:=n4 } au mn au au
 try clear s3 s4 s5 s6 s7 s8 s9 s10
 by_cases hv:v≠0
 ·rw[V6 hv]
  refine fi func14 ntmps14 ?_
  (refine aq a0 ?_;repeat' first|apply ah|refine ai fun hc=>?_)
  refine aR (cE 7 _ 32 cd (bS {}) rfl rfl fS) ?_
  (refine dF a1 a2 a3 ?_;repeat' first|apply ah|refine ai fun hc=>?_)
  refine aR (show Le _ _ (ay [(2,.ptr 2 0 0),(5,iC .i64 0),(6,.ptr 25 0 0),(7,.ptr 7 0 0),(80,.ptr 25 0 0)] [(2,.box 32 (cd.map Cnt.per)),(7,.box 32 ((bS { kind:=6,ses:=s,num:=n }).map Cnt.per)),(25,.box 102 [.per (aK L),iC .i64 o3,iC .i64 e3])])from(by exact ae)) ?_
  (refine dy a4 ?_;repeat' first|apply ah|refine ai fun hc=>?_)
  refine aR (show Le _ _ (ay [(2,.ptr 2 0 0),(5,iC .i64 0),(6,.ptr 25 0 0),(7,.ptr 7 0 0),(105,.ptr 25 0 0),(8,sC ⟨#[]⟩),(9,sC ⟨#[]⟩),(10,sC ⟨#[]⟩)] [(2,.box 32 (cd.map Cnt.per)),(7,.box 32 ((bS { kind:=6,ses:=s,num:=n,err:=n4 }).map Cnt.per)),(25,.box 102 [.per (aK L),iC .i64 o4,iC .i64 e4])])from(by exact ae)) ?_
  (refine dy b1 ?_;repeat' first|apply ah|refine ai fun hc=>?_)
  refine d9 ?_ ?_
  ·exact lD
  ·exact al rfl rfl
 rw[V3 hv,V3 (show ¬(0:Int)≠0 by decide)]
 have hv:v=0:=WB.1 hv
 subst hv
 cases hr:j8 { kind:=6,ses:=s,num:=n,err:=n4 }with
 | false=>
  rw[hr]at b2
  rw[V3 au]
  refine fi func14 ntmps14 ?_
  (refine aq a0 ?_;repeat' first|apply ah|refine ai fun hc=>?_)
  refine aR (cE 7 _ 32 cd (bS {}) rfl rfl fS) ?_
  (refine dF a1 a2 a3 ?_;repeat' first|apply ah|refine ai fun hc=>?_)
  refine aR (show Le _ _ (ay [(2,.ptr 2 0 0),(5,iC .i64 0),(6,.ptr 25 0 0),(7,.ptr 7 0 0),(80,.ptr 25 0 0)] [(2,.box 32 (cd.map Cnt.per)),(7,.box 32 ((bS { kind:=6,ses:=s,num:=n }).map Cnt.per)),(25,.box 102 [.per (aK L),iC .i64 o3,iC .i64 e3])])from(by exact ae)) ?_
  (refine dy a4 ?_;repeat' first|apply ah|refine ai fun hc=>?_)
  refine aR (show Le _ _ (ay [(2,.ptr 2 0 0),(5,iC .i64 0),(6,.ptr 25 0 0),(7,.ptr 7 0 0),(105,.ptr 25 0 0),(8,sC ⟨#[]⟩),(9,sC ⟨#[]⟩),(10,sC ⟨#[]⟩)] [(2,.box 32 (cd.map Cnt.per)),(7,.box 32 ((bS { kind:=6,ses:=s,num:=n,err:=n4 }).map Cnt.per)),(25,.box 102 [.per (aK L),iC .i64 o4,iC .i64 e4])])from(by exact ae)) ?_
  (refine cW b2 b1 ?_;repeat' first|apply ah|refine ai fun hc=>?_)
  refine d9 ?_ ?_
  ·exact lD
  ·exact al rfl rfl
 | true=>
  rw[hr]at b2
  rw[V6 rfl]
  refine fi func14 ntmps14 ?_
  (refine aq a0 ?_;repeat' first|apply ah|refine ai fun hc=>?_)
  refine aR (cE 7 _ 32 cd (bS {}) rfl rfl fS) ?_
  (refine dF a1 a2 a3 ?_;repeat' first|apply ah|refine ai fun hc=>?_)
  refine aR (show Le _ _ (ay [(2,.ptr 2 0 0),(5,iC .i64 0),(6,.ptr 25 0 0),(7,.ptr 7 0 0),(80,.ptr 25 0 0)] [(2,.box 32 (cd.map Cnt.per)),(7,.box 32 ((bS { kind:=6,ses:=s,num:=n }).map Cnt.per)),(25,.box 102 [.per (aK L),iC .i64 o3,iC .i64 e3])])from(by exact ae)) ?_
  (refine dy a4 ?_;repeat' first|apply ah|refine ai fun hc=>?_)
  refine aR (show Le _ _ (ay [(2,.ptr 2 0 0),(5,iC .i64 0),(6,.ptr 25 0 0),(7,.ptr 7 0 0),(105,.ptr 25 0 0),(8,sC ⟨#[]⟩),(9,sC ⟨#[]⟩),(10,sC ⟨#[]⟩)] [(2,.box 32 (cd.map Cnt.per)),(7,.box 32 ((bS { kind:=6,ses:=s,num:=n,err:=n4 }).map Cnt.per)),(25,.box 102 [.per (aK L),iC .i64 o4,iC .i64 e4])])from(by exact ae)) ?_
  (refine cW b2 b1 ?_;repeat' first|apply ah|refine ai fun hc=>?_)
  refine d9 ?_ ?_
  ·exact lD
  ·exact al rfl rfl
theorem JV (hL:L.length≤1000000)(a0:Fn prog 50 [.per (aK b)] (.tup2 (.per (aK L)) (el 0)))(hk:∀k,(af 1 6 L 0).1=k→k≠1∧k≠2∧k≠3∧k≠4∧k≠5∧k≠6) :
 Fn prog 14 [.per (aK b)] (.tup2 (.per (DB (zt L).1)) (el (zt L).2)):=by
 have hL0:L.length≤1000000000000:=ab
 have hs0:L <:+ L:=WM L
 generalize hR:d7 L=R
 rw[p8 hR]
 dsimp only [d7,ca]at hR
 have a1:=bd L L 0 hs0 hL0 1 6
 have s1:=(ao 1 6 L 0).trans hs0
 generalize af 1 6 L 0=q1 at *
 obtain⟨k,l1,e1⟩:=q1
 dsimp only at a1 s1 hR
 have e0:((L.length-L.length:Nat):Int)=0:=ab
 unfold dQ at a1
 rw[e0]at a1
 clear e0
 have a2:=bd L l1 e1 s1 hL0 1 281474976710656
 have s2:=(ao 1 281474976710656 l1 e1).trans s1
 generalize af 1 281474976710656 l1 e1=q2 at *
 obtain⟨s,l2,e2⟩:=q2
 dsimp only at a2 s2 hR
 have a3:=eF L l2 e2 s2 hL0
 have s3:=(bX l2 e2).trans s2
 generalize aO l2 e2=q3 at *
 obtain⟨n,l3,e3⟩:=q3
 dsimp only at a3 s3 hR
 dsimp only [d0]at hR
 clear s1 s2 hs0
 obtain⟨c1,c2,c3,c4,c5,c6⟩:=hk k rfl
 clear hk
 rw[V3 c1,V3 c2,V3 c3,V3 c5,V3 c6]at hR
 rw[show gn k=0 by unfold gn;rw[V3 c1,V3 (fun q=>q.elim c4 c5)]]at hR
 dsimp only [gc]at hR
 subst hR
 dsimp only
 have b1:=kK L l3 e3 s3
 generalize di l3 e3=v at *
 dsimp only [dQ]at a1 a2 a3 b1
 generalize ((L.length-l1.length:Nat):Int)=o1 at a1 a2 a3 b1
 generalize ((L.length-l2.length:Nat):Int)=o2 at a1 a2 a3 b1
 generalize ((L.length-l3.length:Nat):Int)=o3 at a1 a2 a3 b1
 have hP:ej { kind:=k,ses:=s,num:=n } []=({ kind:=k,ses:=s,num:=n },0):=by unfold ej;rw[V3 c1,V3 c4,V3 c5]
 rw[hP]
 dsimp only
 clear hP
 have b2:=je { kind:=k,ses:=s,num:=n } au mn au au
 try clear s3 s4 s5 s6 s7 s8 s9 s10
 by_cases hv:v≠0
 ·rw[V6 hv]
  refine fi func14 ntmps14 ?_
  (refine aq a0 ?_;repeat' first|apply ah|refine ai fun hc=>?_)
  refine aR (cE 7 _ 32 cd (bS {}) rfl rfl fS) ?_
  (refine dF a1 a2 a3 ?_;repeat' first|apply ah|refine ai fun hc=>?_)
  refine aR (show Le _ _ (ay [(2,.ptr 2 0 0),(5,iC .i64 0),(6,.ptr 25 0 0),(7,.ptr 7 0 0),(105,.ptr 25 0 0),(8,sC ⟨#[]⟩),(9,sC ⟨#[]⟩),(10,sC ⟨#[]⟩)] [(2,.box 32 (cd.map Cnt.per)),(7,.box 32 ((bS { kind:=k,ses:=s,num:=n }).map Cnt.per)),(25,.box 102 [.per (aK L),iC .i64 o3,iC .i64 e3])])from(by exact ae)) ?_
  (refine dy b1 ?_;repeat' first|apply ah|refine ai fun hc=>?_)
  refine d9 ?_ ?_
  ·exact lD
  ·exact al rfl rfl
 rw[V3 hv,V3 (show ¬(0:Int)≠0 by decide)]
 have hv:v=0:=WB.1 hv
 subst hv
 cases hr:j8 { kind:=k,ses:=s,num:=n }with
 | false=>
  rw[hr]at b2
  rw[V3 au]
  refine fi func14 ntmps14 ?_
  (refine aq a0 ?_;repeat' first|apply ah|refine ai fun hc=>?_)
  refine aR (cE 7 _ 32 cd (bS {}) rfl rfl fS) ?_
  (refine dF a1 a2 a3 ?_;repeat' first|apply ah|refine ai fun hc=>?_)
  refine aR (show Le _ _ (ay [(2,.ptr 2 0 0),(5,iC .i64 0),(6,.ptr 25 0 0),(7,.ptr 7 0 0),(105,.ptr 25 0 0),(8,sC ⟨#[]⟩),(9,sC ⟨#[]⟩),(10,sC ⟨#[]⟩)] [(2,.box 32 (cd.map Cnt.per)),(7,.box 32 ((bS { kind:=k,ses:=s,num:=n }).map Cnt.per)),(25,.box 102 [.per (aK L),iC .i64 o3,iC .i64 e3])])from(by exact ae)) ?_
  (refine cW b2 b1 ?_;repeat' first|apply ah|refine ai fun hc=>?_)
  refine d9 ?_ ?_
  ·exact lD
  ·exact al rfl rfl
 | true=>
  rw[hr]at b2
  rw[V6 rfl]
  refine fi func14 ntmps14 ?_
  (refine aq a0 ?_;repeat' first|apply ah|refine ai fun hc=>?_)
  refine aR (cE 7 _ 32 cd (bS {}) rfl rfl fS) ?_
  (refine dF a1 a2 a3 ?_;repeat' first|apply ah|refine ai fun hc=>?_)
  refine aR (show Le _ _ (ay [(2,.ptr 2 0 0),(5,iC .i64 0),(6,.ptr 25 0 0),(7,.ptr 7 0 0),(105,.ptr 25 0 0),(8,sC ⟨#[]⟩),(9,sC ⟨#[]⟩),(10,sC ⟨#[]⟩)] [(2,.box 32 (cd.map Cnt.per)),(7,.box 32 ((bS { kind:=k,ses:=s,num:=n }).map Cnt.per)),(25,.box 102 [.per (aK L),iC .i64 o3,iC .i64 e3])])from(by exact ae)) ?_
  (refine cW b2 b1 ?_;repeat' first|apply ah|refine ai fun hc=>?_)
  refine d9 ?_ ?_
  ·exact lD
  ·exact al rfl rfl
end Go.Proofs.YtaclhhkblbacgaaGreat
