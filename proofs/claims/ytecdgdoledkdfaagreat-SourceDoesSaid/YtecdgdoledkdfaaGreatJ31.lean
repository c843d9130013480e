/- Lemmas, walks. -/
import Derived.Test.YtecdgdoledkdfaaGreatJ28
set_option maxRecDepth 10000
set_option maxHeartbeats 8000000
namespace Go.Proofs.YtecdgdoledkdfaaGreat
open Go.RowKit Go.Proofs.Tryz
variable {L b:List UInt8}
theorem f7:PW ce (bR {}):=by(repeat (first|exact PW.nil|(refine PW.cons (by first|exact yi.refl|exact ct) ?_)))
theorem rE {l:List UInt8}{R:Msg×List (List UInt8)×List UInt8×Int}(h:cY l=R) :
 vW l=(if dg R.2.2.1 R.2.2.2≠0 then({},dg R.2.2.1 R.2.2.2)else if(dx R.1 R.2.1).2≠0 then({},(dx R.1 R.2.1).2)else if lK (dx R.1 R.2.1).1 then((dx R.1 R.2.1).1,0)else({},11)):=by rw[IV,h]
theorem nc:fe []:=⟨aA,λp hp=>by simp at hp⟩
theorem M2 {l:List UInt8}{i:Nat}(h:i<l.length):gj (l.drop i)=l[i].toNat+256*gj (l.drop (i+1)):=by rw[List.drop_eq_getElem_cons h];rfl
theorem M3 (hL:L.length<=1000000)(a0:Fn prog 84 [.per (aK b)] (.tup2 (.per (aK L)) (eA 0)))(hk:(af 1 6 L 0).1=2) :
 Fn prog 38 [.per (aK b)] (.tup2 (.per (MA (vW L).1)) (eA (vW L).2)):=by
 have hL0:L.length<=1000000000000:=ae
 have hs0:L <:+ L:=aa5 L
 generalize hR:cY L=R
 rw[rE hR]
 dsimp only [cY,bM]at hR
 have a1:=bu L L 0 hs0 hL0 1 6
 have s1:=(aC 1 6 L 0).trans hs0
 generalize af 1 6 L 0=q1 at *
 obtain⟨k,l1,e1⟩:=q1
 dsimp only at a1 s1 hR
 have e0:((L.length-L.length:Nat):Int)=0:=ae
 unfold d0 at a1
 rw[e0]at a1
 clear e0
 have a2:=bu L l1 e1 s1 hL0 1 281474976710656
 have s2:=(aC 1 281474976710656 l1 e1).trans s1
 generalize af 1 281474976710656 l1 e1=q2 at *
 obtain⟨s,l2,e2⟩:=q2
 dsimp only at a2 s2 hR
 have a3:=eU L l2 e2 s2 hL0
 have s3:=(cQ l2 e2).trans s2
 generalize bI l2 e2=q3 at *
 obtain⟨n,l3,e3⟩:=q3
 dsimp only at a3 s3 hR
 dsimp only [d7]at hR
 clear s1 s2 hs0
 have hk:k=2:=hk
 subst hk
 rw[aab (show ¬(2:Int)=1 by decide),aae (show(2:Int)=2 from rfl)]at hR
 dsimp only at hR
 have a4:=bu L l3 e3 s3 hL0 0 1
 have s4:=(aC 0 1 l3 e3).trans s3
 generalize af 0 1 l3 e3=q4 at *
 obtain⟨n4,l4,e4⟩:=q4
 dsimp only at a4 s4 hR
 rw[show gv 2=0 from rfl]at hR
 dsimp only [gu]at hR
 subst hR
 dsimp only
 have b1:=lj L l4 e4 s4
 generalize dg l4 e4=v at *
 dsimp only [d0]at a1 a2 a3 a4 b1
 generalize ((L.length-l1.length:Nat):Int)=o1 at a1 a2 a3 a4 b1
 generalize ((L.length-l2.length:Nat):Int)=o2 at a1 a2 a3 a4 b1
 generalize ((L.length-l3.length:Nat):Int)=o3 at a1 a2 a3 a4 b1
 generalize ((L.length-l4.length:Nat):Int)=o4 at a1 a2 a3 a4 b1
 have hP:dx { kind:=2,ses:=s,num:=n,same:=n4==1 } []=({ kind:=2,ses:=s,num:=n,same:=n4==1 },0):=by grind[dx]
 rw[hP]
 dsimp only
 clear hP
 have b2:=kt { kind:=2,ses:=s,num:=n,same:=n4==1 } aA nc aA aA
 try clear s3 s4 s5 s6 s7 s8 s9 s10
 by_cases hv:v≠0
 ·rw[aae hv]
  refine fi func38 ntmps38 ?_
  (refine au a0 ?_;refine ah λhc=>?_)
  refine aV (cL 7 _ 43 ce (bR {}) rfl rfl f7) ?_
  (refine dQ a1 a2 a3 ?_;repeat' first|apply aw|refine ah λhc=>?_)
  refine aV (show Le _ _ (aF [(2,.ptr 2 0 0),(5,iC .i64 0),(6,.ptr 25 0 0),(7,.ptr 7 0 0),(55,.ptr 25 0 0)] [(2,.box 43 (ce.map Cnt.per)),(7,.box 43 ((bR { kind:=2,ses:=s,num:=n }).map Cnt.per)),(25,.box 145 [.per (aK L),iC .i64 o3,iC .i64 e3])])from(by exact ab)) ?_
  (refine dK a4 ?_;repeat' first|apply aw|refine ah λhc=>?_)
  refine aV (show Le _ _ (aF [(2,.ptr 2 0 0),(5,iC .i64 0),(6,.ptr 25 0 0),(7,.ptr 7 0 0),(105,.ptr 25 0 0),(8,sC ⟨#[]⟩),(9,sC ⟨#[]⟩),(10,sC ⟨#[]⟩)] [(2,.box 43 (ce.map Cnt.per)),(7,.box 43 ((bR { kind:=2,ses:=s,num:=n,same:=n4==1 }).map Cnt.per)),(25,.box 145 [.per (aK L),iC .i64 o4,iC .i64 e4])])from(by exact ab)) ?_
  (refine dK b1 ?_;repeat' first|apply aw|refine ah λhc=>?_)
  refine dV ?_ ?_
  ·exact m5
  ·exact aq rfl rfl
 rw[aab hv,aab (show ¬(0:Int)≠0 by decide)]
 have hv:v=0:=aaG.1 hv
 subst hv
 cases hr:lK { kind:=2,ses:=s,num:=n,same:=n4==1 }with
 | false=>
  rw[hr]at b2
  rw[aab aA]
  refine fi func38 ntmps38 ?_
  (refine au a0 ?_;refine ah λhc=>?_)
  refine aV (cL 7 _ 43 ce (bR {}) rfl rfl f7) ?_
  (refine dQ a1 a2 a3 ?_;repeat' first|apply aw|refine ah λhc=>?_)
  refine aV (show Le _ _ (aF [(2,.ptr 2 0 0),(5,iC .i64 0),(6,.ptr 25 0 0),(7,.ptr 7 0 0),(55,.ptr 25 0 0)] [(2,.box 43 (ce.map Cnt.per)),(7,.box 43 ((bR { kind:=2,ses:=s,num:=n }).map Cnt.per)),(25,.box 145 [.per (aK L),iC .i64 o3,iC .i64 e3])])from(by exact ab)) ?_
  (refine dK a4 ?_;repeat' first|apply aw|refine ah λhc=>?_)
  refine aV (show Le _ _ (aF [(2,.ptr 2 0 0),(5,iC .i64 0),(6,.ptr 25 0 0),(7,.ptr 7 0 0),(105,.ptr 25 0 0),(8,sC ⟨#[]⟩),(9,sC ⟨#[]⟩),(10,sC ⟨#[]⟩)] [(2,.box 43 (ce.map Cnt.per)),(7,.box 43 ((bR { kind:=2,ses:=s,num:=n,same:=n4==1 }).map Cnt.per)),(25,.box 145 [.per (aK L),iC .i64 o4,iC .i64 e4])])from(by exact ab)) ?_
  (refine de b2 b1 ?_;repeat' first|apply aw|refine ah λhc=>?_)
  refine dV ?_ ?_
  ·exact m5
  ·exact aq rfl rfl
 | true=>
  rw[hr]at b2
  rw[aae rfl]
  refine fi func38 ntmps38 ?_
  (refine au a0 ?_;refine ah λhc=>?_)
  refine aV (cL 7 _ 43 ce (bR {}) rfl rfl f7) ?_
  (refine dQ a1 a2 a3 ?_;repeat' first|apply aw|refine ah λhc=>?_)
  refine aV (show Le _ _ (aF [(2,.ptr 2 0 0),(5,iC .i64 0),(6,.ptr 25 0 0),(7,.ptr 7 0 0),(55,.ptr 25 0 0)] [(2,.box 43 (ce.map Cnt.per)),(7,.box 43 ((bR { kind:=2,ses:=s,num:=n }).map Cnt.per)),(25,.box 145 [.per (aK L),iC .i64 o3,iC .i64 e3])])from(by exact ab)) ?_
  (refine dK a4 ?_;repeat' first|apply aw|refine ah λhc=>?_)
  refine aV (show Le _ _ (aF [(2,.ptr 2 0 0),(5,iC .i64 0),(6,.ptr 25 0 0),(7,.ptr 7 0 0),(105,.ptr 25 0 0),(8,sC ⟨#[]⟩),(9,sC ⟨#[]⟩),(10,sC ⟨#[]⟩)] [(2,.box 43 (ce.map Cnt.per)),(7,.box 43 ((bR { kind:=2,ses:=s,num:=n,same:=n4==1 }).map Cnt.per)),(25,.box 145 [.per (aK L),iC .i64 o4,iC .i64 e4])])from(by exact ab)) ?_
  (refine de b2 b1 ?_;repeat' first|apply aw|refine ah λhc=>?_)
  refine dV ?_ ?_
  ·exact m5
  ·exact aq rfl rfl
theorem M4 (hL:L.length<=1000000)(a0:Fn prog 84 [.per (aK b)] (.tup2 (.per (aK L)) (eA 0)))(hk:(af 1 6 L 0).1=3) :
 Fn prog 38 [.per (aK b)] (.tup2 (.per (MA (vW L).1)) (eA (vW L).2)):=by
 have hL0:L.length<=1000000000000:=ae
 have hs0:L <:+ L:=aa5 L
 generalize hR:cY L=R
 rw[rE hR]
 dsimp only [cY,bM]at hR
 have a1:=bu L L 0 hs0 hL0 1 6
 have s1:=(aC 1 6 L 0).trans hs0
 generalize af 1 6 L 0=q1 at *
 obtain⟨k,l1,e1⟩:=q1
 dsimp only at a1 s1 hR
 have e0:((L.length-L.length:Nat):Int)=0:=ae
 unfold d0 at a1
 rw[e0]at a1
 clear e0
 have a2:=bu L l1 e1 s1 hL0 1 281474976710656
 have s2:=(aC 1 281474976710656 l1 e1).trans s1
 generalize af 1 281474976710656 l1 e1=q2 at *
 obtain⟨s,l2,e2⟩:=q2
 dsimp only at a2 s2 hR
 have a3:=eU L l2 e2 s2 hL0
 have s3:=(cQ l2 e2).trans s2
 generalize bI l2 e2=q3 at *
 obtain⟨n,l3,e3⟩:=q3
 dsimp only at a3 s3 hR
 dsimp only [d7]at hR
 clear s1 s2 hs0
 have hk:k=3:=hk
 subst hk
 rw[aab (show ¬(3:Int)=1 by decide),aab (show ¬(3:Int)=2 by decide),aae (show(3:Int)=3 from rfl)]at hR
 dsimp only at hR
 have a4:=eU L l3 e3 s3 hL0
 have s4:=(cQ l3 e3).trans s3
 generalize bI l3 e3=q4 at *
 obtain⟨n4,l4,e4⟩:=q4
 dsimp only at a4 s4 hR
 rw[show gv 3=0 from rfl]at hR
 dsimp only [gu]at hR
 subst hR
 dsimp only
 have b1:=lj L l4 e4 s4
 generalize dg l4 e4=v at *
 dsimp only [d0]at a1 a2 a3 a4 b1
 generalize ((L.length-l1.length:Nat):Int)=o1 at a1 a2 a3 a4 b1
 generalize ((L.length-l2.length:Nat):Int)=o2 at a1 a2 a3 a4 b1
 generalize ((L.length-l3.length:Nat):Int)=o3 at a1 a2 a3 a4 b1
 generalize ((L.length-l4.length:Nat):Int)=o4 at a1 a2 a3 a4 b1
 have hP:dx { kind:=3,ses:=s,num:=n,nxt:=n4 } []=({ kind:=3,ses:=s,num:=n,nxt:=n4 },0):=by grind[dx]
 rw[hP]
 dsimp only
 clear hP
 have b2:=kt { kind:=3,ses:=s,num:=n,nxt:=n4 } aA nc aA aA
 try clear s3 s4 s5 s6 s7 s8 s9 s10
 by_cases hv:v≠0
 ·rw[aae hv]
  refine fi func38 ntmps38 ?_
  (refine au a0 ?_;refine ah λhc=>?_)
  refine aV (cL 7 _ 43 ce (bR {}) rfl rfl f7) ?_
  (refine dQ a1 a2 a3 ?_;repeat' first|apply aw|refine ah λhc=>?_)
  refine aV (show Le _ _ (aF [(2,.ptr 2 0 0),(5,iC .i64 0),(6,.ptr 25 0 0),(7,.ptr 7 0 0),(67,.ptr 25 0 0)] [(2,.box 43 (ce.map Cnt.per)),(7,.box 43 ((bR { kind:=3,ses:=s,num:=n }).map Cnt.per)),(25,.box 145 [.per (aK L),iC .i64 o3,iC .i64 e3])])from(by exact ab)) ?_
  (refine dK a4 ?_;repeat' first|apply aw|refine ah λhc=>?_)
  refine aV (show Le _ _ (aF [(2,.ptr 2 0 0),(5,iC .i64 0),(6,.ptr 25 0 0),(7,.ptr 7 0 0),(105,.ptr 25 0 0),(8,sC ⟨#[]⟩),(9,sC ⟨#[]⟩),(10,sC ⟨#[]⟩)] [(2,.box 43 (ce.map Cnt.per)),(7,.box 43 ((bR { kind:=3,ses:=s,num:=n,nxt:=n4 }).map Cnt.per)),(25,.box 145 [.per (aK L),iC .i64 o4,iC .i64 e4])])from(by exact ab)) ?_
  (refine dK b1 ?_;repeat' first|apply aw|refine ah λhc=>?_)
  refine dV ?_ ?_
  ·exact m5
  ·exact aq rfl rfl
 rw[aab hv,aab (show ¬(0:Int)≠0 by decide)]
 have hv:v=0:=aaG.1 hv
 subst hv
 cases hr:lK { kind:=3,ses:=s,num:=n,nxt:=n4 }with
 | false=>
  rw[hr]at b2
  rw[aab aA]
  refine fi func38 ntmps38 ?_
  (refine au a0 ?_;refine ah λhc=>?_)
  refine aV (cL 7 _ 43 ce (bR {}) rfl rfl f7) ?_
  (refine dQ a1 a2 a3 ?_;repeat' first|apply aw|refine ah λhc=>?_)
  refine aV (show Le _ _ (aF [(2,.ptr 2 0 0),(5,iC .i64 0),(6,.ptr 25 0 0),(7,.ptr 7 0 0),(67,.ptr 25 0 0)] [(2,.box 43 (ce.map Cnt.per)),(7,.box 43 ((bR { kind:=3,ses:=s,num:=n }).map Cnt.per)),(25,.box 145 [.per (aK L),iC .i64 o3,iC .i64 e3])])from(by exact ab)) ?_
  (refine dK a4 ?_;repeat' first|apply aw|refine ah λhc=>?_)
  refine aV (show Le _ _ (aF [(2,.ptr 2 0 0),(5,iC .i64 0),(6,.ptr 25 0 0),(7,.ptr 7 0 0),(105,.ptr 25 0 0),(8,sC ⟨#[]⟩),(9,sC ⟨#[]⟩),(10,sC ⟨#[]⟩)] [(2,.box 43 (ce.map Cnt.per)),(7,.box 43 ((bR { kind:=3,ses:=s,num:=n,nxt:=n4 }).map Cnt.per)),(25,.box 145 [.per (aK L),iC .i64 o4,iC .i64 e4])])from(by exact ab)) ?_
  (refine de b2 b1 ?_;repeat' first|apply aw|refine ah λhc=>?_)
  refine dV ?_ ?_
  ·exact m5
  ·exact aq rfl rfl
 | true=>
  rw[hr]at b2
  rw[aae rfl]
  refine fi func38 ntmps38 ?_
  (refine au a0 ?_;refine ah λhc=>?_)
  refine aV (cL 7 _ 43 ce (bR {}) rfl rfl f7) ?_
  (refine dQ a1 a2 a3 ?_;repeat' first|apply aw|refine ah λhc=>?_)
  refine aV (show Le _ _ (aF [(2,.ptr 2 0 0),(5,iC .i64 0),(6,.ptr 25 0 0),(7,.ptr 7 0 0),(67,.ptr 25 0 0)] [(2,.box 43 (ce.map Cnt.per)),(7,.box 43 ((bR { kind:=3,ses:=s,num:=n }).map Cnt.per)),(25,.box 145 [.per (aK L),iC .i64 o3,iC .i64 e3])])from(by exact ab)) ?_
  (refine dK a4 ?_;repeat' first|apply aw|refine ah λhc=>?_)
  refine aV (show Le _ _ (aF [(2,.ptr 2 0 0),(5,iC .i64 0),(6,.ptr 25 0 0),(7,.ptr 7 0 0),(105,.ptr 25 0 0),(8,sC ⟨#[]⟩),(9,sC ⟨#[]⟩),(10,sC ⟨#[]⟩)] [(2,.box 43 (ce.map Cnt.per)),(7,.box 43 ((bR { kind:=3,ses:=s,num:=n,nxt:=n4 }).map Cnt.per)),(25,.box 145 [.per (aK L),iC .i64 o4,iC .i64 e4])])from(by exact ab)) ?_
  (refine de b2 b1 ?_;repeat' first|apply aw|refine ah λhc=>?_)
  refine dV ?_ ?_
  ·exact m5
  ·exact aq rfl rfl
theorem M5 (hL:L.length<=1000000)(a0:Fn prog 84 [.per (aK b)] (.tup2 (.per (aK L)) (eA 0)))(hk:(af 1 6 L 0).1=6) :
 Fn prog 38 [.per (aK b)] (.tup2 (.per (MA (vW L).1)) (eA (vW L).2)):=by
 have hL0:L.length<=1000000000000:=ae
 have hs0:L <:+ L:=aa5 L
 generalize hR:cY L=R
 rw[rE hR]
 dsimp only [cY,bM]at hR
 have a1:=bu L L 0 hs0 hL0 1 6
 have s1:=(aC 1 6 L 0).trans hs0
 generalize af 1 6 L 0=q1 at *
 obtain⟨k,l1,e1⟩:=q1
 dsimp only at a1 s1 hR
 have e0:((L.length-L.length:Nat):Int)=0:=ae
 unfold d0 at a1
 rw[e0]at a1
 clear e0
 have a2:=bu L l1 e1 s1 hL0 1 281474976710656
 have s2:=(aC 1 281474976710656 l1 e1).trans s1
 generalize af 1 281474976710656 l1 e1=q2 at *
 obtain⟨s,l2,e2⟩:=q2
 dsimp only at a2 s2 hR
 have a3:=eU L l2 e2 s2 hL0
 have s3:=(cQ l2 e2).trans s2
 generalize bI l2 e2=q3 at *
 obtain⟨n,l3,e3⟩:=q3
 dsimp only at a3 s3 hR
 dsimp only [d7]at hR
 clear s1 s2 hs0
 have hk:k=6:=hk
 subst hk
 rw[aab (show ¬(6:Int)=1 by decide),aab (show ¬(6:Int)=2 by decide),aab (show ¬(6:Int)=3 by decide),aab (show ¬(6:Int)=5 by decide),aae (show(6:Int)=6 from rfl)]at hR
 dsimp only at hR
 have a4:=bu L l3 e3 s3 hL0 1 281474976710656
 have s4:=(aC 1 281474976710656 l3 e3).trans s3
 generalize af 1 281474976710656 l3 e3=q4 at *
 obtain⟨n4,l4,e4⟩:=q4
 dsimp only at a4 s4 hR
 rw[show gv 6=0 from rfl]at hR
 dsimp only [gu]at hR
 subst hR
 dsimp only
 have b1:=lj L l4 e4 s4
 generalize dg l4 e4=v at *
 dsimp only [d0]at a1 a2 a3 a4 b1
 generalize ((L.length-l1.length:Nat):Int)=o1 at a1 a2 a3 a4 b1
 generalize ((L.length-l2.length:Nat):Int)=o2 at a1 a2 a3 a4 b1
 generalize ((L.length-l3.length:Nat):Int)=o3 at a1 a2 a3 a4 b1
 generalize ((L.length-l4.length:Nat):Int)=o4 at a1 a2 a3 a4 b1
 have hP:dx { kind:=6,ses:=s,num:=n,err:=n4 } []=({ kind:=6,ses:=s,num:=n,err:=n4 },0):=by grind[dx]
 rw[hP]
 dsimp only
 clear hP
 have b2:=kt { kind:=6,ses:=s,num:=n,err:=n4 } aA nc aA aA
 try clear s3 s4 s5 s6 s7 s8 s9 s10
 by_cases hv:v≠0
 ·rw[aae hv]
  refine fi func38 ntmps38 ?_
  (refine au a0 ?_;refine ah λhc=>?_)
  refine aV (cL 7 _ 43 ce (bR {}) rfl rfl f7) ?_
  (refine dQ a1 a2 a3 ?_;repeat' first|apply aw|refine ah λhc=>?_)
  refine aV (show Le _ _ (aF [(2,.ptr 2 0 0),(5,iC .i64 0),(6,.ptr 25 0 0),(7,.ptr 7 0 0),(80,.ptr 25 0 0)] [(2,.box 43 (ce.map Cnt.per)),(7,.box 43 ((bR { kind:=6,ses:=s,num:=n }).map Cnt.per)),(25,.box 145 [.per (aK L),iC .i64 o3,iC .i64 e3])])from(by exact ab)) ?_
  (refine dK a4 ?_;repeat' first|apply aw|refine ah λhc=>?_)
  refine aV (show Le _ _ (aF [(2,.ptr 2 0 0),(5,iC .i64 0),(6,.ptr 25 0 0),(7,.ptr 7 0 0),(105,.ptr 25 0 0),(8,sC ⟨#[]⟩),(9,sC ⟨#[]⟩),(10,sC ⟨#[]⟩)] [(2,.box 43 (ce.map Cnt.per)),(7,.box 43 ((bR { kind:=6,ses:=s,num:=n,err:=n4 }).map Cnt.per)),(25,.box 145 [.per (aK L),iC .i64 o4,iC .i64 e4])])from(by exact ab)) ?_
  (refine dK b1 ?_;repeat' first|apply aw|refine ah λhc=>?_)
  refine dV ?_ ?_
  ·exact m5
  ·exact aq rfl rfl
 rw[aab hv,aab (show ¬(0:Int)≠0 by decide)]
 have hv:v=0:=aaG.1 hv
 subst hv
 cases hr:lK { kind:=6,ses:=s,num:=n,err:=n4 }with
 | false=>
  rw[hr]at b2
  rw[aab aA]
  refine fi func38 ntmps38 ?_
  (refine au a0 ?_;refine ah λhc=>?_)
  refine aV (cL 7 _ 43 ce (bR {}) rfl rfl f7) ?_
  (refine dQ a1 a2 a3 ?_;repeat' first|apply aw|refine ah λhc=>?_)
  refine aV (show Le _ _ (aF [(2,.ptr 2 0 0),(5,iC .i64 0),(6,.ptr 25 0 0),(7,.ptr 7 0 0),(80,.ptr 25 0 0)] [(2,.box 43 (ce.map Cnt.per)),(7,.box 43 ((bR { kind:=6,ses:=s,num:=n }).map Cnt.per)),(25,.box 145 [.per (aK L),iC .i64 o3,iC .i64 e3])])from(by exact ab)) ?_
  (refine dK a4 ?_;repeat' first|apply aw|refine ah λhc=>?_)
  refine aV (show Le _ _ (aF [(2,.ptr 2 0 0),(5,iC .i64 0),(6,.ptr 25 0 0),(7,.ptr 7 0 0),(105,.ptr 25 0 0),(8,sC ⟨#[]⟩),(9,sC ⟨#[]⟩),(10,sC ⟨#[]⟩)] [(2,.box 43 (ce.map Cnt.per)),(7,.box 43 ((bR { kind:=6,ses:=s,num:=n,err:=n4 }).map Cnt.per)),(25,.box 145 [.per (aK L),iC .i64 o4,iC .i64 e4])])from(by exact ab)) ?_
  (refine de b2 b1 ?_;repeat' first|apply aw|refine ah λhc=>?_)
  refine dV ?_ ?_
  ·exact m5
  ·exact aq rfl rfl
 | true=>
  rw[hr]at b2
  rw[aae rfl]
  refine fi func38 ntmps38 ?_
  (refine au a0 ?_;refine ah λhc=>?_)
  refine aV (cL 7 _ 43 ce (bR {}) rfl rfl f7) ?_
  (refine dQ a1 a2 a3 ?_;repeat' first|apply aw|refine ah λhc=>?_)
  refine aV (show Le _ _ (aF [(2,.ptr 2 0 0),(5,iC .i64 0),(6,.ptr 25 0 0),(7,.ptr 7 0 0),(80,.ptr 25 0 0)] [(2,.box 43 (ce.map Cnt.per)),(7,.box 43 ((bR { kind:=6,ses:=s,num:=n }).map Cnt.per)),(25,.box 145 [.per (aK L),iC .i64 o3,iC .i64 e3])])from(by exact ab)) ?_
  (refine dK a4 ?_;repeat' first|apply aw|refine ah λhc=>?_)
  refine aV (show Le _ _ (aF [(2,.ptr 2 0 0),(5,iC .i64 0),(6,.ptr 25 0 0),(7,.ptr 7 0 0),(105,.ptr 25 0 0),(8,sC ⟨#[]⟩),(9,sC ⟨#[]⟩),(10,sC ⟨#[]⟩)] [(2,.box 43 (ce.map Cnt.per)),(7,.box 43 ((bR { kind:=6,ses:=s,num:=n,err:=n4 }).map Cnt.per)),(25,.box 145 [.per (aK L),iC .i64 o4,iC .i64 e4])])from(by exact ab)) ?_
  (refine de b2 b1 ?_;repeat' first|apply aw|refine ah λhc=>?_)
  refine dV ?_ ?_
  ·exact m5
  ·exact aq rfl rfl
theorem M6 (hL:L.length<=1000000)(a0:Fn prog 84 [.per (aK b)] (.tup2 (.per (aK L)) (eA 0)))(hk:∀k,(af 1 6 L 0).1=k->k≠1/\k≠2/\k≠3/\k≠4/\k≠5/\k≠6) :
 Fn prog 38 [.per (aK b)] (.tup2 (.per (MA (vW L).1)) (eA (vW L).2)):=by
 have hL0:L.length<=1000000000000:=ae
 have hs0:L <:+ L:=aa5 L
 generalize hR:cY L=R
 rw[rE hR]
 dsimp only [cY,bM]at hR
 have a1:=bu L L 0 hs0 hL0 1 6
 have s1:=(aC 1 6 L 0).trans hs0
 generalize af 1 6 L 0=q1 at *
 obtain⟨k,l1,e1⟩:=q1
 dsimp only at a1 s1 hR
 have e0:((L.length-L.length:Nat):Int)=0:=ae
 unfold d0 at a1
 rw[e0]at a1
 clear e0
 have a2:=bu L l1 e1 s1 hL0 1 281474976710656
 have s2:=(aC 1 281474976710656 l1 e1).trans s1
 generalize af 1 281474976710656 l1 e1=q2 at *
 obtain⟨s,l2,e2⟩:=q2
 dsimp only at a2 s2 hR
 have a3:=eU L l2 e2 s2 hL0
 have s3:=(cQ l2 e2).trans s2
 generalize bI l2 e2=q3 at *
 obtain⟨n,l3,e3⟩:=q3
 dsimp only at a3 s3 hR
 dsimp only [d7]at hR
 clear s1 s2 hs0
 obtain⟨c1,c2,c3,c4,c5,c6⟩:=hk k rfl
 clear hk
 rw[aab c1,aab c2,aab c3,aab c5,aab c6]at hR
 rw[show gv k=0 by grind[gv]]at hR
 dsimp only [gu]at hR
 subst hR
 dsimp only
 have b1:=lj L l3 e3 s3
 generalize dg l3 e3=v at *
 dsimp only [d0]at a1 a2 a3 b1
 generalize ((L.length-l1.length:Nat):Int)=o1 at a1 a2 a3 b1
 generalize ((L.length-l2.length:Nat):Int)=o2 at a1 a2 a3 b1
 generalize ((L.length-l3.length:Nat):Int)=o3 at a1 a2 a3 b1
 have hP:dx { kind:=k,ses:=s,num:=n } []=({ kind:=k,ses:=s,num:=n },0):=by grind[dx]
 rw[hP]
 dsimp only
 clear hP
 have b2:=kt { kind:=k,ses:=s,num:=n } aA nc aA aA
 try clear s3 s4 s5 s6 s7 s8 s9 s10
 by_cases hv:v≠0
 ·rw[aae hv]
  refine fi func38 ntmps38 ?_
  (refine au a0 ?_;refine ah λhc=>?_)
  refine aV (cL 7 _ 43 ce (bR {}) rfl rfl f7) ?_
  (refine dQ a1 a2 a3 ?_;repeat' first|apply aw|refine ah λhc=>?_)
  refine aV (show Le _ _ (aF [(2,.ptr 2 0 0),(5,iC .i64 0),(6,.ptr 25 0 0),(7,.ptr 7 0 0),(105,.ptr 25 0 0),(8,sC ⟨#[]⟩),(9,sC ⟨#[]⟩),(10,sC ⟨#[]⟩)] [(2,.box 43 (ce.map Cnt.per)),(7,.box 43 ((bR { kind:=k,ses:=s,num:=n }).map Cnt.per)),(25,.box 145 [.per (aK L),iC .i64 o3,iC .i64 e3])])from(by exact ab)) ?_
  (refine dK b1 ?_;repeat' first|apply aw|refine ah λhc=>?_)
  refine dV ?_ ?_
  ·exact m5
  ·exact aq rfl rfl
 rw[aab hv,aab (show ¬(0:Int)≠0 by decide)]
 have hv:v=0:=aaG.1 hv
 subst hv
 cases hr:lK { kind:=k,ses:=s,num:=n }with
 | false=>
  rw[hr]at b2
  rw[aab aA]
  refine fi func38 ntmps38 ?_
  (refine au a0 ?_;refine ah λhc=>?_)
  refine aV (cL 7 _ 43 ce (bR {}) rfl rfl f7) ?_
  (refine dQ a1 a2 a3 ?_;repeat' first|apply aw|refine ah λhc=>?_)
  refine aV (show Le _ _ (aF [(2,.ptr 2 0 0),(5,iC .i64 0),(6,.ptr 25 0 0),(7,.ptr 7 0 0),(105,.ptr 25 0 0),(8,sC ⟨#[]⟩),(9,sC ⟨#[]⟩),(10,sC ⟨#[]⟩)] [(2,.box 43 (ce.map Cnt.per)),(7,.box 43 ((bR { kind:=k,ses:=s,num:=n }).map Cnt.per)),(25,.box 145 [.per (aK L),iC .i64 o3,iC .i64 e3])])from(by exact ab)) ?_
  (refine de b2 b1 ?_;repeat' first|apply aw|refine ah λhc=>?_)
  refine dV ?_ ?_
  ·exact m5
  ·exact aq rfl rfl
 | true=>
  rw[hr]at b2
  rw[aae rfl]
  refine fi func38 ntmps38 ?_
  (refine au a0 ?_;refine ah λhc=>?_)
  refine aV (cL 7 _ 43 ce (bR {}) rfl rfl f7) ?_
  (refine dQ a1 a2 a3 ?_;repeat' first|apply aw|refine ah λhc=>?_)
  refine aV (show Le _ _ (aF [(2,.ptr 2 0 0),(5,iC .i64 0),(6,.ptr 25 0 0),(7,.ptr 7 0 0),(105,.ptr 25 0 0),(8,sC ⟨#[]⟩),(9,sC ⟨#[]⟩),(10,sC ⟨#[]⟩)] [(2,.box 43 (ce.map Cnt.per)),(7,.box 43 ((bR { kind:=k,ses:=s,num:=n }).map Cnt.per)),(25,.box 145 [.per (aK L),iC .i64 o3,iC .i64 e3])])from(by exact ab)) ?_
  (refine de b2 b1 ?_;repeat' first|apply aw|refine ah λhc=>?_)
  refine dV ?_ ?_
  ·exact m5
  ·exact aq rfl rfl
