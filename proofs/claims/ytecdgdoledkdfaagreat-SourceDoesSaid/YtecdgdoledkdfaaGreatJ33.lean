/- Lemmas, walks. -/
import Derived.Test.YtecdgdoledkdfaaGreatJ32
set_option maxRecDepth 10000
set_option maxHeartbeats 8000000
namespace Go.Proofs.YtecdgdoledkdfaaGreat
open Go.RowKit Go.Proofs.Tryz
theorem M9 {L:List UInt8}(hL:L.length<=1000000){b:List UInt8}(a0:Fn prog 84 [.per (aK b)] (.tup2 (.per (aK L)) (eA 0)))(hk:(af 1 6 L 0).1=4) :
 Fn prog 38 [.per (aK b)] (.tup2 (.per (MA (vW L).1)) (eA (vW L).2)):=by
 have hL0:L.length<=1000000000000:=ae
 have hs0:L <:+ L:=aa5 L
 generalize hR:cY L=R
 rw[rE hR]
 dsimp only [cY,bM]at hR
 have a1:=bu L L 0 hs0 hL0 1 6
 have s1:=(aC 1 6 L 0).trans hs0
 generalize af 1 6 L 0=q1 at *
 obtain⟨k,l1,e1⟩:=q1
 dsimp only at a1 s1 hR
 have e0:((L.length-L.length:Nat):Int)=0:=ae
 unfold d0 at a1
 rw[e0]at a1
 clear e0
 have a2:=bu L l1 e1 s1 hL0 1 281474976710656
 have s2:=(aC 1 281474976710656 l1 e1).trans s1
 generalize af 1 281474976710656 l1 e1=q2 at *
 obtain⟨s,l2,e2⟩:=q2
 dsimp only at a2 s2 hR
 have a3:=eU L l2 e2 s2 hL0
 have s3:=(cQ l2 e2).trans s2
 generalize bI l2 e2=q3 at *
 obtain⟨n,l3,e3⟩:=q3
 dsimp only at a3 s3 hR
 dsimp only [d7]at hR
 clear s1 s2 hs0
 have hk:k=4:=hk
 subst hk
 rw[aab (show ¬(4:Int)=1 by decide),aab (show ¬(4:Int)=2 by decide),aab (show ¬(4:Int)=3 by decide),aab (show ¬(4:Int)=5 by decide),aab (show ¬(4:Int)=6 by decide)]at hR
 dsimp only at hR
 rw[show gv 4=2 from rfl]at hR
 dsimp only [gu,Hv]at hR
 have z3:=s3.length_le
 have a4:=gK L l3 e3 s3 hL0 281474976710656
 have t4:=gm 281474976710656 l3 e3
 have u4:=(bL 281474976710656 l3 e3).length_le
 have s4:=(bL 281474976710656 l3 e3).trans s3
 generalize bm 281474976710656 l3 e3=q4 at *
 obtain⟨x,l4,e4⟩:=q4
 dsimp only at a4 t4 u4 s4 hR
 have a5:=gK L l4 e4 s4 hL0 281474976710656
 have t5:=gm 281474976710656 l4 e4
 have u5:=(bL 281474976710656 l4 e4).length_le
 have s5:=(bL 281474976710656 l4 e4).trans s4
 generalize bm 281474976710656 l4 e4=q5 at *
 obtain⟨y,l5,e5⟩:=q5
 dsimp only at a5 t5 u5 s5 hR
 have hx:(⟨x.toArray⟩:ByteArray).size<=1000000000000:=by show x.toArray.size<=_;rw[aaV];omega
 have hy:(⟨y.toArray⟩:ByteArray).size<=1000000000000:=by show y.toArray.size<=_;rw[aaV];omega
 subst hR
 dsimp only
 have b1:=lj L l5 e5 s5
 generalize dg l5 e5=v at *
 dsimp only [d0]at a1 a2 a3 a4 a5 b1
 generalize ((L.length-l1.length:Nat):Int)=o1 at a1 a2 a3 a4 a5 b1
 generalize ((L.length-l2.length:Nat):Int)=o2 at a1 a2 a3 a4 a5 b1
 generalize ((L.length-l3.length:Nat):Int)=o3 at a1 a2 a3 a4 a5 b1
 generalize ((L.length-l4.length:Nat):Int)=o4 at a1 a2 a3 a4 a5 b1
 generalize ((L.length-l5.length:Nat):Int)=o5 at a1 a2 a3 a4 a5 b1
 have b3:=(pb x ae).frz
 have hP:dx { kind:=4,ses:=s,num:=n } [x,y]=(if(dM x).2≠0 then({ kind:=4,ses:=s,num:=n },(dM x).2)else if(dM x).1.length=1/\y.length=8 then({ kind:=4,ses:=s,num:=n,rg:=(dM x).1.getD 0 ⟨⟨#[]⟩,⟨#[]⟩,false⟩,sum:=gj y },0)else({ kind:=4,ses:=s,num:=n },11)):=by unfold dx;rw[aab (show ¬(4:Int)=1 by decide),aae (show(4:Int)=4 from rfl)];rfl
 rw[hP]
 clear hP
 have hyl:(⟨y.toArray⟩:ByteArray).size=y.length:=by show y.toArray.size=_;rw[aaV]
 generalize dM x=f at *
 obtain⟨f1,f2⟩:=f
 dsimp only at b3 ⊢
 try clear s3 s4 s5 s6 s7 s8 s9 s10
 by_cases hv:v≠0
 ·rw[aae hv]
  clear b3
  refine fi func38 ntmps38 ?_
  (refine au a0 ?_;refine ah λhc=>?_)
  refine aV (cL 7 _ 43 ce (bR {}) rfl rfl f7) ?_
  (refine dQ a1 a2 a3 ?_;repeat' first|apply aw|refine ah λhc=>?_)
  refine aV (show Le _ _ (aF [(2,.ptr 2 0 0),(5,iC .i64 0),(6,.ptr 25 0 0),(7,.ptr 7 0 0),(96,.ptr 25 0 0),(8,sC ⟨#[]⟩),(9,sC ⟨#[]⟩),(10,sC ⟨#[]⟩)] [(2,.box 43 (ce.map Cnt.per)),(7,.box 43 ((bR { kind:=4,ses:=s,num:=n }).map Cnt.per)),(25,.box 145 [.per (aK L),iC .i64 o3,iC .i64 e3])])from(by exact ab)) ?_
  (refine fG a4 a5 ?_;refine ah λhc=>?_)
  refine aV (show Le _ _ (aF [(2,.ptr 2 0 0),(5,iC .i64 0),(6,.ptr 25 0 0),(7,.ptr 7 0 0),(105,.ptr 25 0 0),(8,sC ⟨x.toArray⟩),(9,sC ⟨y.toArray⟩),(10,sC ⟨#[]⟩)] [(2,.box 43 (ce.map Cnt.per)),(7,.box 43 ((bR { kind:=4,ses:=s,num:=n }).map Cnt.per)),(25,.box 145 [.per (aK L),iC .i64 o5,iC .i64 e5])])from(by exact ab)) ?_
  (refine dK b1 ?_;repeat' first|apply aw|refine ah λhc=>?_)
  refine dV ?_ ?_
  ·exact m5
  ·exact aq rfl rfl
 rw[aab hv]
 have hv:v=0:=aaG.1 hv
 subst hv
 by_cases hf:f2≠0
 ·rw[aae hf,aae hf]
  refine fi func38 ntmps38 ?_
  (refine au a0 ?_;refine ah λhc=>?_)
  refine aV (cL 7 _ 43 ce (bR {}) rfl rfl f7) ?_
  (refine dQ a1 a2 a3 ?_;repeat' first|apply aw|refine ah λhc=>?_)
  refine aV (show Le _ _ (aF [(2,.ptr 2 0 0),(5,iC .i64 0),(6,.ptr 25 0 0),(7,.ptr 7 0 0),(96,.ptr 25 0 0),(8,sC ⟨#[]⟩),(9,sC ⟨#[]⟩),(10,sC ⟨#[]⟩)] [(2,.box 43 (ce.map Cnt.per)),(7,.box 43 ((bR { kind:=4,ses:=s,num:=n }).map Cnt.per)),(25,.box 145 [.per (aK L),iC .i64 o3,iC .i64 e3])])from(by exact ab)) ?_
  (refine fG a4 a5 ?_;refine ah λhc=>?_)
  refine aV (show Le _ _ (aF [(2,.ptr 2 0 0),(5,iC .i64 0),(6,.ptr 25 0 0),(7,.ptr 7 0 0),(105,.ptr 25 0 0),(8,sC ⟨x.toArray⟩),(9,sC ⟨y.toArray⟩),(10,sC ⟨#[]⟩)] [(2,.box 43 (ce.map Cnt.per)),(7,.box 43 ((bR { kind:=4,ses:=s,num:=n }).map Cnt.per)),(25,.box 145 [.per (aK L),iC .i64 o5,iC .i64 e5])])from(by exact ab)) ?_
  (refine de b3 b1 ?_;repeat' first|apply aw|refine ah λhc=>?_|((first|apply aH rfl|apply aJ rfl);(focus (try apply ag rfl rfl rfl rfl rfl);((apply bn 10;(focus rfl);exact od ⟨rfl,rfl,rfl⟩ rfl aS aS aS rfl (by first|exact hx|exact hy))));refine de b3 b1 ?_))
  refine dV ?_ ?_
  ·exact m5
  ·exact aq rfl rfl
 rw[aab hf]
 have hf:f2=0:=aaG.1 hf
 subst hf
 by_cases hb:¬(f1.length=1/\y.length=8)
 ·rw[aab hb,aae (show(11:Int)≠0 by decide)]
  refine fi func38 ntmps38 ?_
  (refine au a0 ?_;refine ah λhc=>?_)
  refine aV (cL 7 _ 43 ce (bR {}) rfl rfl f7) ?_
  (refine dQ a1 a2 a3 ?_;repeat' first|apply aw|refine ah λhc=>?_)
  refine aV (show Le _ _ (aF [(2,.ptr 2 0 0),(5,iC .i64 0),(6,.ptr 25 0 0),(7,.ptr 7 0 0),(96,.ptr 25 0 0),(8,sC ⟨#[]⟩),(9,sC ⟨#[]⟩),(10,sC ⟨#[]⟩)] [(2,.box 43 (ce.map Cnt.per)),(7,.box 43 ((bR { kind:=4,ses:=s,num:=n }).map Cnt.per)),(25,.box 145 [.per (aK L),iC .i64 o3,iC .i64 e3])])from(by exact ab)) ?_
  (refine fG a4 a5 ?_;refine ah λhc=>?_)
  refine aV (show Le _ _ (aF [(2,.ptr 2 0 0),(5,iC .i64 0),(6,.ptr 25 0 0),(7,.ptr 7 0 0),(105,.ptr 25 0 0),(8,sC ⟨x.toArray⟩),(9,sC ⟨y.toArray⟩),(10,sC ⟨#[]⟩)] [(2,.box 43 (ce.map Cnt.per)),(7,.box 43 ((bR { kind:=4,ses:=s,num:=n }).map Cnt.per)),(25,.box 145 [.per (aK L),iC .i64 o5,iC .i64 e5])])from(by exact ab)) ?_
  (refine de b3 b1 ?_;repeat' first|apply aw|refine ah λhc=>?_|((first|apply aH rfl|apply aJ rfl);(focus (try apply ag rfl rfl rfl rfl rfl);((apply bn 10;(focus rfl);exact od ⟨rfl,rfl,rfl⟩ rfl aS aS aS rfl (by first|exact hx|exact hy))));refine de b3 b1 ?_))
  all_goals first|(exfalso;apply hb;constructor<;>first|omega|(simp only at *;omega)|(simp only at *;omega))|skip
  all_goals refine dV ?_ ?_
  all_goals first|(exact m5)|exact aq rfl rfl
 replace hb:=aaG.1 hb
 rw[aae hb,aab (show ¬(0:Int)≠0 by decide)]
 obtain⟨k1,k2⟩:=hb
 obtain⟨r,rfl⟩:∃r,f1=[r]:=by
  match f1,k1 with
  | [r],_=>exact⟨r,rfl⟩
 dsimp only [abA]
 have b5:=kt { kind:=4,ses:=s,num:=n,rg:=r,sum:=gj y } aA nc aA aA
 have rd0:[r].getD 0 ⟨⟨#[]⟩,⟨#[]⟩,false⟩=r:=rfl
 rw[rd0]
 clear rd0
 generalize hr:lK { kind:=4,ses:=s,num:=n,rg:=r,sum:=gj y }=br at *
 refine fi func38 ntmps38 ?_
 (refine au a0 ?_;refine ah λhc=>?_)
 refine aV (cL 7 _ 43 ce (bR {}) rfl rfl f7) ?_
 (refine dQ a1 a2 a3 ?_;repeat' first|apply aw|refine ah λhc=>?_)
 refine aV (show Le _ _ (aF [(2,.ptr 2 0 0),(5,iC .i64 0),(6,.ptr 25 0 0),(7,.ptr 7 0 0),(96,.ptr 25 0 0),(8,sC ⟨#[]⟩),(9,sC ⟨#[]⟩),(10,sC ⟨#[]⟩)] [(2,.box 43 (ce.map Cnt.per)),(7,.box 43 ((bR { kind:=4,ses:=s,num:=n }).map Cnt.per)),(25,.box 145 [.per (aK L),iC .i64 o3,iC .i64 e3])])from(by exact ab)) ?_
 (refine fG a4 a5 ?_;refine ah λhc=>?_)
 refine aV (show Le _ _ (aF [(2,.ptr 2 0 0),(5,iC .i64 0),(6,.ptr 25 0 0),(7,.ptr 7 0 0),(105,.ptr 25 0 0),(8,sC ⟨x.toArray⟩),(9,sC ⟨y.toArray⟩),(10,sC ⟨#[]⟩)] [(2,.box 43 (ce.map Cnt.per)),(7,.box 43 ((bR { kind:=4,ses:=s,num:=n }).map Cnt.per)),(25,.box 145 [.per (aK L),iC .i64 o5,iC .i64 e5])])from(by exact ab)) ?_
 (refine de b3 b1 ?_;repeat' first|apply aw|refine ah λhc=>?_|((first|apply aH rfl|apply aJ rfl);(focus (try apply ag rfl rfl rfl rfl rfl);((apply bn 10;(focus rfl);exact od ⟨rfl,rfl,rfl⟩ rfl aS aS aS rfl (by first|exact hx|exact hy))));refine de b3 b1 ?_))
 refine ci (X:=Nat) (λj=>j<=8) (λj=>aF [(2,.ptr 2 0 0),(5,iC .i64 0),(7,.ptr 7 0 0),(9,sC ⟨y.toArray⟩),(13,iC .i64 ((j:Int)-1))] [(2,.box 43 (ce.map Cnt.per)),(7,.box 43 ((bR { kind:=4,ses:=s,num:=n,rg:=r,sum:=gj (y.drop j) }).map Cnt.per))]) (λj=>j) 8 ae ?_ ?_
 ·rw[show y.drop 8=[]from aay ae]
  exact ab
 ·intro j hj
  cases j with
  | succ i=>
   have hil:i<y.length:=ae
   have hS:=M2 hil
   have hlo:=vU (y.drop (i+1))
   rw[abe]at hlo
   have hp:256 ^ (y.length-(i+1))<=256 ^ 7:=Nat.pow_le_pow_right bP ae
   have h7:(256:Nat) ^ 7=72057594037927936:=bP
   have hcb:=y[i].toNat_lt
   have hmul:IntKind.u64.wrap (256*(gj (y.drop (i+1)):Int))=((256*gj (y.drop (i+1)):Nat):Int):=by rw[IntKind.wrap_u64];omega
   have hw:=j3 y[i]
   have hadd:IntKind.u64.wrap (((256*gj (y.drop (i+1)):Nat):Int)+(y[i].toNat:Int))=(gj (y.drop i):Int):=by rw[IntKind.wrap_u64];omega
   have HJ:(⟨y.toArray⟩:ByteArray).data.toList[i]?=some y[i]:=aaa hil
   have hz:((i+1:Nat):Int)-1=((i:Nat):Int):=ae
   rw[hz]
   clear hz hS hlo hp h7 b5 b3 hr
   generalize gj (y.drop (i+1))=s1 at *
   generalize hs2:gj (y.drop i)=s2 at *
   (repeat' (first|((first|apply aH rfl|apply cB rfl|apply aJ rfl|apply cC rfl);focus (first|((apply bn 8;(focus rfl);exact iI ⟨rfl,rfl,rfl⟩ rfl rfl rfl rfl hmul))|(apply gR;(focus rfl);apply ag rfl rfl rfl rfl rfl;((apply bn 8;(focus rfl);exact iI ⟨rfl,rfl,rfl⟩ rfl rfl rfl rfl hmul)))|((apply bn 8;(focus rfl);exact iI ⟨rfl,rfl,rfl⟩ rfl rfl rfl rfl hadd))|(apply gR;(focus rfl);apply ag rfl rfl rfl rfl rfl;((apply bn 8;(focus rfl);exact iI ⟨rfl,rfl,rfl⟩ rfl rfl rfl rfl hadd)))|((apply bn 10;(focus rfl);exact dR ⟨rfl,rfl,rfl⟩ rfl aS aS rfl hw))|(apply gR;(focus rfl);apply ag rfl rfl rfl rfl rfl;((apply bn 10;(focus rfl);exact dR ⟨rfl,rfl,rfl⟩ rfl aS aS rfl hw)))|((apply bn 13;(focus rfl);exact ji ⟨rfl,rfl,rfl⟩ rfl aS rfl rfl rfl HJ))|(apply gR;(focus rfl);apply ag rfl rfl rfl rfl rfl;((apply bn 13;(focus rfl);exact ji ⟨rfl,rfl,rfl⟩ rfl aS rfl rfl rfl HJ)))))|refine oq ?_|refine bW cI ?_|(refine dW rfl rfl ⟨λhc=>?_,λhc=>?_⟩<;>(repeat rw[aad]at hc)<;>(try exact cj hc))|((first|refine dX rfl rfl rfl ⟨λhc=>?_,λhc=>?_⟩|refine dY rfl rfl rfl ⟨λhc=>?_,λhc=>?_⟩)<;>(fail_if_success (have q:(true=true):=hc))<;>(fail_if_success (have q:(false=false):=hc))<;>(repeat rw[aad]at hc)<;>(try exact cj hc))|refine aQ rfl rfl (λhc=>?_) ?_))
   refine⟨i,ae,ae,?_⟩
   rw[hs2]
   exact ab
  | zero=>
   rw[abu]
   clear b3
   cases br with
   | false=>
    rw[aab aA]
    (refine au b5 ?_;repeat' first|apply aw|refine ah λhc=>?_)
    refine dV ?_ ?_
    ·exact m5
    ·exact aq rfl rfl
   | true=>
    rw[aae rfl]
    (refine au b5 ?_;repeat' first|apply aw|refine ah λhc=>?_)
    refine dV ?_ ?_
    ·exact m5
    ·exact aq rfl rfl
theorem V5 (b:List UInt8)(hb:b.length<=1000000):Fn prog 38 [.per (aK b)] (.tup2 (.per (MA (lW b).1)) (eA (lW b).2)):=by
 have a0:=R9 b ae
 have hL:=uO b
 unfold lW
 generalize iA b=q at *
 obtain⟨L,e⟩:=q
 simp only at a0 hL ⊢
 by_cases he:e≠0
 ·rw[aae he]
  refine fi func38 ntmps38 ?_
  (refine au a0 ?_;refine ah λhc=>?_)
  refine dV ?_ ?_
  ·exact m5
  ·exact aq rfl rfl
 rw[aab he]
 have he:e=0:=aaG.1 he
 grind[M7,M3,M4,M9,M8,M5,M6]
