/- Texts joined: RefIt Cmp Rg DsP Nd RgL IcL. -/
import Derived.Test.YtaclhhkblbacgaaGreatJ08
set_option maxRecDepth 10000
set_option maxHeartbeats 8000000
namespace Go.Proofs.YtaclhhkblbacgaaGreat
open Go.RowKit Go.Proofs.Tryz
theorem zd (s u:ByteArray):(s==u)=true↔s=u:=by
 rw[beq_toListBytes,beq_iff_eq,jr,jr,Array.toList_inj]
 exact⟨fun h=>by cases s;cases u;simp_all,fun h=>by rw[h]⟩
def RB (x:It):Bool:=decide (x.key.size>60)||decide (x.body.size>200)
def nF (l:List It)(most:Int):Bool:=decide ((l.length:Int)>most)||l.any RB
theorem Lz (l:List It)(k:Nat)(h:k<l.length):(l.take (k+1)).any RB=((l.take k).any RB||RB l[k]):=by rw[bc l k h,List.any_append];simp
theorem xz (l:List It)(most:Int)(hl:most≤1000000000000):Fn prog 23 [fj l,iC .i64 most] (dq (nF l most)):=by
 refine fi func23 ntmps23 ?_
 (refine wH ?_;repeat' first|apply ah|refine ai fun hc=>?_)
 ·refine dw ?_
  exact aL rfl (by unfold nF;rw[Wb hc];rfl)
 refine aj (fun k=>k≤l.length∧(l.take k).any RB=false) (fun k=>ay [(0,fj l),(1,iC .i64 most),(4,bC false),(5,iC .i64 (k:Nat))] []) (fun k=>l.length-k) 0 ⟨Wa _,rfl⟩ ?_
 rintro k ⟨hk,hpre⟩
 by_cases hlt:k<l.length
 ·have hsn:=Lz l k hlt
  (refine wH ?_;repeat' first|apply ah|refine ai fun hc=>?_)
  ·refine dw ?_
   exact aL rfl (by symm;unfold nF;rw[WN,Xc];refine .inr ⟨l[k],Wk hlt,?_⟩;grind[RB])
  ·refine⟨k+1,⟨ab,?_⟩,ab,?_⟩
   ·rw[hsn,hpre];grind[RB]
   ·exact ae
 ·(refine wH ?_;repeat' first|apply ah|refine ai fun hc=>?_)
  refine dw ?_
  have e:l.take k=l:=Wd ab
  rw[e]at hpre
  exact aL rfl (by symm;unfold nF;rw[hpre,Bool.or_false,Wt];assumption)
theorem BN (x:It)(hr:eC x=true):Fn prog 170 [uz x] (gz (iU x)):=by
 obtain⟨hnums,hbody,_,_⟩:=fF hr
 have hlen:=lL _ hnums
 have htl:=cv x.body ab
 obtain⟨key,rep,cnt,rank,prio,dead,body⟩:=x
 cases dead
 all_goals
  simp only[fE,WH,Xq,XC]at hnums hlen hbody htl
  simp at hlen
  refine fi func170 ntmps170 ?_
  (refine kf (iR body ab) ?_;repeat' first|apply ah|refine ai fun hc=>?_|((first|apply aB rfl|apply aC rfl|apply aD rfl|apply aF rfl);(focus ((try (apply bI;(focus rfl);apply ag rfl rfl rfl rfl rfl));first|exact nf (oA _ au hnums)));refine kf (iR body ab) ?_))
  refine dw ?_
  exact fT rfl rfl (mD (by rw[←List.map_append];simp[iU,fE]))
theorem LA (x:It)(hr:eC x=true):Fn prog 274 [uz x] (gz (xy x)):=by
 have hk:=(fF hr).2.2.2
 have htl:=cv x.key ab
 have hrl:=zc x
 have hib:xy x=bu x.key++iU x:=by rw[xy,V6 hr]
 rw[hib]at hrl ⊢
 rw[V5]at hrl
 refine fi func274 ntmps274 ?_
 (refine sA (iR x.key ab) (BN x hr) ?_)
 refine dw ?_
 exact fT rfl rfl (mD (by rw[←List.map_append]))
def dr:List UInt8→List UInt8→Int
 | [],[]=>0
 | [],_::_=>-1
 | _::_,[]=>1
 | x::a,y::b=>if x.toNat<y.toNat then -1 else if y.toNat<x.toNat then 1 else dr a b
def cP (s t:ByteArray):Int:=dr s.data.toList t.data.toList
theorem rF (a b:List UInt8)(k:Nat)(h1:k<a.length)(h2:k<b.length):dr (a.drop k) (b.drop k)=if a[k].toNat<b[k].toNat then -1 else if b[k].toNat<a[k].toNat then 1 else dr (a.drop (k+1)) (b.drop (k+1)):=by
 rw[List.drop_eq_getElem_cons h1,List.drop_eq_getElem_cons h2,dr]
theorem uB (a b:List UInt8)(k:Nat)(h:a.length≤k∨b.length≤k)(h1:k≤a.length)(h2:k≤b.length):dr (a.drop k) (b.drop k)=if a.length<b.length then -1 else if a.length>b.length then 1 else 0:=by
 by_cases e1:a.length≤k
 ·rw[List.drop_eq_nil_of_le e1]
  by_cases e2:b.length≤k
  ·rw[List.drop_eq_nil_of_le e2,dr,V3 ab,V3 ab]
  ·rw[List.drop_eq_getElem_cons (by omega:k<b.length),dr,V6 ab]
 ·have e2:b.length≤k:=ab
  rw[List.drop_eq_nil_of_le e2,List.drop_eq_getElem_cons (by omega:k<a.length),dr,V3 ab,V6 ab]
def Ec (r c r' c':Int):Int:=if r=r'∧c=c' then 0 else if r<r'∨r=r'∧c<c' then -1 else 1
def wA (x y:It):Int:=if x.rank>y.rank then 1 else if x.rank<y.rank then -1 else Ec x.rep x.cnt y.rep y.cnt
theorem ii (s t:ByteArray)(hs:s.size≤1000000000000):Fn prog 146 [sC s,sC t] (el (cP s t)):=by
 generalize hR:cP s t=R
 refine fi func146 ntmps146 ?_
 (refine w0 ?_)
 refine aj (fun k=>k≤s.size∧k≤t.size∧dr (s.data.toList.drop k) (t.data.toList.drop k)=R) (fun k=>ay [(0,sC s),(1,sC t),(10,iC .i64 (min (s.size:Int) (t.size:Int))),(11,iC .i64 (k:Nat))] []) (fun k=>s.size-k) 0 ⟨Wa _,Wa _,hR⟩ ?_
 rintro k ⟨h1,h2,h3⟩
 have hst:=rF s.data.toList t.data.toList k
 have hen:=uB s.data.toList t.data.toList k
 simp only[mq]at hst hen
 rw[h3]at hst hen
 by_cases hk:k<s.size∧k<t.size
 ·have hst:=hst hk.1 hk.2
  have hm:(k:Int)<min (s.size:Int) (t.size:Int):=ab
  (refine w0 ?_;repeat' first|apply ah|refine ai fun hc=>?_)
  ·rw[V6 ab]at hst
   refine dw ?_
   exact al rfl hst.symm
  ·rw[V3 ab,V6 ab]at hst
   refine dw ?_
   exact al rfl hst.symm
  ·rw[V3 ab,V3 ab]at hst
   refine⟨k+1,⟨ab,ab,hst.symm⟩,ab,?_⟩
   exact ae
 ·have hen:=hen ab h1 h2
  have hm:¬(k:Int)<min (s.size:Int) (t.size:Int):=ab
  (refine w0 ?_;repeat' first|apply ah|refine ai fun hc=>?_)
  all_goals refine dw ?_
  ·rw[V6 ab]at hen
   exact al rfl hen.symm
  ·rw[V3 ab,V6 ab]at hen
   exact al rfl hen.symm
  ·rw[V3 ab,V3 ab]at hen
   exact al rfl hen.symm
theorem jR (s t:ByteArray)(hs:s.size≤1000000000000):Fn prog 71 [sC s,sC t] (dq (decide (cP s t<0))):=by
 generalize hR:cP s t=R
 refine fi func71 ntmps71 ?_
 (refine w0 ?_)
 refine aj (fun k=>k≤s.size∧k≤t.size∧dr (s.data.toList.drop k) (t.data.toList.drop k)=R) (fun k=>ay [(0,sC s),(1,sC t),(5,iC .i64 (k:Nat))] []) (fun k=>s.size-k) 0 ⟨Wa _,Wa _,hR⟩ ?_
 rintro k ⟨h1,h2,h3⟩
 have hst:=rF s.data.toList t.data.toList k
 have hen:=uB s.data.toList t.data.toList k
 simp only[mq]at hst hen
 rw[h3]at hst hen
 by_cases hk:k<s.size∧k<t.size
 ·have hst:=hst hk.1 hk.2
  (refine w0 ?_;repeat' first|apply ah|refine ai fun hc=>?_)
  ·refine dw ?_
   refine aL rfl ?_
   rw[hst]
   clear hst hen h3
   generalize (s.data.toList[k]'(by simpa using hk.1)).toNat=x at *
   generalize (t.data.toList[k]'(by simpa using hk.2)).toNat=y at *
   split
   ·rw[Wb ab,Wb ab]
   ·rw[V6 ab,Wj ab,Wj ab]
  ·rw[V3 ab,V3 ab]at hst
   refine⟨k+1,⟨ab,ab,hst.symm⟩,ab,?_⟩
   exact ae
 ·have hen:=hen ab h1 h2
  (refine w0 ?_;repeat' first|apply ah|refine ai fun hc=>?_)
  all_goals refine dw ?_
  all_goals refine aL rfl ?_
  ·rw[hen,V3 ab]
   split<;>simp
  ·rw[hen]
   split
   ·simp;omega
   ·split<;>(simp;omega)
theorem ze (r c r' c':Int):HU prog 10000 80 [.int .i64 r,.int .i64 c] [.int .i64 r',.int .i64 c']=some (decide (r=r')&&(decide (c=c')&&true)):=by kernel_rfl
theorem Ed:prog.eqGuardType prog.depth 80=false:=by kernel_rfl
theorem PQ (r c r' c':Int):Fn prog 232 [sD r c,sD r' c'] (el (Ec r c r' c')):=by
 have hE:=ze r c r' c'
 refine fi func232 ntmps232 ?_
 (refine w0 ?_;repeat' first|apply ah|refine ai fun hc=>?_|((first|apply aB rfl|apply aC rfl|apply aD rfl|apply aF rfl);(focus ((try (apply bI;(focus rfl);apply ag rfl rfl rfl rfl rfl));first|(exact gX (us:=[.int .i64 r,.int .i64 c]) (vs:=[.int .i64 r',.int .i64 c']) ⟨rfl,rfl,rfl⟩ rfl rfl rfl (by first|exact .inl ⟨rfl,rfl⟩|exact .inr ⟨rfl,rfl⟩) Ed rfl hE)));refine w0 ?_))
 all_goals refine dw ?_
 all_goals refine al rfl ?_
 all_goals unfold Ec
 all_goals grind
theorem LB (x y:It):Fn prog 166 [uz x,uz y] (el (wA x y)):=by
 have h1:=PQ x.rep x.cnt y.rep y.cnt
 refine fi func166 ntmps166 ?_
 (refine aq h1 ?_;repeat' first|apply ah|refine ai fun hc=>?_)
 all_goals refine dw ?_
 all_goals refine al rfl ?_
 ·unfold wA;rw[V6 ab]
 ·unfold wA;rw[V3 ab,V6 ab]
 ·unfold wA;rw[V3 ab,V3 ab]
structure Rg where
 lo:ByteArray
 hi:ByteArray
 op:Bool
deriving DecidableEq
def encRg (r:Rg):List Value:=[.string r.lo,.string r.hi,.bool r.op]
theorem BO:J7 3 encRg:=⟨bz,fun _=>rfl,fun x u hu=>by
 simp only[encRg,Wp,Xh,or_false]at hu
 rcases hu with rfl|rfl|rfl<;>rfl⟩
abbrev rgP (r:Rg):List PV:=[ak (.string r.lo),ak (.string r.hi),ak (.bool r.op)]
abbrev LC (r:Rg):Cnt:=.per (cB (rgP r))
abbrev fW (l:List Rg):PV:=cA 3 (l.map rgP)
abbrev ec (l:List Rg):Cnt:=.bor 3 (l.map rgP)
def TA (x y:Rg):Bool:=(x.lo==y.lo)&&((x.hi==y.hi)&&((x.op==y.op)&&true))
theorem qq (x y:Rg):TA x y=true↔x=y:=by
 obtain⟨a,b,c⟩:=x
 obtain⟨a',b',c'⟩:=y
 simp only[TA,Wi,zd,beq_iff_eq,and_true,Rg.mk.injEq]
theorem LD (x y:Rg):HU prog 10000 29 (encRg x) (encRg y)=some (TA x y):=by kernel_rfl
theorem Sv:prog.eqGuardType prog.depth 29=false:=by kernel_rfl
theorem g9 (s u:ByteArray):s.toList=u.toList↔s=u:=by
 rw[←zd,beq_toListBytes,beq_iff_eq]
def e0:ByteArray:=⟨#[]⟩
def fX (r:Rg):Bool:=decide (r.lo.size≤17∧r.hi.size≤17∧(if r.op=true then r.hi=e0 else cP r.lo r.hi<0))
theorem b0 (r:Rg):fX r=true↔r.lo.size≤17∧r.hi.size≤17∧(if r.op=true then r.hi=e0 else cP r.lo r.hi<0):=by
 unfold fX;exact XD
def wC (l:List Rg)(i:Nat):Prop:=∀h:i<l.length,fX l[i]=true∧∀h0:0<i,l[i-1].op=false∧cP l[i-1].hi l[i].lo<0
def cb (l:List Rg):Prop:=∀i,wC l i
theorem BQ (s:ByteArray):Fn prog 215 [sC s] (dq (decide (s.size≤17))):=by
 refine fi func215 ntmps215 ?_
 (refine w0 ?_)
 refine dw ?_
 exact aL rfl bn
theorem ir (r:Rg):Fn prog 145 [LC r] (dq (fX r)):=by
 obtain⟨lo,hi,op⟩:=r
 have h1:=BQ lo
 have h2:=BQ hi
 have hR:=b0 ⟨lo,hi,op⟩
 generalize fX ⟨lo,hi,op⟩=b at *
 simp only at hR
 show Fn prog _ [.per (cB [ak (.string lo),ak (.string hi),ak (.bool op)])] (dq b)
 by_cases hl:lo.size≤17
 ·by_cases hh:hi.size≤17
  ·rw[Wb hl]at h1
   rw[Wb hh]at h2
   cases op with
   | true=>
    have hE:=LD ⟨lo,hi,true⟩ ⟨lo,e0,true⟩
    have hI:=qq ⟨lo,hi,true⟩ ⟨lo,e0,true⟩
    generalize TA ⟨lo,hi,true⟩ ⟨lo,e0,true⟩=q at *
    refine fi func145 ntmps145 ?_
    (refine bg h1 h2 ?_;repeat' first|apply ah|refine ai fun hc=>?_|((first|apply aB rfl|apply aC rfl|apply aD rfl|apply aF rfl);(focus ((try (apply bI;(focus rfl);apply ag rfl rfl rfl rfl rfl));first|(exact gX (us:=encRg ⟨lo,hi,true⟩) (vs:=encRg ⟨lo,e0,true⟩) ⟨rfl,rfl,rfl⟩ rfl rfl rfl (by first|exact .inl ⟨rfl,rfl⟩|exact .inr ⟨rfl,rfl⟩) Sv rfl hE)));refine bg h1 h2 ?_))
    refine dw ?_
    refine aL rfl ?_
    rw[show(q != false)=q by cases q<;>rfl,Wo,hI,hR]
    simp[hl,hh]
   | false=>
    have h3:=ii lo hi ab
    refine fi func145 ntmps145 ?_
    (refine fO h1 h2 h3 ?_;repeat' first|apply ah|refine ai fun hc=>?_)
    refine dw ?_
    refine aL rfl ?_
    rw[Wo,hR]
    simp[hl,hh]
  ·rw[Wb hl]at h1
   rw[Wj hh]at h2
   have hr:b=false:=by rw[←Wy,hR];exact fun h=>hh h.2.1
   rw[hr]
   clear hR
   refine fi func145 ntmps145 ?_
   (refine bg h1 h2 ?_;repeat' first|apply ah|refine ai fun hc=>?_)
   exact dp
 ·rw[Wj hl]at h1
  have hr:b=false:=by rw[←Wy,hR];exact fun h=>hl h.1
  rw[hr]
  clear hR
  refine fi func145 ntmps145 ?_
  (refine aq h1 ?_;repeat' first|apply ah|refine ai fun hc=>?_)
  exact dp
theorem jS (r:Rg):Fn prog 36 [LC r] (dq (fX r)):=by
 obtain⟨lo,hi,op⟩:=r
 have hR:=b0 ⟨lo,hi,op⟩
 generalize fX ⟨lo,hi,op⟩=b at *
 simp only at hR
 show Fn prog _ [.per (cB [ak (.string lo),ak (.string hi),ak (.bool op)])] (dq b)
 by_cases hl:lo.size≤17
 ·by_cases hh:hi.size≤17
  ·cases op with
   | true=>
    refine fi func36 ntmps36 ?_
    (refine w0 ?_;repeat' first|apply ah|refine ai fun hc=>?_)
    refine dw ?_
    refine aL rfl ?_
    rw[Wo,hR,beq_iff_eq,g9]
    simp[hl,hh,e0]
   | false=>
    have h3:=jR lo hi ab
    refine fi func36 ntmps36 ?_
    (refine aq h3 ?_;repeat' first|apply ah|refine ai fun hc=>?_)
    refine dw ?_
    refine aL rfl ?_
    rw[Wo,hR]
    simp[hl,hh]
  ·have hr:b=false:=by rw[←Wy,hR];exact fun h=>hh h.2.1
   rw[hr]
   clear hR
   refine fi func36 ntmps36 ?_
   (refine w0 ?_;repeat' first|apply ah|refine ai fun hc=>?_)
   exact dp
 ·have hr:b=false:=by rw[←Wy,hR];exact fun h=>hl h.1
  rw[hr]
  clear hR
  refine fi func36 ntmps36 ?_
  (refine w0 ?_;repeat' first|apply ah|refine ai fun hc=>?_)
  exact dp
theorem jv (l:List Rg)(hl:l.length≤1000000000)(b:Bool)(hb:b=true↔cb l):Fn prog 80 [ec l] (dq b):=by
 refine fi func80 ntmps80 ?_
 (refine w0 ?_)
 refine aj (X:=Nat) (fun z=>z≤l.length∧∀i,i<z→wC l i)
  (fun z=>ay [(0,ec l),(5,ec l),(6,iC .i64 (l.length:Nat)),(7,iC .i64 (z:Nat))] []) (fun z=>l.length-z) 0 ⟨Wa _,fun i h=>absurd h (W4 _)⟩ ?_
 rintro z ⟨h1,h2⟩
 by_cases hz:z<l.length
 ·have hir:=ir l[z]
  have hno:¬wC l z→b=false:=fun h=>by rw[←Wy,hb];exact fun q=>h (q z)
  cases hr:fX l[z]with
  | false=>
   have hb0:=hno (fun h=>by have:=(h hz).1;rw[hr]at this;cases this)
   subst hb0
   clear hb hno h2
   rw[hr]at hir
   (refine aq hir ?_;repeat' first|apply ah|refine ai fun hc=>?_)
   exact dp
  | true=>
   rw[hr]at hir
   by_cases h0:0<z
   ·obtain⟨q,rfl⟩:∃q,z=q+1:=⟨z-1,ab⟩
    have hqE:((q+1:Nat):Int)-1=(q:Nat):=ab
    have hrq:=(b0 _).1 ((h2 q ab) ab).1
    have hcm:=ii l[q].hi l[q+1].lo ab
    cases ho:l[q].op with
    | true=>
     have hb0:=hno (fun h=>by have:=((h hz).2 h0).1;rw[show l[q+1-1]=l[q]from rfl,ho]at this;cases this)
     subst hb0
     clear hb hno h2 hrq
     (refine bp hqE hir hcm ?_;repeat' first|apply ah|refine ai fun hc=>?_)
     all_goals first|(exfalso;simp_all;done)|skip
     exact dp
    | false=>
     by_cases hlt:cP l[q].hi l[q+1].lo<0
     ·have hok:wC l (q+1):=fun _=>⟨hr,fun _=>⟨ho,hlt⟩⟩
      clear hb hno hrq
      (refine bp hqE hir hcm ?_;repeat' first|apply ah|refine ai fun hc=>?_)
      all_goals first|(exfalso;simp_all;done)|skip
      refine⟨q+1+1,⟨ab,fun i hi=>?_⟩,ab,?_⟩
      ·rcases Wm i (q+1)with q'|q'
       ·exact h2 i q'
       ·obtain rfl:i=q+1:=ab
        exact hok
      ·exact ae
     ·have hb0:=hno (fun h=>hlt ((h hz).2 h0).2)
      subst hb0
      clear hb hno h2 hrq
      (refine bp hqE hir hcm ?_;repeat' first|apply ah|refine ai fun hc=>?_)
      all_goals first|(exfalso;simp_all;done)|skip
      exact dp
   ·have hok:wC l z:=fun _=>⟨hr,fun h=>absurd h h0⟩
    clear hb hno
    (refine aq hir ?_;repeat' first|apply ah|refine ai fun hc=>?_)
    refine⟨z+1,⟨ab,fun i hi=>?_⟩,ab,?_⟩
    ·rcases Wm i z with q|q
     ·exact h2 i q
     ·obtain rfl:i=z:=ab
      exact hok
    ·exact ae
 ·have hb1:b=true:=hb.2 (fun i=>by
   rcases Wm i z with q|q
   ·exact h2 i q
   ·exact fun h=>ab)
  subst hb1
  clear hb h2
  (refine w0 ?_;repeat' first|apply ah|refine ai fun hc=>?_)
  exact dp
theorem mK (l:List Rg)(hl:l.length≤1000000000)(b:Bool)(hb:b=true↔cb l):Fn prog 25 [ec l] (dq b):=by
 refine fi func25 ntmps25 ?_
 (refine w0 ?_)
 refine aj (X:=Nat) (fun z=>z≤l.length∧∀i,i<z→wC l i)
  (fun z=>ay [(0,ec l),(3,iC .i64 (z:Nat))] []) (fun z=>l.length-z) 0 ⟨Wa _,fun i h=>absurd h (W4 _)⟩ ?_
 rintro z ⟨h1,h2⟩
 by_cases hz:z<l.length
 ·have hir:=jS l[z]
  have hno:¬wC l z→b=false:=fun h=>by rw[←Wy,hb];exact fun q=>h (q z)
  cases hr:fX l[z]with
  | false=>
   have hb0:=hno (fun h=>by have:=(h hz).1;rw[hr]at this;cases this)
   subst hb0
   clear hb hno h2
   rw[hr]at hir
   (refine aq hir ?_;repeat' first|apply ah|refine ai fun hc=>?_)
   exact dp
  | true=>
   rw[hr]at hir
   by_cases h0:0<z
   ·obtain⟨q,rfl⟩:∃q,z=q+1:=⟨z-1,ab⟩
    have hqE:((q+1:Nat):Int)-1=(q:Nat):=ab
    have hrq:=(b0 _).1 ((h2 q ab) ab).1
    have hcm:=jR l[q].hi l[q+1].lo ab
    cases ho:l[q].op with
    | true=>
     have hb0:=hno (fun h=>by have:=((h hz).2 h0).1;rw[show l[q+1-1]=l[q]from rfl,ho]at this;cases this)
     subst hb0
     clear hb hno h2 hrq
     (refine bp hqE hir hcm ?_;repeat' first|apply ah|refine ai fun hc=>?_)
     all_goals first|(exfalso;simp_all;done)|skip
     exact dp
    | false=>
     by_cases hlt:cP l[q].hi l[q+1].lo<0
     ·have hok:wC l (q+1):=fun _=>⟨hr,fun _=>⟨ho,hlt⟩⟩
      rw[Wb hlt]at hcm
      clear hb hno hrq
      (refine bp hqE hir hcm ?_;repeat' first|apply ah|refine ai fun hc=>?_)
      all_goals first|(exfalso;simp_all;done)|skip
      refine⟨q+1+1,⟨ab,fun i hi=>?_⟩,ab,?_⟩
      ·rcases Wm i (q+1)with q'|q'
       ·exact h2 i q'
       ·obtain rfl:i=q+1:=ab
        exact hok
      ·exact ae
     ·have hb0:=hno (fun h=>hlt ((h hz).2 h0).2)
      rw[Wj hlt]at hcm
      subst hb0
      clear hb hno h2 hrq
      (refine bp hqE hir hcm ?_;repeat' first|apply ah|refine ai fun hc=>?_)
      all_goals first|(exfalso;simp_all;done)|skip
      exact dp
   ·have hok:wC l z:=fun _=>⟨hr,fun h=>absurd h h0⟩
    clear hb hno
    (refine aq hir ?_;repeat' first|apply ah|refine ai fun hc=>?_)
    refine⟨z+1,⟨ab,fun i hi=>?_⟩,ab,?_⟩
    ·rcases Wm i z with q|q
     ·exact h2 i q
     ·obtain rfl:i=z:=ab
      exact hok
    ·exact ae
 ·have hb1:b=true:=hb.2 (fun i=>by
   rcases Wm i z with q|q
   ·exact h2 i q
   ·exact fun h=>ab)
  subst hb1
  clear hb h2
  (refine w0 ?_;repeat' first|apply ah|refine ai fun hc=>?_)
  exact dp
structure DPt where
 fr:Nat
 to:Nat
 r:Rg
def Ve (k:ByteArray)(p:DPt):DPt:=⟨p.fr,p.fr+(p.to-p.fr) / 2,⟨p.r.lo,k,false⟩⟩
def Vf (k:ByteArray)(p:DPt):DPt:=⟨p.fr+(p.to-p.fr) / 2,p.to,⟨k,p.r.hi,p.r.op⟩⟩
def T5 (L:List It)(p:DPt):ByteArray:=match L[p.fr+(p.to-p.fr) / 2]? with|some x=>x.key|none=>⟨#[]⟩
def RC (L:List It)(a:Bool)(p:DPt):List DPt:=if a then []else if p.to-p.fr<2 then []else [Ve (T5 L p) p,Vf (T5 L p) p]
def T6 (a:Bool)(p:DPt):List Rg:=if a then []else if p.to-p.fr<2 then [p.r]else []
def VA (L:List It):List Bool→List DPt→List DPt
 | [],st=>st
 | _::_,[]=>[]
 | a::A,p::st=>VA L A (RC L a p++st)
def VB (L:List It):List Bool→List DPt→List Rg
 | [],_=>[]
 | _::_,[]=>[]
 | a::A,p::st=>T6 a p++VB L A (RC L a p++st)
theorem BR {α:Type}{P:List α→Prop}(h0:P [])(h1:∀l x,P l→P (l++[x])):∀l,P l:=by
 intro l
 have:∀r:List α,P r.reverse:=by
  intro r
  induction r with
  | nil=>exact h0
  | cons x r ih=>rw[List.reverse_cons];exact h1 _ _ ih
 simpa using this l.reverse
def Ee (x:Rg):Bool:=decide (x.lo.size>40)||decide (x.hi.size>40)
def ij (l:List Rg)(most:Int):Bool:=decide ((l.length:Int)>most)||l.any Ee
theorem BS (l:List Rg)(most:Int)(hl:most≤1000000000000):Fn prog 22 [ec l,iC .i64 most] (dq (ij l most)):=by
 refine fi func22 ntmps22 ?_
 (refine wH ?_;repeat' first|apply ah|refine ai fun hc=>?_)
 ·refine dw ?_
  exact aL rfl (by unfold ij;rw[Wb hc];rfl)
 refine aj (fun k=>k≤l.length∧(l.take k).any Ee=false) (fun k=>ay [(0,ec l),(1,iC .i64 most),(4,bC false),(5,iC .i64 (k:Nat))] []) (fun k=>l.length-k) 0 ⟨Wa _,au⟩ ?_
 rintro k ⟨hk,hpre⟩
 by_cases hlt:k<l.length
 ·have hsn:(l.take (k+1)).any Ee=((l.take k).any Ee||Ee l[k]):=by rw[bc l k hlt,List.any_append];simp
  (refine wH ?_;repeat' first|apply ah|refine ai fun hc=>?_)
  ·refine dw ?_
   exact aL rfl (by symm;unfold ij;rw[WN,Xc];refine .inr ⟨l[k],Wk hlt,?_⟩;grind[Ee])
  ·refine⟨k+1,⟨ab,?_⟩,ab,?_⟩
   ·rw[hsn,hpre];grind[Ee]
   ·exact ae
 ·(refine wH ?_;repeat' first|apply ah|refine ai fun hc=>?_)
  refine dw ?_
  have e:l.take k=l:=Wd ab
  rw[e]at hpre
  exact aL rfl (by symm;unfold ij;rw[hpre,Bool.or_false,Wt];assumption)
def s0:ByteArray:=⟨#[]⟩
def mL (s:ByteArray)(n:Nat):ByteArray:=s.extract n s.size
def fY (was:ByteArray):List It→List UInt8
 | []=>[]
 | x::r=>aJ (cR was x.key:Nat)++(bu (mL x.key (cR was x.key))++(iU x++fY x.key r))
def fG (l:List It):List UInt8:=aJ (l.length:Nat)++fY s0 l
theorem eD (s:ByteArray)(n:Nat):(mL s n).size=s.size-n:=by unfold mL;simp
theorem rG {x:It}(h:eC x=true):(iU x).length≤110:=by
 obtain⟨h1,h2,h3,h4⟩:=fF h
 have h5:=lL _ h1
 have h6:=cv x.body ab
 have h8:(fE x).length=5:=rfl
 simp only[iU,V5];omega
theorem xA {α:Type}(l:List α)(k:Nat)(h:k<l.length):l.drop k=l[k]::l.drop (k+1):=List.drop_eq_getElem_cons h
theorem BU (l:List It)(hl:l.length≤4096):Fn prog 118 [fj l] (.tup2 (gz (if l.all eC then fG l else [])) (el (if l.all eC then 0 else 2))):=by
 have hp0:=oC [] [(l.length:Int)] au (fun n hn=>by simp at hn;subst hn;unfold bL;omega)
 refine fi func118 ntmps118 ?_
 (refine aq hp0 ?_;repeat' first|apply ah|refine ai fun hc=>?_)
 refine bQ (aN 15 600) ?_
 refine bZ (X:=Nat×List UInt8×ByteArray) (fun x=>x.1≤l.length∧(l.take x.1).all eC=true∧x.2.2.size≤16∧x.2.1.length≤10+200*x.1∧x.2.1++fY x.2.2 (l.drop x.1)=fG l)
  (fun x=>ay [(4,.row 600 0),(5,sC x.2.2),(16,fj l),(17,iC .i64 (l.length:Nat)),(18,iC .i64 (x.1:Nat))] [(600,.row 5 1 (x.2.1.map byteP))]) (fun x=>l.length-x.1) (0,[(l.length:Int)].flatMap aJ,s0) ⟨Wa _,rfl,(by decide:s0.size≤16),?_,?_⟩ ?_ ?_
 ·have:=bf (l.length:Int) ab
  simp;omega
 ·simp[fG]
 ·exact ae
 ·rintro⟨k,acc,was⟩ ⟨hk,hall,hws,hlen,hR⟩
  simp only at hk hall hws hlen hR ⊢
  by_cases hlt:k<l.length
  ·cases hr:eC l[k]with
   | false=>
    have hno:l.all eC=false:=by
     rw[←Wy]
     intro h
     rw[WJ]at h
     rw[h _ (Wk hlt)]at hr;cases hr
    rw[hno]
    have h1:=dU l[k]
    rw[hr]at h1
    (refine aq h1 ?_;repeat' first|apply ah|refine ai fun hc=>?_)
    refine d9 ?_ ?_
    ·exact dv rfl
    ·exact al rfl rfl
   | true=>
    have h1:=dU l[k]
    rw[hr]at h1
    have hks:=fF hr
    have hal:=g8 was l[k].key
    have h2:=uy was l[k].key ab
    have hnn:(was.extract 0 (cR was l[k].key)).size=cR was l[k].key:=bn
    generalize hcm:was.extract 0 (cR was l[k].key)=cm at *
    have h3:=oC acc [(cm.size:Int)] bn (fun n hn=>by simp at hn;subst hn;unfold bL;omega)
    have h4:=fb (acc++[(cm.size:Int)].flatMap aJ) [mL l[k].key cm.size] (by
     have:=bf (cm.size:Int) ab
     have:=cv (mL l[k].key cm.size) (by rw[eD];omega)
     rw[eD]at this
     simp;omega)
    have h5:=uA (acc++[(cm.size:Int)].flatMap aJ++[mL l[k].key cm.size].flatMap bu) l[k] hr (by
     have:=bf (cm.size:Int) ab
     have:=cv (mL l[k].key cm.size) (by rw[eD];omega)
     rw[eD]at this
     simp;omega)
    (refine xj h1 h2 h3 h4 h5 ?_;repeat' first|apply ah|refine ai fun hc=>?_)
    refine⟨(k+1,acc++[(cm.size:Int)].flatMap aJ++[mL l[k].key cm.size].flatMap bu++iU l[k],l[k].key),⟨aA,?_,aA,?_,?_⟩,aA,av (aN 42 600) ?_⟩
    ·simp only
     rw[bc l k hlt,List.all_append,hall];simp[hr]
    ·have q1:=bf (cm.size:Int) ab
     have q2:=cv (mL l[k].key cm.size) (by rw[eD];omega)
     have q3:=rG hr
     rw[eD]at q2
     simp;omega
    ·simp only
     rw[←hR,xA l k hlt,fY,←hnn]
     simp
    ·exact ae
  ·have hkl:k=l.length:=ab
   subst hkl
   rw[Xk,fY,Wg]at hR
   rw[WX]at hall
   rw[hall]
   (refine w0 ?_;repeat' first|apply ah|refine ai fun hc=>?_)
   exact d9 (cJ rfl rfl rfl hR) (al rfl rfl)
theorem iB (n:Int)(h:bL n):Fn prog 98 [iC .i64 n] (gz (aJ n)):=by
 refine⟨⟨_,func98,by kernel_rfl,by kernel_rfl⟩,fun N0 w vs _ ha=>?_⟩
 obtain⟨v,rfl,h1⟩:=Lw ha
 obtain rfl:v=.int .i64 n:=h1
 obtain⟨h0,h2⟩:=h
 obtain⟨m,rfl⟩:=Int.eq_ofNat_of_zero_le h0
 refine Calls.mono (mJ m m w (V8 _) ab) ?_
 rintro e w' ⟨v',rfl,h⟩
 exact⟨_,rfl,h.ext,uw dz h⟩
theorem LF {n:Nat}(h:n<128):[[ak (.int .u8 (IntKind.u8.wrap (n:Int)))]]=(aJ (n:Int)).map byteP:=by
 have e:IntKind.u8.wrap (n:Int)=n:=by
  unfold IntKind.wrap
  simp[IntKind.bits,IntKind.signed]
  omega
 unfold aJ
 rw[Int.toNat_natCast,fV h,e]
 show [[ak (.int .u8 (n:Int))]]=[[ak (.int .u8 ((UInt8.ofNat n).toNat:Int))]]
 rw[Xd,Nat.mod_eq_of_lt ab]
theorem Ij (l:List It)(hl:l.length≤4096)(hall:l.all eC=true):Fn prog 99 [fj l] (gz (fG l)):=by
 have hp0:=iB (l.length:Int) (by unfold bL;omega)
 rw[WJ]at hall
 refine fi func99 ntmps99 ?_
 (refine aq hp0 ?_)
 refine bQ (aN 9 600) ?_
 refine bZ (X:=Nat×List UInt8×ByteArray) (fun x=>x.1≤l.length∧x.2.2.size≤16∧x.2.1.length≤10+200*x.1∧x.2.1++fY x.2.2 (l.drop x.1)=fG l)
  (fun x=>ay [(0,fj l),(3,.row 600 0),(4,sC x.2.2),(5,iC .i64 (x.1:Nat))] [(600,.row 5 1 (x.2.1.map byteP))]) (fun x=>l.length-x.1) (0,aJ (l.length:Nat),s0) ⟨Wa _,(by decide:s0.size≤16),?_,?_⟩ ?_ ?_
 ·have:=bf (l.length:Int) ab
  simp only;omega
 ·simp[fG]
 ·exact ae
 ·rintro⟨k,acc,was⟩ ⟨hk,hws,hlen,hR⟩
  simp only at hk hws hlen hR ⊢
  by_cases hlt:k<l.length
  ·have hr:=hall _ (Wk hlt)
   have hks:=fF hr
   have hal:=g8 was l[k].key
   have h2:=xw was l[k].key ab
   have h3:=iR (mL l[k].key (cR was l[k].key)) (by rw[eD];omega)
   have h4:=BN l[k] hr
   have q2:=cv (mL l[k].key (cR was l[k].key)) (by rw[eD];omega)
   have q3:=rG hr
   rw[eD]at q2
   (refine fO h2 h3 h4 ?_;repeat' first|apply ah|refine ai fun hc=>?_)
   have hb1:=LF (n:=cR was l[k].key) ab
   have q1:=bf ((cR was l[k].key:Nat):Int) ab
   refine⟨(k+1,acc++aJ (cR was l[k].key:Nat)++bu (mL l[k].key (cR was l[k].key))++iU l[k],l[k].key),⟨aA,aA,bn,?_⟩,aA,?_⟩
   ·simp only
    rw[←hR,xA l k hlt,fY]
    simp
   ·(refine kd ?_ ?_;(focus ((repeat (first|exact f9.nil|(refine f9.cons ?_ ?_;rotate_left)));(all_goals try (first|rfl|(refine Dx ?_;first|omega|(simp;done)|(simp;omega))|(refine pb ?_;first|(simp;done)|(simp[*];done))))));(focus ((repeat (first|exact ga.nil|(refine ga.cons ?_ ?_;rotate_left)));(all_goals try (first|rfl|(refine mD ?_;(rw[List.map_append]<;>rfl);done)|(refine ke ?_;(rw[List.map_append]<;>rfl);done))))))
    ·show Blk.row _ _ (((acc.map byteP++[[ak (.int .u8 (IntKind.u8.wrap ((cR was l[k].key:Nat):Int)))]])++_)++_)=_
     rw[hb1,←List.map_append,←List.map_append,←List.map_append]
  ·have hkl:k=l.length:=ab
   subst hkl
   rw[Xk,fY,Wg]at hR
   (refine w0 ?_;repeat' first|apply ah|refine ai fun hc=>?_)
   refine dw ?_
   exact cJ rfl rfl rfl hR
end Go.Proofs.YtaclhhkblbacgaaGreat
