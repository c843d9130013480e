/- Texts joined: Fc Parse Rd. -/
import Derived.Test.YtaclhhkblbacgaaGreatJ09
set_option maxRecDepth 10000
set_option maxHeartbeats 8000000
namespace Go.Proofs.YtaclhhkblbacgaaGreat
open Go.RowKit Go.Proofs.Tryz
variable {n:Int}
def tw (r:Rg):List UInt8:=bu r.lo++(if r.op=true then aJ 1 else aJ 0++bu r.hi)
def fH (l:List Rg):List UInt8:=aJ (l.length:Nat)++l.flatMap tw
theorem kI (h0:0≤n)(h:n<128):(aJ n).length=1:=by
 unfold aJ;rw[fV ab];rfl
theorem oD {r:Rg}(h:fX r=true):(tw r).length≤40:=by
 obtain⟨h1,h2,_⟩:=(b0 r).1 h
 have q1:=cv r.lo ab
 have q2:=cv r.hi ab
 have q3:=kI (n:=0) ab ab
 have q4:=kI (n:=1) ab ab
 unfold tw
 split<;>simp<;>omega
theorem tz {l:List Rg}(h:cb l){i:Nat}(hi:i<l.length):fX l[i]=true:=(h i hi).1
theorem rH (l:List UInt8)(ns:List Int)(hb:l.length+9*ns.length≤1000000000000)(hok:∀n∈ns,bL n):Fn prog 188 [dS l,xt ns] (gz (l++ns.flatMap aJ)):=by
 have h:=ju l ns hb hok
 refine fi func188 ntmps188 ?_
 (refine aq h ?_)
 exact nx
theorem Ef:(aJ 0).map byteP=[[ak (.int .u8 0)]]:=by unfold aJ;rw[fV bz];rfl
theorem Eg:(aJ 1).map byteP=[[ak (.int .u8 1)]]:=by unfold aJ;rw[fV bz];rfl
theorem kJ (h0:0≤n)(h:n≤1000000):∀m∈[n],bL m:=fun m hm=>by simp at hm;subst hm;unfold bL;omega
theorem qr (l:List Rg)(hl:l.length≤4096)(b:Bool)(hb:b=true↔cb l):Fn prog 115 [ec l] (.tup2 (gz (if b then fH l else [])) (el (if b then 0 else 2))):=by
 have h0:=jv l ab b hb
 cases b with
 | false=>
  show Fn _ _ _ (.tup2 (gz []) (el 2))
  clear hb
  refine fi func115 ntmps115 ?_
  (refine aq h0 ?_;repeat' first|apply ah|refine ai fun hc=>?_)
  all_goals refine d9 ?_ ?_
  all_goals first|exact dv rfl|exact al rfl rfl
 | true=>
  show Fn _ _ _ (.tup2 (gz (fH l)) (el 0))
  have hok:=hb.1 rfl
  clear hb
  have hp0:=rH [] [(l.length:Int)] au (kJ ab ab)
  have hn0:=bf (l.length:Int) ab
  refine fi func115 ntmps115 ?_
  (refine bg h0 hp0 ?_;repeat' first|apply ah|refine ai fun hc=>?_)
  refine bQ (aN 18 600) ?_
  refine aj (X:=Nat×List UInt8) (fun x=>x.1≤l.length∧x.2.length≤10+40*x.1∧x.2++(l.drop x.1).flatMap tw=fH l)
   (fun x=>ay [(4,.row 600 0),(19,ec l),(20,iC .i64 (l.length:Nat)),(21,iC .i64 (x.1:Nat))] [(600,.row 5 1 (x.2.map byteP))]) (fun x=>l.length-x.1) (0,[(l.length:Int)].flatMap aJ) ⟨Wa _,bn,by simp[fH]⟩ ?_
  rintro⟨k,acc⟩ ⟨h1,h2,h3⟩
  simp only at h1 h2 h3 ⊢
  by_cases hlt:k<l.length
  ·have hr:=tz hok hlt
   have hbl:=oD hr
   have hsz:=(b0 _).1 hr
   have t1:=cv l[k].lo ab
   have t2:=cv l[k].hi ab
   have n0:=kI (n:=0) ab ab
   rw[List.drop_eq_getElem_cons hlt,List.flatMap_cons]at h3
   have c1:=fb acc [l[k].lo] bn
   have c2:=rH (acc++[l[k].lo].flatMap bu) [1] bn (kJ ab ab)
   have c3:=rH (acc++[l[k].lo].flatMap bu) [0] bn (kJ ab ab)
   have c4:=fb (acc++[l[k].lo].flatMap bu++[(0:Int)].flatMap aJ) [l[k].hi] bn
   clear hok h0
   (refine pj c1 c2 c3 c4 ?_;repeat' first|apply ah|refine ai fun hc=>?_)
   ·have e:tw l[k]=bu l[k].lo++aJ 1:=by unfold tw;rw[V6 (by assumption)]
    rw[e]at h3 hbl
    refine⟨(k+1,acc++[l[k].lo].flatMap bu++[(1:Int)].flatMap aJ),⟨aA,by simp at hbl ⊢;omega,by rw[←h3];simp⟩,aA,av (aN 34 600) ?_⟩
    exact ae
   ·have e:tw l[k]=bu l[k].lo++(aJ 0++bu l[k].hi):=by unfold tw;rw[V3 (by simp[*])]
    rw[e]at h3 hbl
    refine⟨(k+1,acc++[l[k].lo].flatMap bu++[(0:Int)].flatMap aJ++[l[k].hi].flatMap bu),⟨aA,by simp at hbl ⊢;omega,by rw[←h3];simp⟩,aA,av (aN 41 600) ?_⟩
    exact ae
  ·rw[Wv ab,WC,Wg]at h3
   (refine w0 ?_;repeat' first|apply ah|refine ai fun hc=>?_)
   exact d9 (cJ rfl rfl rfl h3) (al rfl rfl)
theorem uC (l:List Rg)(hl:l.length≤4096)(hok:cb l):Fn prog 96 [ec l] (gz (fH l)):=by
 have hp0:=iB (l.length:Int) (by unfold bL;omega)
 have hn0:=bf (l.length:Int) ab
 refine fi func96 ntmps96 ?_
 (refine aq hp0 ?_)
 refine bQ (aN 7 600) ?_
 refine aj (X:=Nat×List UInt8) (fun x=>x.1≤l.length∧x.2.length≤10+40*x.1∧x.2++(l.drop x.1).flatMap tw=fH l)
  (fun x=>ay [(0,ec l),(3,.row 600 0),(4,iC .i64 (x.1:Nat))] [(600,.row 5 1 (x.2.map byteP))]) (fun x=>l.length-x.1) (0,aJ (l.length:Nat)) ⟨Wa _,aA,by simp[fH]⟩ ?_
 rintro⟨k,acc⟩ ⟨h1,h2,h3⟩
 simp only at h1 h2 h3 ⊢
 by_cases hlt:k<l.length
 ·have hr:=tz hok hlt
  have hbl:=oD hr
  have hsz:=(b0 _).1 hr
  have t1:=cv l[k].lo ab
  have t2:=cv l[k].hi ab
  rw[List.drop_eq_getElem_cons hlt,List.flatMap_cons]at h3
  have c1:=iR l[k].lo ab
  have c2:=iR l[k].hi ab
  clear hok
  (refine bg c1 c2 ?_;repeat' first|apply ah|refine ai fun hc=>?_)
  ·have e:tw l[k]=bu l[k].lo++aJ 1:=by unfold tw;rw[V6 (by assumption)]
   rw[e]at h3 hbl
   refine⟨(k+1,acc++bu l[k].lo++aJ 1),⟨aA,by simp at hbl ⊢;omega,by rw[←h3];simp⟩,aA,?_⟩
   (refine kd ?_ ?_;(focus ((repeat (first|exact f9.nil|(refine f9.cons ?_ ?_;rotate_left)));(all_goals try (first|rfl|(refine Dx ?_;first|omega|(simp;done)|(simp;omega))|(refine pb ?_;first|(simp;done)|(simp[*];done))))));(focus ((repeat (first|exact ga.nil|(refine ga.cons ?_ ?_;rotate_left)));(all_goals try (first|rfl|(refine mD ?_;(rw[List.map_append]<;>rfl);done)|(refine ke ?_;(rw[List.map_append]<;>rfl);done))))))
   ·show Blk.row _ _ ((acc.map byteP++_)++[[ak (.int .u8 1)]])=_
    rw[←Eg,←List.map_append,←List.map_append]
  ·have e:tw l[k]=bu l[k].lo++(aJ 0++bu l[k].hi):=by unfold tw;rw[V3 (by simp[*])]
   rw[e]at h3 hbl
   refine⟨(k+1,acc++bu l[k].lo++aJ 0++bu l[k].hi),⟨aA,by simp at hbl ⊢;omega,by rw[←h3];simp⟩,aA,?_⟩
   (refine kd ?_ ?_;(focus ((repeat (first|exact f9.nil|(refine f9.cons ?_ ?_;rotate_left)));(all_goals try (first|rfl|(refine Dx ?_;first|omega|(simp;done)|(simp;omega))|(refine pb ?_;first|(simp;done)|(simp[*];done))))));(focus ((repeat (first|exact ga.nil|(refine ga.cons ?_ ?_;rotate_left)));(all_goals try (first|rfl|(refine mD ?_;(rw[List.map_append]<;>rfl);done)|(refine ke ?_;(rw[List.map_append]<;>rfl);done))))))
   ·show Blk.row _ _ (((acc.map byteP++_)++[[ak (.int .u8 0)]])++_)=_
    rw[←Ef,←List.map_append,←List.map_append,←List.map_append]
 ·rw[Wv ab,WC,Wg]at h3
  (refine w0 ?_;repeat' first|apply ah|refine ai fun hc=>?_)
  refine dw ?_
  exact cJ rfl rfl rfl h3
def cM (l:List UInt8):Nat:=(l.takeWhile (fun c=>decide (128≤c.toNat))).length
def dW:List UInt8→Nat
 | []=>0
 | c::r=>c.toNat % 128+128*dW r
def kg (l:List UInt8):Prop:=(0<cM l∧l[cM l]?=some 0)∨281474976710656<dW (l.take (cM l+1))
instance (l:List UInt8):Decidable (kg l):=by unfold kg;infer_instance
def bv (l:List UInt8):Nat×Nat×Int:=
 if 8≤cM l then(0,0,11)else if l.length≤cM l then(0,0,10)else if kg l then(0,0,11)else(dW (l.take (cM l+1)),cM l+1,0)
theorem tA (l:List UInt8):cM l≤l.length:=by
 unfold cM;exact(List.takeWhile_sublist _).length_le
theorem oE:∀(l:List UInt8)(i:Nat)(h:i<l.length),i≤cM l→(128≤l[i].toNat→i+1≤cM l)∧(l[i].toNat<128→cM l=i):=by
 intro l
 induction l with
 | nil=>intro i h;simp at h
 | cons c r ih=>
  intro i h hi
  unfold cM at *
  rw[List.takeWhile_cons]at *
  cases i with
  | zero=>
   refine⟨fun hc=>?_,fun hc=>?_⟩
   ·simp at hc;simp[hc]
   ·simp at hc;rw[V3 bn];rfl
  | succ i=>
   by_cases hc:128≤c.toNat
   ·rw[V6 (by simpa using hc)]at hi ⊢
    simp only[Wh]at hi ⊢
    have:=ih i (by simpa using h) ab
    simp only[List.getElem_cons_succ]
    omega
   ·rw[V3 (by simpa using hc)]at hi;simp at hi
theorem BV:∀(l:List UInt8)(i:Nat)(h:i<l.length),i<cM l→128≤l[i].toNat:=by
 intro l i h hi
 rcases Wm (l[i].toNat) 128 with h1|h1
 ·have:=(oE l i h ab).2 h1;omega
 ·exact h1
theorem PR (l:List UInt8)(h:cM l<l.length):l[cM l].toNat<128:=by
 rcases Wm (l[cM l].toNat) 128 with h1|h1
 ·exact h1
 ·have:=(oE l (cM l) h (V8 _)).1 h1;omega
theorem BW (l:List UInt8):dW l<128 ^ l.length:=by
 induction l with
 | nil=>simp[dW]
 | cons c r ih=>simp only[dW,Wh,Nat.pow_succ];omega
def aO (l:List UInt8)(e:Int):Int×List UInt8×Int:=
 if e≠0 then(0,l,e)else if(bv l).2.2≠0 then(0,l,(bv l).2.2)else((bv l).1,l.drop (bv l).2.1,0)
def af (lo hi:Int)(l:List UInt8)(e:Int):Int×List UInt8×Int:=
 if(aO l e).2.2=0∧((aO l e).1<lo∨hi<(aO l e).1)then(0,l,11)else aO l e
def aW (most:Int)(l:List UInt8)(e:Int):List UInt8×List UInt8×Int:=
 if(af 0 most l e).2.2≠0 then([],(af 0 most l e).2)
 else if(af 0 most l e).2.1.length<(af 0 most l e).1 then([],l,10)
 else((af 0 most l e).2.1.take (af 0 most l e).1.toNat,(af 0 most l e).2.1.drop (af 0 most l e).1.toNat,0)
def Eh (x:Int)(l:List UInt8)(e:Int):List UInt8×Int:=if e=0 then(l,x)else(l,e)
def di (l:List UInt8)(e:Int):Int:=if e=0∧0<l.length then 14 else e
theorem Ei:∀(xs:List UInt8)(c:UInt8),(∀x∈xs,128≤x.toNat)→c.toNat<128→(xs≠[]→c≠0)→gy (dW (xs++[c]))=xs++[c]:=by
 intro xs
 induction xs with
 | nil=>
  intro c _ hc _
  have:dW ([]++[c])=c.toNat:=by simp[dW];omega
  rw[this,fV hc];simp
 | cons x r ih=>
  intro c hx hc hne
  have hc0:=hne au
  have hr:=ih c (fun y hy=>hx y (by simp[hy])) hc (fun _=>hc0)
  have hxx:=hx x au
  have hV:0<dW (r++[c]):=by
   have h1:∀r:List UInt8,0<c.toNat→0<dW (r++[c]):=by
    intro r hp
    induction r with
    | nil=>simp[dW];omega
    | cons y r ih=>simp only[List.cons_append,dW];omega
   apply h1
   rcases W6 c.toNat with h|h
   ·exact absurd (Xj.1 (by simpa using h)) hc0
   ·exact h
  have hval:dW (x::r++[c])=x.toNat % 128+128*dW (r++[c]):=rfl
  have hlt:=x.toNat_lt
  rw[hval,oy ab]
  rw[show(x.toNat % 128+128*dW (r++[c])) / 128=dW (r++[c])by omega,hr]
  rw[show 128+(x.toNat % 128+128*dW (r++[c])) % 128=x.toNat by omega]
  simp
theorem LG {l:List UInt8}(h:(bv l).2.2=0):cM l<8∧cM l<l.length∧¬kg l∧(bv l).1=dW (l.take (cM l+1))∧(bv l).2.1=cM l+1:=by
 unfold bv at h ⊢
 by_cases h1:8≤cM l
 ·rw[V6 h1]at h;simp at h
 ·rw[V3 h1]at h ⊢
  by_cases h2:l.length≤cM l
  ·rw[V6 h2]at h;simp at h
  ·rw[V3 h2]at h ⊢
   by_cases h3:kg l
   ·rw[V6 h3]at h;simp at h
   ·rw[V3 h3];exact⟨ab,ab,h3,rfl,rfl⟩
theorem Ej {l:List UInt8}(h:(bv l).2.2=0):gy (bv l).1=l.take (bv l).2.1∧0<(bv l).2.1∧(bv l).2.1≤l.length∧(bv l).1≤281474976710656:=by
 obtain⟨h8,hl,hb,e1,e2⟩:=LG h
 rw[e1,e2]
 have ht:l.take (cM l+1)=l.take (cM l)++[l[cM l]]:=List.take_succ_eq_append_getElem hl
 refine⟨?_,ab,ab,?_⟩
 ·rw[ht]
  refine Ei _ _ ?_ (PR l hl) ?_
  ·intro x hx
   obtain⟨i,hi,rfl⟩:=List.getElem_of_mem hx
   rw[WA]at hi
   rw[List.getElem_take]
   exact BV l i ab ab
  ·intro hne h0
   refine hb (.inl ⟨?_,by rw[V4 hl,h0]⟩)
   rcases W6 (cM l)with h|h
   ·rw[h]at hne;simp at hne
   ·exact h
 ·rcases Wm 281474976710656 (dW (l.take (cM l+1)))with h|h
  ·exact absurd (.inr h) hb
  ·exact h
theorem uD (n:Nat):∃xs c,gy n=xs++[c]∧(∀x∈xs,128≤x.toNat)∧c.toNat<128∧(xs≠[]→c≠0)∧dW (gy n)=n:=by
 induction n using Nat.strongRecOn with
 | ind n ih=>
  by_cases h:n<128
  ·refine⟨[],UInt8.ofNat n,by rw[fV h];rfl,au,by rw[Xd];omega,au,?_⟩
   rw[fV h];simp only[dW,Xd];omega
  ·obtain⟨xs,c,e,h1,h2,h3,h4⟩:=ih (n / 128) ab
   refine⟨UInt8.ofNat (128+n % 128)::xs,c,by rw[oy h,e];rfl,?_,h2,?_,?_⟩
   ·intro x hx
    rcases Wp.1 hx with rfl|hx
    ·rw[Xd];omega
    ·exact h1 x hx
   ·intro _
    by_cases hx:xs=[]
    ·subst hx
     intro hc
     subst hc
     rw[e]at h4
     simp[dW]at h4
     omega
    ·exact h3 hx
   ·rw[oy h];simp only[dW,h4,Xd];omega
theorem Ik (n:Nat)(r:List UInt8):cM (gy n++r)+1=(gy n).length:=by
 obtain⟨xs,c,e,h1,h2,h3,h4⟩:=uD n
 rw[e]
 have:(xs++[c]++r).takeWhile (fun c=>decide (128≤c.toNat))=xs:=by
  rw[V9,List.takeWhile_append_of_pos (by simpa using h1)]
  rw[List.cons_append,List.takeWhile_cons,V3 bn];simp
 unfold cM
 rw[this];simp
theorem LH (n:Nat)(r:List UInt8)(hn:n≤281474976710656):bv (gy n++r)=(n,(gy n).length,0):=by
 have hl:=Ik n r
 have h8:=BJ 7 n ab
 obtain⟨xs,c,e,h1,h2,h3,h4⟩:=uD n
 have hlen:cM (gy n++r)=xs.length:=by rw[e]at hl ⊢;simp at hl ⊢;exact hl
 unfold bv
 rw[V3 ab,V3 (by rw[V5];omega)]
 have ht:(gy n++r).take (cM (gy n++r)+1)=gy n:=by rw[hl];simp
 rw[V3,ht,hl,h4]
 unfold kg
 rw[ht,h4]
 rintro(⟨h,h'⟩|h)
 ·rw[hlen]at h h'
  rw[e,Wl au,List.getElem?_append_right ab]at h'
  simp at h'
  exact h3 (by intro hx;subst hx;simp at h) h'
 ·omega
theorem lb (h:bL n)(r:List UInt8):aO (aJ n++r) 0=(n,r,0):=by
 unfold aO aJ
 obtain⟨h1,h2⟩:=h
 rw[LH n.toNat r ab]
 rw[V3 au,V3 au]
 simp;omega
theorem cc {lo hi:Int}(h:bL n)(h1:lo≤n)(h2:n≤hi)(r:List UInt8):af lo hi (aJ n++r) 0=(n,r,0):=by
 unfold af
 rw[lb h]
 rw[V3]
 simp;omega
theorem lM {s:ByteArray}{most:Int}(h:(s.size:Int)≤most)(h2:s.size≤281474976710656)(r:List UInt8):aW most (bu s++r) 0=(s.data.toList,r,0):=by
 have hw:af 0 most (bu s++r) 0=((s.size:Int),s.data.toList++r,0):=by
  have:=cc (n:=(s.size:Int)) (lo:=0) (hi:=most) ⟨ab,ab⟩ ab h (s.data.toList++r)
  unfold aJ at this
  rw[Int.toNat_natCast]at this
  rw[bu,V9];exact this
 unfold aW
 rw[hw]
 have hl:s.data.toList.length=s.size:=mq s
 rw[V3 au,V3 bn,Int.toNat_natCast]
 rw[List.take_append_of_le_length ab,Wd ab,List.drop_append_of_le_length ab,Wv ab]
 rfl
theorem Ek (s:ByteArray):(⟨s.data.toList.toArray⟩:ByteArray)=s:=by cases s;simp
theorem PS {l:List UInt8}{e:Int}(h:e≠0):aO l e=(0,l,e):=by unfold aO;rw[V6 h]
theorem eJ {l:List UInt8}{e:Int}(h:(aO l e).2.2=0):e=0∧bL (aO l e).1∧l=aJ (aO l e).1++(aO l e).2.1:=by
 by_cases he:e=0
 ·subst he
  unfold aO at h ⊢
  rw[V3 au]at h ⊢
  by_cases hr:(bv l).2.2=0
  ·obtain⟨h1,h2,h3,h4⟩:=Ej hr
   rw[V3 (by simp[hr])]
   refine⟨rfl,⟨aA,aA⟩,?_⟩
   simp only[aJ,Int.toNat_natCast]
   rw[h1,WL]
  ·rw[V6 hr]at h
   exact absurd h hr
 ·rw[PS he]at h;exact absurd h he
theorem bt {lo hi:Int}{l:List UInt8}{e:Int}(h:(af lo hi l e).2.2=0):e=0∧bL (af lo hi l e).1∧lo≤(af lo hi l e).1∧(af lo hi l e).1≤hi∧l=aJ (af lo hi l e).1++(af lo hi l e).2.1:=by
 unfold af at h ⊢
 split at h
 ·simp at h
 ·rename_i hc
  rw[V3 hc]
  obtain⟨h1,h2,h3⟩:=eJ h
  exact⟨h1,h2,ab,ab,h3⟩
theorem ky {most:Int}{l:List UInt8}{e:Int}(h:(aW most l e).2.2=0):e=0∧((aW most l e).1.length:Int)≤most∧l=bu ⟨(aW most l e).1.toArray⟩++(aW most l e).2.1:=by
 unfold aW at h ⊢
 split at h
 ·rename_i hc;exact absurd h hc
 ·rename_i hc
  rw[V3 hc]
  split at h
  ·simp at h
  ·rename_i hc2
   rw[V3 hc2]
   have hc:(af 0 most l e).2.2=0:=by simpa using hc
   obtain⟨h1,h2,h3,h4,h5⟩:=bt hc
   have hlen:((af 0 most l e).2.1.take (af 0 most l e).1.toNat).length=(af 0 most l e).1.toNat:=by rw[WA];omega
   refine⟨h1,by simp only;rw[hlen];omega,?_⟩
   simp only
   unfold bu
   have:(⟨((af 0 most l e).2.1.take (af 0 most l e).1.toNat).toArray⟩:ByteArray).size=(af 0 most l e).1.toNat:=by
    show(((af 0 most l e).2.1.take (af 0 most l e).1.toNat).toArray).size=_
    rw[WR];exact hlen
   rw[this]
   simp only
   rw[V9,WL]
   exact h5
theorem uE {l:List UInt8}{e:Int}(h:di l e=0):l=[]∧e=0:=by
 unfold di at h
 split at h
 ·simp at h
 ·rename_i hc
  subst h
  refine⟨?_,rfl⟩
  have:l.length=0:=ab
  exact Wf this
abbrev aK (l:List UInt8):PV:=cA 1 (l.map byteP)
abbrev ct (l:List UInt8)(e:Int):Blk:=.box 204 [.per (aK l),iC .i64 e]
abbrev lN:Cnt:=.ptr 1000 0 0
theorem BX (l:List UInt8)(e:Int):dh prog 205 [lN] [(1000,ct l e)] (iC .i64 e) [(1000,ct l e)]:=by
 refine dH func205 ntmps205 ?_
 (refine w0 ?_;repeat' first|apply ah|refine ai fun hc=>?_)
 refine gM ?_
 exact bm rfl rfl
theorem Sw (l:List UInt8)(e:Int):dh prog 206 [lN] [(1000,ct l e)] (iC .i64 (l.length:Int)) [(1000,ct l e)]:=by
 refine dH func206 ntmps206 ?_
 (refine w0 ?_;repeat' first|apply ah|refine ai fun hc=>?_)
 refine gM ?_
 exact bm rfl au
theorem zf (l:List UInt8)(e x:Int):dh prog 249 [lN,iC .i64 x] [(1000,ct l e)] .any [(1000,ct l (Eh x l e).2)]:=by
 unfold Eh
 by_cases h0:e=0
 ·subst h0
  refine dH func249 ntmps249 ?_
  (refine w0 ?_;repeat' first|apply ah|refine ai fun hc=>?_)
  exact j3
 ·rw[V3 h0]
  refine dH func249 ntmps249 ?_
  (refine w0 ?_;repeat' first|apply ah|refine ai fun hc=>?_)
  exact j3
def iu (l:List UInt8):Nat×Int:=if 8≤cM l then(0,11)else if l.length≤cM l then(0,10)else(cM l+1,0)
theorem El (l:List UInt8)(e:Int):dh prog 250 [lN] [(1000,ct l e)] (.tup2 (iC .i64 ((iu l).1:Nat)) (iC .i64 (iu l).2)) [(1000,ct l e)]:=by
 have hll:=tA l
 refine dH func250 ntmps250 ?_
 (refine w0 ?_)
 refine aj (fun k=>k≤cM l∧k≤8) (fun k=>ay [(0,lN),(10,iC .i64 (if 8<l.length then 8 else l.length:Int)),(11,iC .i64 (k:Nat))] [(1000,ct l e)]) (fun k=>8-k) 0 ⟨Wa _,ab⟩ ?_
 rintro k ⟨hk,hk8⟩
 have hst:=oE l k
 (refine w0 ?_;repeat' first|apply ah|refine ai fun hc=>?_)
 ·have hkl:k<l.length:=ab
  have h1:=(hst hkl hk).2 ab
  refine OY ?_ ?_
  ·exact bm rfl (by unfold iu;rw[V3 ab,V3 ab];simp;omega)
  ·exact bm rfl (by unfold iu;rw[V3 ab,V3 ab])
 ·have hkl:k<l.length:=ab
  have h1:=(hst hkl hk).1 ab
  refine⟨k+1,⟨ab,ab⟩,ab,?_⟩
  exact ae
 ·refine OY ?_ ?_
  ·exact bm rfl (by unfold iu;rw[V6 ab];rfl)
  ·exact bm rfl (by unfold iu;rw[V6 ab])
 ·refine OY ?_ ?_
  ·exact bm rfl (by unfold iu;rw[V3 ab,V6 ab];rfl)
  ·exact bm rfl (by unfold iu;rw[V3 ab,V6 ab])
theorem uF (l:List UInt8)(k:Nat)(h:k<l.length):dW (l.drop k)=l[k].toNat % 128+128*dW (l.drop (k+1)):=by
 rw[List.drop_eq_getElem_cons h];rfl
theorem LI (l:List UInt8)(e:Int):dh prog 204 [lN] [(1000,ct l e)] (iC .i64 (aO l e).1) [(1000,ct (aO l e).2.1 (aO l e).2.2)]:=by
 have hll:=tA l
 by_cases he:e=0
 ·subst he
  by_cases hs:(iu l).2=0
  ·have hz:cM l<8∧cM l<l.length∧iu l=(cM l+1,0):=by
    unfold iu at hs ⊢
    split at hs
    ·simp at hs
    ·split at hs
     ·simp at hs
     ·rename_i h1 h2;rw[V3 h1,V3 h2];exact⟨ab,ab,rfl⟩
   obtain⟨z1,z2,z3⟩:=hz
   have hns:=El l 0
   rw[z3]at hns
   have hb:aO l 0=if kg l then(0,l,11)else(((dW (l.take (cM l+1)):Nat):Int),l.drop (cM l+1),0):=by
    unfold aO bv
    rw[V3 au,V3 (show ¬8≤cM l by omega),V3 (show ¬l.length≤cM l by omega)]
    by_cases hb:kg l
    ·simp[hb]
    ·simp[hb]
   rw[hb]
   clear hb z3 hs
   have h128:∀k,k≤cM l+1→dW ((l.take (cM l+1)).drop k)≤72057594037927935:=by
    intro k hk
    have h1:=BW ((l.take (cM l+1)).drop k)
    have h2:(128:Nat) ^ ((l.take (cM l+1)).drop k).length≤128 ^ 8:=Nat.pow_le_pow_right bz bn
    have h3:(128:Nat) ^ 8=72057594037927936:=bz
    omega
   have hbad:kg l↔((cM l+1>1∧l[cM l].toNat=0)∨dW (l.take (cM l+1))>281474976710656):=by
    unfold kg
    have h0:l[cM l]?=some 0↔l[cM l].toNat=0:=by
     rw[V4 z2,Option.some.injEq,←Xj];rfl
    rw[h0]
    constructor
    ·rintro(⟨a,b⟩|a)
     ·exact .inl ⟨ab,b⟩
     ·exact .inr a
    ·rintro(⟨a,b⟩|a)
     ·exact .inl ⟨ab,b⟩
     ·exact .inr a
   refine dH func204 ntmps204 ?_
   (refine ft (BX l 0) hns ?_;repeat' first|apply ah|refine ai fun hc=>?_)
   refine bZ (fun j=>j≤cM l+1) (fun j=>ay [(0,lN),(3,iC .i64 ((cM l+1:Nat):Int)),(5,iC .i64 (dW ((l.take (cM l+1)).drop j):Nat)),(6,iC .i64 ((j:Int)-1))] [(1000,ct l 0)]) (fun j=>j) (cM l+1) (V8 _) ?_ ?_
   ·have h0:(l.take (cM l+1)).drop (cM l+1)=[]:=au
    rw[h0]
    exact ae
   ·intro j hj
    cases j with
    | succ j=>
     have hv:=uF (l.take (cM l+1)) j bn
     have hb1:=h128 j ab
     have hb2:=h128 (j+1) ab
     rw[List.getElem_take]at hv
     rw[show((j+1:Nat):Int)-1=(j:Int)by omega]
     (refine w0 ?_;repeat' first|apply ah|refine ai fun hc=>?_)
     refine⟨j,ab,ab,?_⟩
     exact ae
    | zero=>
     rw[Xw]
     have hb1:=h128 0 ab
     rw[Xw]at hb1
     have hnb:∀h:¬kg l,(if kg l then((0:Int),l,(11:Int))else(((dW (l.take (cM l+1)):Nat):Int),l.drop (cM l+1),0))=(((dW (l.take (cM l+1)):Nat):Int),l.drop (cM l+1),0):=fun h=>V3 h
     by_cases h1:cM l+1>1
     ·(refine dy (zf l 0 11) ?_;repeat' first|apply ah|refine ai fun hc=>?_)
      ·rw[V6 (hbad.2 (.inl ⟨h1,ab⟩))]
       refine gM ?_
       exact bm rfl rfl
      ·rw[V6 (hbad.2 (.inr ab))]
       refine gM ?_
       exact bm rfl rfl
      ·rw[hnb (fun h=>by have:=hbad.1 h;omega)]
       refine gM ?_
       exact bm rfl rfl
     ·(refine dy (zf l 0 11) ?_;repeat' first|apply ah|refine ai fun hc=>?_)
      ·rw[V6 (hbad.2 (.inr ab))]
       refine gM ?_
       exact bm rfl rfl
      ·rw[hnb (fun h=>by have:=hbad.1 h;omega)]
       refine gM ?_
       exact bm rfl rfl
  ·have hb:aO l 0=(0,l,(iu l).2):=by
    unfold aO bv iu at *
    rw[V3 au]
    by_cases h1:8≤cM l
    ·simp[h1]
    ·by_cases h2:l.length≤cM l
     ·simp[h1,h2]
     ·rw[V3 h1,V3 h2]at hs;exact absurd rfl hs
   rw[hb]
   refine dH func204 ntmps204 ?_
   (refine ft (BX l 0) (El l 0) ?_;repeat' first|apply ah|refine ai fun hc=>?_|((first|apply aB rfl|apply aC rfl|apply aD rfl|apply aF rfl);(focus ((try (apply bI;(focus rfl);apply ag rfl rfl rfl rfl rfl));first|exact m9 (zf l 0 _)));refine ft (BX l 0) (El l 0) ?_))
   rw[show iu l=iu l from rfl]
   refine gM ?_
   exact bm rfl rfl
 ·have hb:aO l e=(0,l,e):=by unfold aO;rw[V6 he]
  rw[hb]
  refine dH func204 ntmps204 ?_
  (refine dy (BX l e) ?_;repeat' first|apply ah|refine ai fun hc=>?_)
  refine gM ?_
  exact bm rfl rfl
section
variable (l:List UInt8) (e:Int)
theorem PT:dh prog 203 [lN] [(1000,ct l e)] lN [(1000,ct l e)]:=by
 refine dH func203 ntmps203 ?_
 (refine w0 ?_;repeat' first|apply ah|refine ai fun hc=>?_)
 refine gM ?_
 exact um rfl rfl
theorem m1:dh prog 130 [lN] [(1000,ct l e)] (iC .i64 e) [(1000,ct l e)]:=by
 refine dH func130 ntmps130 ?_
 (refine ft (PT l e) (BX l e) ?_)
 refine gM ?_
 exact bm rfl rfl
theorem uG:dh prog 131 [lN] [(1000,ct l e)] (iC .i64 (l.length:Int)) [(1000,ct l e)]:=by
 refine dH func131 ntmps131 ?_
 (refine ft (PT l e) (Sw l e) ?_)
 refine gM ?_
 exact bm rfl rfl
theorem LJ (x:Int):dh prog 202 [lN,iC .i64 x] [(1000,ct l e)] .any [(1000,ct l (Eh x l e).2)]:=by
 refine dH func202 ntmps202 ?_
 (refine ft (PT l e) (zf l e x) ?_)
 exact j3
theorem hY:dh prog 127 [lN] [(1000,ct l e)] (iC .i64 (aO l e).1) [(1000,ct (aO l e).2.1 (aO l e).2.2)]:=by
 refine dH func127 ntmps127 ?_
 (refine ft (PT l e) (LI l e) ?_)
 refine gM ?_
 exact bm rfl rfl
theorem zg:dh prog 201 [lN] [(1000,ct l e)] (.per (aK l)) [(1000,ct l e)]:=by
 refine dH func201 ntmps201 ?_
 (refine w0 ?_;repeat' first|apply ah|refine ai fun hc=>?_)
 refine gM ?_
 exact dB rfl rfl
theorem db (lo hi:Int):dh prog 126 [lN,iC .i64 lo,iC .i64 hi] [(1000,ct l e)] (iC .i64 (af lo hi l e).1) [(1000,ct (af lo hi l e).2.1 (af lo hi l e).2.2)]:=by
 have hN:=hY l e
 generalize hQ:af lo hi l e=Q at *
 unfold af at hQ
 generalize aO l e=q at *
 obtain⟨m,l',e'⟩:=q
 simp only at hN hQ
 refine dH func126 ntmps126 ?_
 (refine mZ (zg l e) hN (m1 l' e') (LJ l e' 11) ?_;repeat' first|apply ah|refine ai fun hc=>?_)
 ·rw[V6 ⟨by assumption,.inl (by assumption)⟩]at hQ
  subst hQ
  have h0:e'=0:=by assumption
  subst h0
  refine gM ?_
  exact bm rfl rfl
 ·rw[V6 ⟨by assumption,.inr ab⟩]at hQ
  subst hQ
  have h0:e'=0:=by assumption
  subst h0
  refine gM ?_
  exact bm rfl rfl
 ·rw[V3 ab]at hQ
  subst hQ
  refine gM ?_
  exact bm rfl rfl
 ·rw[V3 ab]at hQ
  subst hQ
  refine gM ?_
  exact bm rfl rfl
theorem rI:dh prog 128 [lN] [(1000,ct l e)] (bC ((af 0 1 l e).1==1)) [(1000,ct (af 0 1 l e).2.1 (af 0 1 l e).2.2)]:=by
 refine dH func128 ntmps128 ?_
 (refine dy (db l e 0 1) ?_)
 refine gM ?_
 exact iP rfl rfl
theorem xB:dh prog 68 [lN] [(1000,ct l e)] (iC .i64 (di l e)) [(1000,ct l e)]:=by
 unfold di
 refine dH func68 ntmps68 ?_
 (refine ft (m1 l e) (uG l e) ?_;repeat' first|apply ah|refine ai fun hc=>?_)
 all_goals (refine⟨(by first|exact .inl rfl|exact .inr rfl),gq [(1000,1000)] rfl rfl ?_ ?_⟩;(focus (repeat (first|exact eh.nil|(refine eh.cons rfl ?_ ?_;(focus first|rfl|skip))))))
 ·exact bm rfl (by rw[V6 ab])
 ·exact bm rfl (by rw[V3 ab])
 ·exact bm rfl (by rw[V3 ab])
theorem qs (most:Int)(h0:(af 0 most l e).2.2=0):0≤(af 0 most l e).1∧(af 0 most l e).1≤most:=by
 unfold af at *
 split at h0
 ·simp at h0
 ·rename_i h
  rw[V3 h]
  omega
theorem mM (most:Int):dh prog 195 [lN,iC .i64 most] [(1000,ct l e)] (sC ⟨(aW most l e).1.toArray⟩) [(1000,ct (aW most l e).2.1 (aW most l e).2.2)]:=by
 have hN:=db l e 0 most
 have hrg:=qs l e most
 generalize hQ:aW most l e=Q at *
 unfold aW at hQ
 generalize af 0 most l e=q at *
 obtain⟨m,l',e'⟩:=q
 simp only at hN hQ hrg
 by_cases h0:e'=0
 ·subst h0
  obtain⟨h1,h2⟩:=hrg rfl
  rw[V3 au]at hQ
  by_cases h3:(l'.length:Int)<m
  ·rw[V6 h3]at hQ
   subst hQ
   refine dH func195 ntmps195 ?_
   (refine T4 (zg l e) hN (m1 l' 0) (uG l' 0) (LJ l 0 10) ?_;repeat' first|apply ah|refine ai fun hc=>?_)
   refine gM ?_
   exact oh rfl rfl
  ·rw[V3 h3]at hQ
   subst hQ
   obtain⟨k,rfl⟩:=Int.eq_ofNat_of_zero_le h1
   have hk:k≤l'.length:=ab
   refine dH func195 ntmps195 ?_
   (refine mZ (zg l e) hN (m1 l' 0) (uG l' 0) ?_;repeat' first|apply ah|refine ai fun hc=>?_)
   refine gM ?_
   ·exact oh rfl rfl
 ·rw[V6 h0]at hQ
  subst hQ
  refine dH func195 ntmps195 ?_
  (refine dF (zg l e) hN (m1 l' e') ?_;repeat' first|apply ah|refine ai fun hc=>?_)
  refine gM ?_
  exact oh rfl rfl
theorem lO (hl:l.length≤1000000000):dh prog 66 [dS l] [] (.ptr 3000 0 0) [(3000,ct l 0)]:=by
 refine dH func66 ntmps66 ?_
 (refine w0 ?_)
 refine⟨.inl rfl,F5 (jj 3 _ 5 1 rfl rfl) ?_⟩
 refine gq [(8,3000)] rfl rfl ?_ (um rfl rfl)
 (repeat (first|exact eh.nil|(refine eh.cons rfl ?_ ?_;(focus first|rfl|skip))))
end
theorem bX (l:List UInt8)(e:Int):(aO l e).2.1 <:+ l:=by
 unfold aO
 split
 ·exact WM l
 ·split
  ·exact WM l
  ·exact List.drop_suffix _ _
theorem ao (lo hi:Int)(l:List UInt8)(e:Int):(af lo hi l e).2.1 <:+ l:=by
 unfold af
 split
 ·exact WM l
 ·exact bX l e
theorem bN (most:Int)(l:List UInt8)(e:Int):(aW most l e).2.1 <:+ l:=by
 unfold aW
 split
 ·exact ao 0 most l e
 ·split
  ·exact WM l
  ·exact(List.drop_suffix _ _).trans (ao 0 most l e)
theorem nG {b l:List UInt8}(h:l <:+ b):b.drop (b.length-l.length)=l∧l.length≤b.length:=by
 obtain⟨t,rfl⟩:=h
 simp
abbrev dQ (b l:List UInt8)(e:Int):Blk:=.box 102 [.per (aK b),iC .i64 ((b.length-l.length:Nat):Int),iC .i64 e]
theorem rJ (l:List UInt8):(bv l).1≤281474976710656∧(bv l).2.1≤l.length∧(bv l).2.1≤8∧((bv l).2.2≠0→(bv l).1=0∧(bv l).2.1=0):=by
 unfold bv
 have:=tA l
 split
 ·simp
 ·split
  ·simp
  ·split
   ·simp
   ·rename_i h1 h2 h3
    refine⟨?_,aA,aA,fun h=>absurd rfl h⟩
    unfold kg at h3
    simp only;omega
theorem LK (n:Int):Fn prog 186 [iC .i64 n] (dq (decide (0≤n∧n≤281474976710656))):=by
 refine fi func186 ntmps186 ?_
 (refine w0 ?_;repeat' first|apply ah|refine ai fun hc=>?_)
 all_goals refine dw ?_
 ·exact aL rfl bn
 ·exact aL rfl bn
theorem LL (b:List UInt8):Fn prog 110 [dS b] (.tup3 (.per (ak (.int .i64 ((bv b).1:Nat)))) (.per (ak (.int .i64 ((bv b).2.1:Nat)))) (.per (ak (.int .i64 (bv b).2.2)))):=by
 have hll:=tA b
 generalize hQ:bv b=Q at *
 refine fi func110 ntmps110 ?_
 (refine w0 ?_)
 refine aj (fun k=>k≤cM b∧k≤8) (fun k=>ay [(0,dS b),(5,iC .i64 (k:Nat))] []) (fun k=>8-k) 0 ⟨Wa _,ab⟩ ?_
 rintro k ⟨hk,hk8⟩
 have hst:=oE b k
 by_cases hkl:k<b.length
 ·have h1:=hst hkl hk
  by_cases hk7:k<8
  ·by_cases hbig:128≤b[k].toNat
   ·have h2:=h1.1 hbig
    (refine w0 ?_;repeat' first|apply ah|refine ai fun hc=>?_)
    refine⟨k+1,⟨ab,ab⟩,ab,?_⟩
    exact ae
   ·have h2:=h1.2 ab
    clear h1 hst
    have h128:∀k,k≤cM b+1→dW ((b.take (cM b+1)).drop k)≤72057594037927935:=by
     intro k hk
     have h1:=BW ((b.take (cM b+1)).drop k)
     have h2:(128:Nat) ^ ((b.take (cM b+1)).drop k).length≤128 ^ 8:=Nat.pow_le_pow_right bz bn
     have h3:(128:Nat) ^ 8=72057594037927936:=bz
     omega
    have hbad:kg b↔((k>0∧b[k].toNat=0)∨dW (b.take (k+1))>281474976710656):=by
     unfold kg
     have h0:b[cM b]?=some 0↔b[k].toNat=0:=by
      rw[h2,V4 hkl,Option.some.injEq,←Xj];rfl
     rw[h0,h2]
    rw[h2]at h128
    have hQ2:Q=if kg b then(0,0,11)else(dW (b.take (k+1)),k+1,0):=by
     rw[←hQ]
     unfold bv
     rw[V3 ab,V3 ab,h2]
    clear hQ
    (refine w0 ?_;repeat' first|apply ah|refine ai fun hc=>?_)
    refine bZ (fun j=>j≤k+1) (fun j=>ay [(0,dS b),(5,iC .i64 (k:Nat)),(6,iC .i64 (dW ((b.take (k+1)).drop j):Nat)),(7,iC .i64 ((j:Int)-1))] []) (fun j=>j) (k+1) (V8 _) ?_ ?_
    ·have h0:(b.take (k+1)).drop (k+1)=[]:=au
     rw[h0]
     exact ae
    ·intro j hj
     cases j with
     | succ j=>
      have hv:=uF (b.take (k+1)) j bn
      have hb1:=h128 j ab
      have hb2:=h128 (j+1) ab
      rw[List.getElem_take]at hv
      rw[show((j+1:Nat):Int)-1=(j:Int)by omega]
      (refine w0 ?_;repeat' first|apply ah|refine ai fun hc=>?_)
      refine⟨j,ab,ab,?_⟩
      exact ae
     | zero=>
      rw[Xw]
      have hb1:=h128 0 ab
      rw[Xw]at hb1
      (refine w0 ?_;repeat' first|apply ah|refine ai fun hc=>?_|((first|apply aB rfl|apply aC rfl|apply aD rfl|apply aF rfl);(focus ((try (apply bI;(focus rfl);apply ag rfl rfl rfl rfl rfl));first|exact nf (LK _)));refine w0 ?_))
      ·rw[V6 (hbad.2 (.inl ⟨ab,ab⟩))]at hQ2
       subst hQ2
       refine⟨.inl rfl,lr rfl (al rfl rfl) (al rfl rfl) (al rfl rfl)⟩
      ·rw[V6 (hbad.2 (.inr ab))]at hQ2
       subst hQ2
       refine⟨.inl rfl,lr rfl (al rfl rfl) (al rfl rfl) (al rfl rfl)⟩
      ·rw[V3 (fun h=>by have:=hbad.1 h;omega)]at hQ2
       subst hQ2
       refine⟨.inl rfl,lr rfl (al rfl rfl) (al rfl rfl) (al rfl rfl)⟩
      ·rw[V6 (hbad.2 (.inr ab))]at hQ2
       subst hQ2
       refine⟨.inl rfl,lr rfl (al rfl rfl) (al rfl rfl) (al rfl rfl)⟩
      ·rw[V3 (fun h=>by have:=hbad.1 h;omega)]at hQ2
       subst hQ2
       refine⟨.inl rfl,lr rfl (al rfl rfl) (al rfl rfl) (al rfl rfl)⟩
  ·have hQ2:Q=(0,0,11):=by
    rw[←hQ];unfold bv;rw[V6 ab]
   subst hQ2
   (refine w0 ?_;repeat' first|apply ah|refine ai fun hc=>?_)
   refine⟨.inl rfl,lr rfl (al rfl rfl) (al rfl rfl) (al rfl rfl)⟩
 ·by_cases h8:k=8
  ·have hQ2:Q=(0,0,11):=by
    rw[←hQ];unfold bv;rw[V6 ab]
   subst hQ2
   (refine w0 ?_;repeat' first|apply ah|refine ai fun hc=>?_)
   refine⟨.inl rfl,lr rfl (al rfl rfl) (al rfl rfl) (al rfl rfl)⟩
  ·have hQ2:Q=(0,0,10):=by
    rw[←hQ];unfold bv;rw[V3 ab,V6 ab]
   subst hQ2
   (refine w0 ?_;repeat' first|apply ah|refine ai fun hc=>?_)
   refine⟨.inl rfl,lr rfl (al rfl rfl) (al rfl rfl) (al rfl rfl)⟩
theorem VN {b l l':List UInt8}(h:l <:+ b){k:Nat}(hk:k≤l.length)(h':l'=l.drop k):b.length-l.length+k=b.length-l'.length:=by
 have:=(nG h).2
 rw[h',Xb];omega
theorem uH {lo hi:Int}{l:List UInt8}{e:Int}(h:e≠0):af lo hi l e=(0,l,e):=by
 unfold af aO
 simp[h]
theorem uI (lo hi:Int)(l:List UInt8):af lo hi l 0=if(bv l).2.2≠0 then(0,l,(bv l).2.2)else if((bv l).1:Int)<lo∨hi<((bv l).1:Int)then(0,l,11)else(((bv l).1:Int),l.drop (bv l).2.1,0):=by
 unfold af aO
 by_cases h:(bv l).2.2=0
 ·simp[h]
 ·simp[h]
section
variable (b l:List UInt8) (e:Int) (hs:l <:+ b) (hb:b.length≤1000000000000)
include hs hb
theorem bd (lo hi:Int):dh prog 51 [lN,iC .i64 lo,iC .i64 hi] [(1000,dQ b l e)] (iC .i64 (af lo hi l e).1) [(1000,dQ b (af lo hi l e).2.1 (af lo hi l e).2.2)]:=by
 obtain⟨hd,hlen⟩:=nG hs
 have hn:=LL (b.drop (b.length-l.length))
 rw[show bv (b.drop (b.length-l.length))=bv l by rw[hd]]at hn
 obtain⟨r1,r2,r3,r4⟩:=rJ l
 by_cases h0:e=0
 ·subst h0
  rw[uI]
  have ha:=VN hs r2 rfl
  generalize bv l=q at *
  obtain⟨m,k,e'⟩:=q
  simp only at hn r1 r2 r3 r4 ha ⊢
  by_cases h1:e'=0
  ·subst h1
   rw[V3 au]
   by_cases h2:(m:Int)<lo∨hi<(m:Int)
   ·rw[V6 h2]
    refine dH func51 ntmps51 ?_
    (refine aq hn ?_;repeat' first|apply ah|refine ai fun hc=>?_)
    all_goals refine gM ?_
    all_goals exact bm rfl rfl
   ·rw[V3 h2]
    refine dH func51 ntmps51 ?_
    (refine aq hn ?_;repeat' first|apply ah|refine ai fun hc=>?_)
    rw[show((b.length-l.length:Nat):Int)+(k:Int)=((b.length-(l.drop k).length:Nat):Int)by omega]
    refine gM ?_
    exact bm rfl rfl
  ·rw[V6 h1]
   obtain⟨rfl,rfl⟩:=r4 h1
   refine dH func51 ntmps51 ?_
   (refine aq hn ?_;repeat' first|apply ah|refine ai fun hc=>?_)
   refine gM ?_
   exact bm rfl rfl
 ·rw[uH h0]
  refine dH func51 ntmps51 ?_
  (refine w0 ?_;repeat' first|apply ah|refine ai fun hc=>?_)
  refine gM ?_
  exact bm rfl rfl
omit hb in
theorem kK:dh prog 54 [lN] [(1000,dQ b l e)] (iC .i64 (di l e)) [(1000,dQ b l e)]:=by
 obtain⟨hd,hlen⟩:=nG hs
 unfold di
 refine dH func54 ntmps54 ?_
 (refine w0 ?_;repeat' first|apply ah|refine ai fun hc=>?_)
 all_goals (refine⟨(by first|exact .inl rfl|exact .inr rfl),gq [(1000,1000)] rfl rfl ?_ ?_⟩;(focus (repeat (first|exact eh.nil|(refine eh.cons rfl ?_ ?_;(focus first|rfl|skip))))))
 ·exact bm rfl (by rw[V6 ab])
 ·exact bm rfl (by rw[V3 ab])
 ·exact bm rfl (by rw[V3 ab])
theorem gr (most:Int):dh prog 53 [lN,iC .i64 most] [(1000,dQ b l e)] (sC ⟨(aW most l e).1.toArray⟩) [(1000,dQ b (aW most l e).2.1 (aW most l e).2.2)]:=by
 obtain⟨hd,hlen⟩:=nG hs
 have hW:=bd b l e hs hb 0 most
 have hrg:=qs l e most
 have hsuf:=(ao 0 most l e).trans hs
 generalize hQ:aW most l e=Q at *
 unfold aW at hQ
 generalize af 0 most l e=q at *
 obtain⟨m,l',e'⟩:=q
 simp only at hW hQ hrg hsuf
 obtain⟨hd',hlen'⟩:=nG hsuf
 by_cases h0:e'=0
 ·subst h0
  obtain⟨h1,h2⟩:=hrg rfl
  rw[V3 au]at hQ
  by_cases h3:(l'.length:Int)<m
  ·rw[V6 h3]at hQ
   subst hQ
   refine dH func53 ntmps53 ?_
   (refine dy hW ?_;repeat' first|apply ah|refine ai fun hc=>?_)
   refine gM ?_
   exact oh rfl rfl
  ·rw[V3 h3]at hQ
   subst hQ
   obtain⟨k,rfl⟩:=Int.eq_ofNat_of_zero_le h1
   have hk:k≤l'.length:=ab
   refine dH func53 ntmps53 ?_
   (refine dy hW ?_;repeat' first|apply ah|refine ai fun hc=>?_)
   rw[show((b.length-l'.length:Nat):Int)+(k:Int)=((b.length-(l'.drop k).length:Nat):Int)by rw[Xb];omega,show b.length-l'.length+k-(b.length-l'.length)=k by omega,hd']
   refine gM ?_
   exact oh rfl rfl
 ·rw[V6 h0]at hQ
  subst hQ
  refine dH func53 ntmps53 ?_
  (refine dy hW ?_;repeat' first|apply ah|refine ai fun hc=>?_)
  refine gM ?_
  exact oh rfl rfl
end
end Go.Proofs.YtaclhhkblbacgaaGreat
