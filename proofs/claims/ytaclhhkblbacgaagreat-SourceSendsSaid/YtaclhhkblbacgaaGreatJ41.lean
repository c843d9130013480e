/- Texts joined: Law19L MsL MsQ MixR CrcW. -/
import Derived.Test.YtaclhhkblbacgaaGreatJ18
import Derived.Laws.BitsAllLaws
set_option maxRecDepth 10000
set_option maxHeartbeats 8000000
namespace Go.Proofs.YtaclhhkblbacgaaGreat
open Go.RowKit Go.Proofs.Tryz
variable {l:List It} {m:Msg} {i:Nat} {x:Operand}
theorem Fw (a b:ByteArray):a.extract 0 (cR a b)++mL b (cR a b)=b:=by
 have key:∀(l m:List UInt8),l.take (fh l m)=m.take (fh l m):=by
  intro l
  induction l with
  | nil=>intro m;simp[fh]
  | cons x l ih=>
   intro m
   cases m with
   | nil=>simp[fh]
   | cons y m=>
    unfold fh
    split
    ·rename_i h;rw[List.take_succ_cons,List.take_succ_cons,h,ih]
    ·simp
 have h1:(a.extract 0 (cR a b)++mL b (cR a b)).data.toList=b.data.toList:=by
  rw[ByteArray.data_append,Array.toList_append,mI]
  unfold mL
  rw[ByteArray.data_extract,Array.toList_extract]
  unfold cR
  rw[key]
  simp only[List.extract]
  rw[Wd (l:=List.drop _ _) au,WL]
 cases b with|mk d=>
 cases hh:(a.extract 0 (cR a ⟨d⟩)++mL ⟨d⟩ (cR a ⟨d⟩))with|mk d'=>
 rw[hh]at h1
 simp only at h1
 rw[Array.toList_inj.1 h1]
theorem Td:∀(l:List It)(was:ByteArray)(acc:List It)(r:List UInt8),l.all eC=true→was.size≤16→gU l.length was true acc (fY was l++r) 0=(acc++l,true,r,0):=by
 intro l
 induction l with
 | nil=>intro was acc r _ _;simp[gU,fY]
 | cons x l ih=>
  intro was acc r hall hw
  rw[List.all_cons,Wi]at hall
  obtain⟨hx,hl⟩:=hall
  have hk:=fF hx
  have hal:=g8 was x.key
  rw[Wh,gU,V3 au]
  have hkey:jT was (fY was (x::l)++r) 0=((cR was x.key:Int),x.key,iU x++(fY x.key l++r),0):=by
   dsimp only [jT]
   rw[fY,V9,V9,V9]
   rw[cc (by unfold bL;omega) ab ab]
   dsimp only
   rw[lM (by rw[eD];omega) (by rw[eD];omega)]
   dsimp only
   rw[Ek,Int.toNat_natCast,Fw]
  rw[hkey]
  dsimp only
  rw[LN hx]
  dsimp only
  rw[hx]
  simp only[Bool.and_self,beq_self_eq_true]
  rw[ih _ _ _ hl ab]
  simp
theorem Da (h:l.all eC=true)(hl:l.length≤4096):dd (fG l)=(l,0):=by
 unfold dd sP fG
 dsimp only
 rw[cc (by unfold bL;omega) ab ab]
 dsimp only
 rw[Int.toNat_natCast]
 have:=Td l s0 [] [] h bz
 rw[Wg]at this
 rw[this]
 simp[sQ,di]
theorem Te {a b:ByteArray}(h:a.data.toList=b.data.toList):a=b:=by
 cases a;cases b
 simp only at h
 rw[Array.toList_inj.1 h]
theorem Oj (a b:ByteArray)(n:Nat)(h:n=a.size):mL (a++b) n=b:=by
 apply Te
 unfold mL
 rw[ByteArray.data_extract,Array.toList_extract,ByteArray.data_append,Array.toList_append]
 simp only[List.extract]
 have hl:a.data.toList.length=n:=by rw[h];simp
 rw[List.drop_append_of_le_length ab,Wv ab,Wu,Wd]
 rw[ByteArray.size_append,h]
 simp
theorem Q7:∀(n:Nat)(was:ByteArray)(f:Bool)(acc:List It)(l:List UInt8)(e:Int),(gU n was f acc l e).2.2.2=0→(gU n was f acc l e).2.1=true →
 e=0∧f=true∧∃m:List It,(gU n was f acc l e).1=acc++m∧m.length=n∧m.all eC=true∧l=fY was m++(gU n was f acc l e).2.2.1:=by
 intro n
 induction n with
 | zero=>intro was f acc l e h1 h2;exact⟨h1,h2,[],by simp[gU],rfl,rfl,by simp[gU,fY]⟩
 | succ n ih=>
  intro was f acc l e h1 h2
  unfold gU at h1 h2 ⊢
  by_cases he:e=0
  ·subst he
   rw[V3 au]at h1 h2 ⊢
   dsimp only at h1 h2 ⊢
   obtain⟨g1,g2,m,g3,g4,g5,g6⟩:=ih _ _ _ _ _ h1 h2
   rw[Wi,Wi,beq_iff_eq]at g2
   obtain⟨⟨q1,q2⟩,q3⟩:=g2
   obtain⟨r1,r2,r3⟩:=Il g1
   have hks:=pI was l 0
   have hkd:jT was l 0=((af 0 was.size l 0).1,was.extract 0 (af 0 was.size l 0).1.toNat++⟨(aW 16 (af 0 was.size l 0).2.1 (af 0 was.size l 0).2.2).1.toArray⟩,(aW 16 (af 0 was.size l 0).2.1 (af 0 was.size l 0).2.2).2.1,(aW 16 (af 0 was.size l 0).2.1 (af 0 was.size l 0).2.2).2.2):=rfl
   refine⟨rfl,q1,(eU (jT was l 0).2.1 (jT was l 0).2.2.1 (jT was l 0).2.2.2).1::m,by rw[g3];simp,by simp[g4],by simp[q2,g5],?_⟩
   generalize hX:eU (jT was l 0).2.1 (jT was l 0).2.2.1 (jT was l 0).2.2.2=X at *
   rw[fY,r3]
   generalize hK:jT was l 0=K at *
   obtain⟨k0,k1,k2,k3⟩:=K
   simp only at hks q3 r1 r2 r3 g6 ⊢
   cases hkd
   obtain⟨t1,_,t3⟩:=ky r1
   obtain⟨_,_,_,_,w5⟩:=bt t1
   generalize af 0 was.size l 0=S at *
   generalize aW 16 S.2.1 S.2.2=T at *
   obtain⟨_,hk2,hk3⟩:=hks
   have hn:cR was (was.extract 0 S.1.toNat++⟨T.1.toArray⟩)=S.1.toNat:=ab
   rw[q3]at g6
   rw[q3,hn,Oj _ _ _ bn,V9,V9,V9,←g6,←r2,←t3,←w5]
  ·rw[V6 he]at h1
   exact absurd h1 he
theorem ks {b:List UInt8}(h:(dd b).2=0):(dd b).1.all eC=true∧(dd b).1.length≤4096∧fG (dd b).1=b:=by
 unfold dd sQ at h ⊢
 split at h
 ·rename_i hc;exact absurd h hc
 ·rename_i hc
  rw[V3 hc]
  split at h
  ·simp at h
  ·rename_i hf
   rw[V3 hf]
   obtain⟨e1,e2⟩:=uE (by simpa using hc)
   have hf':(sP b 0).2.1=true:=by simpa using hf
   unfold sP at e1 e2 hf' ⊢
   dsimp only at e1 e2 hf' ⊢
   obtain⟨g1,_,m,g3,g4,g5,g6⟩:=Q7 _ _ _ _ _ _ e2 hf'
   obtain⟨_,w2,w3,w4,w5⟩:=bt g1
   rw[g3,Wu]
   refine⟨g5,ab,?_⟩
   rw[e1,Wg]at g6
   unfold fG
   rw[g4,←g6,Xu w3,←w5]
theorem du {n:Int}(h:bJ n=true):bL n:=by
 unfold bJ at h
 exact(of_decide_eq_true h:0≤n∧n≤281474976710656)
theorem gL {n:Int}(h:bL n):bJ n=true:=by
 unfold bJ
 exact Wb (show 0≤n∧n≤281474976710656 from h)
theorem tR (b:Bool):bL (iZ b)∧0≤iZ b∧iZ b≤1∧(iZ b==1)=b:=by cases b<;>exact⟨⟨bz,bz⟩,bz,bz,bz⟩
theorem Tf {k s n:Int}(h1:1≤k)(h2:k≤6)(h3:1≤s)(h4:bJ s=true)(h5:bJ n=true)(r:List UInt8):ca (aJ k++(aJ s++(aJ n++r)))=({ kind:=k,ses:=s,num:=n },r,0):=by
 have h4':=du h4
 unfold ca
 rw[cc ⟨ab,ab⟩ h1 h2]
 dsimp only
 rw[cc h4' h3 h4'.2]
 dsimp only
 rw[lb (du h5)]
theorem Tg:∀(ps:List (List UInt8)),(∀p∈ps,p.length≤1000000000)→gc ps.length (ps.flatMap txB) 0=(ps,[],0):=by
 intro ps
 induction ps with
 | nil=>intro _;rfl
 | cons p ps ih=>
  intro h
  have hp:=h p au
  have hs:(⟨p.toArray⟩:ByteArray).size=p.length:=by simp[ByteArray.size]
  rw[Wh,List.flatMap_cons,gc,show txB p=bu ⟨p.toArray⟩from rfl,lM (by rw[hs];show(p.length:Int)≤281474976710656;omega) (by rw[hs];omega)]
  dsimp only
  rw[ih (fun q hq=>h q (Ww _ hq))]
def Jy (m:Msg):Msg:=
 if m.kind=1 then { kind:=1,ses:=m.ses,num:=m.num,lim:=m.lim,seed:=m.seed,bits:=m.bits,wants:=m.wants }
 else if m.kind=2 then { kind:=2,ses:=m.ses,num:=m.num,same:=m.same }
 else if m.kind=3 then { kind:=3,ses:=m.ses,num:=m.num,nxt:=m.nxt }
 else if m.kind=5 then { kind:=5,ses:=m.ses,num:=m.num,nxt:=m.nxt,last:=m.last }
 else if m.kind=6 then { kind:=6,ses:=m.ses,num:=m.num,err:=m.err }
 else { kind:=m.kind,ses:=m.ses,num:=m.num }
theorem oU (h:j8 m=true):1≤m.ses∧bJ m.ses=true∧bJ m.num=true∧1≤m.kind∧m.kind≤6 ∧
 (m.kind=1→bJ m.lim=true∧bJ m.seed=true∧0≤m.bits∧m.bits≤64∧cb m.flt∧aX m.know∧(m.there=[]∨(nb m.there).2=0)) ∧
 (m.kind=3→bJ m.nxt=true)∧(m.kind=4→fX m.rg=true) ∧
 (m.kind=5→bJ m.nxt=true∧m.its.length≤4096∧wF m.its=true∧aX m.know∧(m.last=true∨m.know=[]))∧(m.kind=6→1≤m.err∧bJ m.err=true):=by
 unfold j8 at h
 simp only[Wi,Wn]at h
 obtain⟨⟨⟨h1,h2⟩,h3⟩,h4⟩:=h
 refine⟨h1,h2,h3,?_⟩
 by_cases k1:m.kind=1
 ·rw[V6 k1]at h4
  simp only[Wi,WN,Wn]at h4
  exact⟨ab,ab,fun _=>⟨h4.1.1.1.1.1,h4.1.1.1.1.2,h4.1.1.1.2.1,h4.1.1.1.2.2,h4.1.1.2,h4.1.2,h4.2⟩,fun q=>ab,fun q=>ab,fun q=>ab,fun q=>ab⟩
 rw[V3 k1]at h4
 by_cases k3:m.kind=3
 ·rw[V6 k3]at h4
  exact⟨ab,ab,fun q=>absurd q k1,fun _=>h4,fun q=>ab,fun q=>ab,fun q=>ab⟩
 rw[V3 k3]at h4
 by_cases k4:m.kind=4
 ·rw[V6 k4]at h4
  exact⟨ab,ab,fun q=>absurd q k1,fun q=>absurd q k3,fun _=>h4,fun q=>ab,fun q=>ab⟩
 rw[V3 k4]at h4
 by_cases k5:m.kind=5
 ·rw[V6 k5]at h4
  simp only[Wi,WN,Wn]at h4
  exact⟨ab,ab,fun q=>absurd q k1,fun q=>absurd q k3,fun q=>absurd q k4,fun _=>⟨h4.1.1.1.1,h4.1.1.1.2,h4.1.1.2,h4.1.2,h4.2⟩,fun q=>ab⟩
 rw[V3 k5]at h4
 simp only[Wi,WN,Wn]at h4
 refine⟨ab,ab,fun q=>absurd q k1,fun q=>absurd q k3,fun q=>absurd q k4,fun q=>absurd q k5,fun q=>?_⟩
 rcases h4 with h4|h4
 ·omega
 ·exact⟨h4.1.2,h4.2⟩
theorem Th (h:j8 m=true)(r:List UInt8):d0 { kind:=m.kind,ses:=m.ses,num:=m.num } (((cV m).drop 3).flatMap aJ++r) 0=(Jy m,r,0):=by
 obtain⟨h1,h2,h3,h4,h5,k1,k3,k4,k5,k6⟩:=oU h
 have e:(cV m).drop 3=(if m.kind=1 then [m.lim,m.seed,m.bits,iZ m.wants]else if m.kind=2 then [iZ m.same]else if m.kind=3 then [m.nxt]else if m.kind=5 then [m.nxt,iZ m.last]else if m.kind=6 then [m.err]else []):=rfl
 rw[e]
 unfold d0 Jy
 dsimp only
 by_cases c1:m.kind=1
 ·obtain⟨a1,a2,a3,a4,_⟩:=k1 c1
  obtain⟨b1,b2,b3,b4⟩:=tR m.wants
  rw[V6 c1,V6 c1,V6 c1]
  simp only[List.flatMap_cons,WC,Wg,V9]
  rw[lb (du a1)]
  dsimp only
  rw[lb (du a2)]
  dsimp only
  rw[cc ⟨ab,ab⟩ a3 a4]
  dsimp only
  rw[cc b1 b2 b3]
  dsimp only
  rw[b4,c1]
 rw[V3 c1,V3 c1,V3 c1]
 by_cases c2:m.kind=2
 ·obtain⟨b1,b2,b3,b4⟩:=tR m.same
  rw[V6 c2,V6 c2,V6 c2]
  simp only[List.flatMap_cons,WC,Wg]
  rw[cc b1 b2 b3]
  dsimp only
  rw[b4,c2]
 rw[V3 c2,V3 c2,V3 c2]
 by_cases c3:m.kind=3
 ·rw[V6 c3,V6 c3,V6 c3]
  simp only[List.flatMap_cons,WC,Wg]
  rw[lb (du (k3 c3))]
  dsimp only
  rw[c3]
 rw[V3 c3,V3 c3,V3 c3]
 by_cases c5:m.kind=5
 ·obtain⟨b1,b2,b3,b4⟩:=tR m.last
  rw[V6 c5,V6 c5,V6 c5]
  simp only[List.flatMap_cons,WC,Wg,V9]
  rw[lb (du (k5 c5).1)]
  dsimp only
  rw[cc b1 b2 b3]
  dsimp only
  rw[b4,c5]
 rw[V3 c5,V3 c5,V3 c5]
 by_cases c6:m.kind=6
 ·obtain⟨a1,a2⟩:=k6 c6
  have a2:=du a2
  rw[V6 c6,V6 c6,V6 c6]
  simp only[List.flatMap_cons,WC,Wg]
  rw[cc a2 a1 a2.2]
  dsimp only
  rw[c6]
 rw[V3 c6,V3 c6,V3 c6]
 rfl
theorem Db (s:Nat)(h:s<18446744073709551616):fJ (Ap s)=s:=by
 unfold Ap
 simp only[List.range,List.range.loop,List.map_cons,List.map_nil,fJ,Xd]
 omega
theorem Ol {l:List UInt8}(h:l.length=8):Ap (fJ l)=l:=by
 have hl:(Ap (fJ l)).length=l.length:=by rw[h];simp[Ap]
 have:=zr l
 rw[h]at this
 exact Mt hl (Db _ this)
theorem z8:∀{l:List It},wF l=true→l.all eC=true:=by
 intro l
 induction l with
 | nil=>intro _;rfl
 | cons x l ih=>
  intro h
  rw[wF,Wi,Wi]at h
  rw[List.all_cons,Wi]
  exact⟨h.1,ih h.2.2⟩
theorem sq {r:Rg}(h:fX r=true):cb [r]:=fun i hi=>by
 have hi:i=0:=by simpa using hi
 subst hi
 exact⟨h,fun h0=>absurd h0 (Nat.lt_irrefl 0)⟩
theorem Ti (h:j8 m=true)(hf:m.flt.length≤4096)(hk:sV m.know)(hl:m.know.length≤4096)(hs:m.sum<18446744073709551616):ej (Jy m) (eu m)=(nK m,0):=by
 obtain⟨h1,h2,h3,h4,h5,k1,k3,k4,k5,k6⟩:=oU h
 unfold ej Jy nK eu
 by_cases c1:m.kind=1
 ·obtain⟨a1,a2,a3,a4,a5,a6,a7⟩:=k1 c1
  simp only[c1,Xq,Xm,List.getD_cons_succ]
  rw[xD a5 hf,uM a6 hk hl]
  simp
 by_cases c4:m.kind=4
 ·have a:=k4 c4
  simp[c4]
  rw[xD (sq a) au]
  have:(Ap m.sum).length=8:=by simp[Ap]
  simp[this,SI,Db _ hs]
 by_cases c5:m.kind=5
 ·obtain⟨a1,a2,a3,a4,a5⟩:=k5 c5
  simp[c5]
  rw[Da (z8 a3) a2,uM a4 hk hl]
  simp
 by_cases c2:m.kind=2
 ·simp[c2]
 by_cases c3:m.kind=3
 ·simp[c3]
 by_cases c6:m.kind=6
 ·simp[c6]
 ·omega
theorem Jz (m:Msg):j8 (nK m)=j8 m:=by
 unfold nK
 by_cases c1:m.kind=1
 ·rw[V6 c1];unfold j8;simp[c1]
 rw[V3 c1]
 by_cases c2:m.kind=2
 ·rw[V6 c2];unfold j8;simp[c2]
 rw[V3 c2]
 by_cases c3:m.kind=3
 ·rw[V6 c3];unfold j8;simp[c3]
 rw[V3 c3]
 by_cases c4:m.kind=4
 ·rw[V6 c4];unfold j8;simp[c4]
 rw[V3 c4]
 by_cases c5:m.kind=5
 ·rw[V6 c5];unfold j8;simp[c5]
 rw[V3 c5]
 by_cases c6:m.kind=6
 ·rw[V6 c6];unfold j8;simp[c6]
 rw[V3 c6];unfold j8;simp[c1,c2,c3,c4,c5,c6]
theorem JA (m:Msg):(Jy m).kind=m.kind:=by
 unfold Jy
 split
 ·rename_i h;exact h.symm
 split
 ·rename_i h;exact h.symm
 split
 ·rename_i h;exact h.symm
 split
 ·rename_i h;exact h.symm
 split
 ·rename_i h;exact h.symm
 ·rfl
theorem JB (m:Msg):(eu m).length=gn m.kind:=by
 unfold eu gn
 by_cases c1:m.kind=1
 ·simp[c1]
 by_cases c4:m.kind=4
 ·simp[c4]
 by_cases c5:m.kind=5
 ·simp[c5]
 ·simp[c1,c4,c5]
theorem Om (h:j8 m=true)(hf:m.flt.length≤4096)(hk:sV m.know)(hl:m.know.length≤4096)(hs:m.sum<18446744073709551616)(hp:∀p∈eu m,p.length≤1000000000):zt (gv m)=(nK m,0):=by
 obtain⟨h1,h2,h3,h4,h5,_⟩:=oU h
 have e:gv m=aJ m.kind++(aJ m.ses++(aJ m.num++(((cV m).drop 3).flatMap aJ++(eu m).flatMap txB))):=by
  have:cV m=[m.kind,m.ses,m.num]++(cV m).drop 3:=rfl
  unfold gv
  rw[this]
  simp
 unfold zt
 rw[e,Tf h4 h5 h1 h2 h3]
 dsimp only
 rw[Th h]
 dsimp only
 rw[JA,←JB,Tg _ hp]
 dsimp only
 rw[V3 (by simp[di]),Ti h hf hk hl hs]
 dsimp only
 rw[V3 au,V6 (by rw[Jz];exact h)]
theorem sr {n:Int}(h0:0≤n)(h1:n≤1):iZ (n==1)=n:=by
 by_cases c:n=1
 ·subst c;rfl
 ·have:n=0:=ab
  subst this;rfl
theorem Q8 {l:List UInt8}{e:Int}(h:(d0 m l e).2.2=0):e=0∧l=((cV (d0 m l e).1).drop 3).flatMap aJ++(d0 m l e).2.1∧(d0 m l e).1.kind=m.kind∧(d0 m l e).1.ses=m.ses∧(d0 m l e).1.num=m.num:=by
 have e0:∀m:Msg,(cV m).drop 3=(if m.kind=1 then [m.lim,m.seed,m.bits,iZ m.wants]else if m.kind=2 then [iZ m.same]else if m.kind=3 then [m.nxt]else if m.kind=5 then [m.nxt,iZ m.last]else if m.kind=6 then [m.err]else []):=fun _=>rfl
 rw[e0]
 unfold d0 at h ⊢
 by_cases c1:m.kind=1
 ·simp only[V6 c1]at h ⊢
  obtain⟨d1,_,d3,d4,d5⟩:=bt h
  obtain⟨c1',_,_,_,c5⟩:=bt d1
  obtain⟨b1,_,b3⟩:=eJ c1'
  obtain⟨a1,_,a3⟩:=eJ b1
  refine⟨a1,?_,au⟩
  simp only[List.flatMap_cons,WC,Wg,V9]
  rw[sr d3 d4,←d5,←c5,←b3,←a3]
 simp only[V3 c1]at h ⊢
 by_cases c2:m.kind=2
 ·simp only[V6 c2]at h ⊢
  obtain⟨d1,_,d3,d4,d5⟩:=bt h
  refine⟨d1,?_,au⟩
  simp only[V3 c1,List.flatMap_cons,WC,Wg]
  rw[sr d3 d4,←d5]
 simp only[V3 c2]at h ⊢
 by_cases c3:m.kind=3
 ·simp only[V6 c3]at h ⊢
  obtain⟨a1,_,a3⟩:=eJ h
  refine⟨a1,?_,au⟩
  simp only[V3 c1,V3 c2,List.flatMap_cons,WC,Wg]
  rw[←a3]
 simp only[V3 c3]at h ⊢
 by_cases c5:m.kind=5
 ·simp only[V6 c5]at h ⊢
  obtain⟨d1,_,d3,d4,d5⟩:=bt h
  obtain⟨a1,_,a3⟩:=eJ d1
  refine⟨a1,?_,au⟩
  simp only[V3 c1,V3 c2,V3 c3,List.flatMap_cons,WC,Wg,V9]
  rw[sr d3 d4,←d5,←a3]
 simp only[V3 c5]at h ⊢
 by_cases c6:m.kind=6
 ·simp only[V6 c6]at h ⊢
  obtain⟨a1,_,_,_,a3⟩:=bt h
  refine⟨a1,?_,au⟩
  simp only[V3 c1,V3 c2,V3 c3,V3 c5,List.flatMap_cons,WC,Wg]
  rw[←a3]
 simp only[V3 c6]at h ⊢
 refine⟨h,?_,au⟩
 simp only[V3 c1,V3 c2,V3 c3,V3 c5,WC,Wu]
theorem Q9:∀(n:Nat)(l:List UInt8)(e:Int),(gc n l e).2.2=0→e=0∧l=(gc n l e).1.flatMap txB++(gc n l e).2.1∧(gc n l e).1.length=n:=by
 intro n
 induction n with
 | zero=>intro l e h;exact⟨h,rfl,rfl⟩
 | succ n ih=>
  intro l e h
  rw[gc]at h ⊢
  dsimp only at h ⊢
  obtain⟨h1,h2,h3⟩:=ih _ _ h
  obtain⟨a1,_,a3⟩:=ky h1
  refine⟨a1,?_,by rw[Wh,h3]⟩
  rw[List.flatMap_cons,V9,←h2]
  exact a3
theorem Ra {p:List (List UInt8)}(hp:p.length=gn m.kind)(h:(ej m p).2=0):eu (ej m p).1=p∧cV (ej m p).1=cV m:=by
 unfold ej at h ⊢
 by_cases c1:m.kind=1
 ·simp only[V6 c1]at h ⊢
  have hp:p.length=3:=by rw[hp,gn,V6 c1]
  obtain⟨x,y,z,rfl⟩:∃x y z,p=[x,y,z]:=by
   match p,hp with
   | [x,y,z],_=>exact⟨x,y,z,rfl⟩
  simp only[Xm,List.getD_cons_succ]at h ⊢
  by_cases a:(dG x).2≠0
  ·rw[V6 a]at h;exact absurd h a
  simp only[V3 a]at h ⊢
  by_cases b:(dc y).2≠0
  ·rw[V6 b]at h;exact absurd h b
  simp only[V3 b]at h ⊢
  have q1:=(kL (by simpa using a)).2.2
  have q2:=(lc (by simpa using b)).2.2
  refine⟨?_,rfl⟩
  unfold eu
  simp only[V6 c1,q1,q2]
 simp only[V3 c1]at h ⊢
 by_cases c4:m.kind=4
 ·simp only[V6 c4]at h ⊢
  have hp:p.length=2:=by rw[hp,gn,V3 c1,V6 (.inl c4)]
  obtain⟨x,y,rfl⟩:∃x y,p=[x,y]:=by
   match p,hp with
   | [x,y],_=>exact⟨x,y,rfl⟩
  simp only[Xm,List.getD_cons_succ]at h ⊢
  by_cases a:(dG x).2≠0
  ·rw[V6 a]at h;exact absurd h a
  simp only[V3 a]at h ⊢
  by_cases b:(dG x).1.length=1∧y.length=8
  ·simp only[V6 b]at h ⊢
   obtain⟨b1,b2⟩:=b
   have q1:=(kL (by simpa using a)).2.2
   obtain⟨r,hr⟩:∃r,(dG x).1=[r]:=by
    match(dG x).1,b1 with
    | [r],_=>exact⟨r,rfl⟩
   rw[hr]at q1 ⊢
   refine⟨?_,rfl⟩
   unfold eu
   simp only[V3 c1,V6 c4,Xm,q1,SI,Ol b2]
  ·rw[V3 b]at h;simp at h
 simp only[V3 c4]at h ⊢
 by_cases c5:m.kind=5
 ·simp only[V6 c5]at h ⊢
  have hp:p.length=2:=by rw[hp,gn,V3 c1,V6 (.inr c5)]
  obtain⟨x,y,rfl⟩:∃x y,p=[x,y]:=by
   match p,hp with
   | [x,y],_=>exact⟨x,y,rfl⟩
  simp only[Xm,List.getD_cons_succ]at h ⊢
  by_cases a:(dd x).2≠0
  ·rw[V6 a]at h;exact absurd h a
  simp only[V3 a]at h ⊢
  by_cases b:(dc y).2≠0
  ·rw[V6 b]at h;exact absurd h b
  simp only[V3 b]at h ⊢
  have q1:=(ks (by simpa using a)).2.2
  have q2:=(lc (by simpa using b)).2.2
  refine⟨?_,rfl⟩
  unfold eu
  simp only[V3 c1,V3 c4,V6 c5,q1,q2]
 simp only[V3 c5]at h ⊢
 have hp:p.length=0:=by rw[hp,gn,V3 c1,V3 (fun q=>q.elim c4 c5)]
 rw[Wf hp]
 refine⟨?_,by trivial⟩
 unfold eu
 rw[V3 c1,V3 c4,V3 c5]
theorem oV:wF l=true↔l.all eC=true∧(l.map It.key).Nodup:=by
 induction l with
 | nil=>simp[wF]
 | cons x l ih=>
  rw[wF,Wi,Wi,ih,List.all_cons,Wi,List.map_cons,List.nodup_cons]
  have:(!(l.any fun y=>decide (y.key=x.key)))=true↔x.key∉l.map It.key:=by
   rw[Xp,←Wy,Xc]
   simp only[Wn,List.mem_map]
  rw[this]
  constructor
  ·rintro⟨a,b,c,d⟩;exact⟨⟨a,c⟩,b,d⟩
  ·rintro⟨⟨a,c⟩,b,d⟩;exact⟨a,b,c,d⟩
def mj (l:List It)(i:Nat):ByteArray→Int:=fun u=>if(l.take i).any (fun x=>decide (x.key=u))then 1 else 0
theorem Dc {u:ByteArray}:(l.any fun x=>decide (x.key=u))=true↔u∈l.map It.key:=by
 rw[Xc]
 simp only[Wn,List.mem_map]
theorem rb {u:ByteArray}(h:u∈(l.take i).map It.key):mj l i u=1:=by unfold mj;rw[V6 (Dc.2 h)]
theorem v6 {u:ByteArray}(h:u∉(l.take i).map It.key):mj l i u=0:=by unfold mj;rw[V3 (fun q=>h (Dc.1 q))]
theorem Fx (l:List It):mj l 0=fun _=>0:=by funext u;simp[mj]
theorem ml (h:i<l.length):(l.take (i+1)).map It.key=(l.take i).map It.key++[l[i].key]:=by
 rw[List.take_add_one,V4 h,Option.toList_some,List.map_append];rfl
theorem Fy (h:i<l.length):(fun u=>if u=l[i].key then(1:Int)else mj l i u)=mj l (i+1):=by
 funext u
 by_cases c:u=l[i].key
 ·rw[V6 c,rb (by rw[ml h,c];simp)]
 ·rw[V3 c]
  by_cases d:u∈(l.take i).map It.key
  ·rw[rb d,rb (by rw[ml h];exact List.mem_append_left _ d)]
  ·rw[v6 d,v6 (by
    rw[ml h,Wz,Xl]
    exact fun q=>q.elim d c)]
theorem v7 (h:i<l.length)(h1:((l.take i).map It.key).Nodup)(h2:l[i].key∉(l.take i).map It.key):((l.take (i+1)).map It.key).Nodup:=by
 rw[ml h,List.nodup_append]
 refine⟨h1,au,fun a ha b hb=>?_⟩
 rw[Xl]at hb
 subst hb
 exact fun e=>h2 (e▸ha)
theorem v8 (h:i<l.length)(h2:l[i].key∈(l.take i).map It.key):¬(l.map It.key).Nodup:=by
 intro hn
 have hs:((l.take (i+1)).map It.key).Nodup:=hn.sublist ((List.take_sublist _ _).map _)
 rw[ml h,List.nodup_append]at hs
 exact hs.2.2 _ h2 _ au rfl
def lB (m:Msg):List (List UInt8)×Bool:=
 if m.kind=1 then([if decide (cb m.flt)then fH m.flt else [],if decide (aX m.know)then fw m.know else [],m.there],decide (cb m.flt)&&decide (aX m.know))
 else if m.kind=4 then([if decide (cb [m.rg])then fH [m.rg]else [],Ap m.sum],decide (cb [m.rg]))
 else if m.kind=5 then([if m.its.all eC then fG m.its else [],if decide (aX m.know)then fw m.know else []],m.its.all eC&&decide (aX m.know))
 else([],true)
def Aa (m:Msg):Bool:=
 if m.kind=1 then decide (m.bits≤64)&&(decide (m.there=[])||decide ((nb m.there).2=0))
 else if m.kind=2∨m.kind=3∨m.kind=4 then true
 else if m.kind=5 then wF m.its&&(m.last||decide (m.know=[]))
 else decide (m.kind=6)&&decide (1≤m.err)
theorem wN {r:Rg}:cb [r]↔fX r=true:=⟨fun h=>(h 0 au).1,sq⟩
theorem kB (b:Bool):bJ (iZ b)=true:=gL (tR b).1
theorem tS (m:Msg)(hl:m.its.length≤4096):j8 m=((cV m).all bJ&&(lB m).2&&decide (1≤m.ses)&&Aa m):=by
 rw[Wo]
 unfold j8 lB Aa cV
 by_cases c1:m.kind=1
 ·simp only[c1,Xq,List.all_append,List.all_cons,List.all_nil,Bool.and_true,Wi,WN,Wn,kB]
  have:bJ 1=true:=bz
  simp only[bJ,Wn]at *
  constructor
  ·rintro⟨⟨⟨a,b⟩,c⟩,⟨⟨⟨⟨⟨d,e⟩,f⟩,g⟩,i⟩,j⟩⟩;exact⟨⟨⟨⟨⟨this,b,c⟩,d,e,ab⟩,g,i⟩,a⟩,f.2,j⟩
  ·rintro⟨⟨⟨⟨⟨_,b,c⟩,d,e,f⟩,g,i⟩,a⟩,k,j⟩;exact⟨⟨⟨a,b⟩,c⟩,⟨⟨⟨⟨⟨d,e⟩,ab⟩,g⟩,i⟩,j⟩⟩
 by_cases c2:m.kind=2
 ·have:bJ 2=true:=bz
  simp[c2,kB,this]
  exact⟨fun⟨⟨a,b⟩,c⟩=>⟨⟨b,c⟩,a⟩,fun⟨⟨b,c⟩,a⟩=>⟨⟨a,b⟩,c⟩⟩
 by_cases c3:m.kind=3
 ·have:bJ 3=true:=bz
  simp[c3,this]
  grind
 by_cases c4:m.kind=4
 ·have:bJ 4=true:=bz
  simp[c4,this,wN]
  grind
 by_cases c5:m.kind=5
 ·have:bJ 5=true:=bz
  simp only[c5,Xq,V3 (by decide:¬(5:Int)=1),V3 (by decide:¬(5:Int)=2),V3 (by decide:¬(5:Int)=3),V3 (by decide:¬(5:Int)=4),V3 (by decide:¬((5:Int)=2∨(5:Int)=3∨(5:Int)=4)),List.all_append,List.all_cons,List.all_nil,Bool.and_true,Wi,WN,Wn,kB,true_and,this]
  constructor
  ·rintro⟨⟨⟨a,b⟩,c⟩,⟨⟨⟨d,e⟩,f⟩,g⟩,i⟩;exact⟨⟨⟨⟨⟨b,c⟩,d⟩,z8 f,g⟩,a⟩,f,i⟩
  ·rintro⟨⟨⟨⟨⟨b,c⟩,d⟩,_,g⟩,a⟩,f,i⟩;exact⟨⟨⟨a,b⟩,c⟩,⟨⟨⟨d,hl⟩,f⟩,g⟩,i⟩
 by_cases c6:m.kind=6
 ·have:bJ 6=true:=bz
  simp[c6,this]
  grind
 ·simp[c1,c2,c3,c4,c5,c6]
theorem Fz (h:(lB m).2=true):(lB m).1=eu m:=by
 unfold lB at h ⊢
 unfold eu
 by_cases c1:m.kind=1
 ·simp only[V6 c1,Wi]at h ⊢
  rw[V6 h.1,V6 h.2]
 simp only[V3 c1]at h ⊢
 by_cases c4:m.kind=4
 ·simp only[V6 c4]at h ⊢
  rw[V6 h]
 simp only[V3 c4]at h ⊢
 by_cases c5:m.kind=5
 ·simp only[V6 c5,Wi]at h ⊢
  rw[V6 h.1,V6 h.2]
 simp only[V3 c5]
theorem Ab:(cV m).all bJ=true↔∀n∈cV m,bL n:=by
 rw[WJ]
 exact⟨fun h n hn=>du (h n hn),fun h n hn=>gL (h n hn)⟩
theorem wa (m:Msg):(cV m).length≤7:=by
 unfold cV
 split
 ·simp
 split
 ·simp
 split
 ·simp
 split
 ·simp
 split
 ·simp
 ·simp
section
variable {P:Program} {n t:Nat} {ops:Array Oper} {o:Oper} {S:St}
theorem nU {ty ty':TypeId}{y:Operand}{k:IntKind}{p q z:Int}(hp:Pl n o t)(ho:o.op=.binOp .xor ty x y ty')(hx:S.opd x=iC k p)(hy:S.opd y=iC k q)(hz:bits .xor k p q=z):aw n P ops o (az x++az y) (iC k z) [] S:=
 aV hp fun C T g a w hA hR=>by
  have h1:=aP (x:=x) hA (fun k h=>by simp[h]) hR hx
  have h2:=aP (x:=y) hA (fun k h=>by simp[h]) hR hy
  subst hz
  refine⟨.int k (bits .xor k p q),fy ho h1 h2 ?_,rfl⟩
  rw[show eqGuard .xor ty x y (.int k p) (.int k q)=pure ()from rfl]
  simp only[binOp_xor]
  rfl
theorem JC {ty e bytes:Nat}{z:Value}{c:Cnt}(hp:Pl n o t)(ho:o.op=.buildSlice ty 1 #[(0,x)])(hT:tl P ty e 1 bytes)(hz:k8 P e z)(hzc:z.cells=#[z])(hx:S.opd x=c)(h1:un S c) :
 aw n P ops o ((2*t+1)::(az x++DY c)) (.row t (S.ver t+1)) [(t,S.ver t+1,.mix e [] c)] S:=
 qd hp au fun C T g a w hA hR=>by
  have h:=aG (x:=x) hA (fun k h=>by simp[h]) hR
  rw[hx]at h
  obtain⟨g1,g2⟩:=(pc.mono h1 fun k h=>by simp[h]) _ _ _ _ _ _ _ hA hR h
  obtain⟨i,z',hi,hz',hs1,hs2,hs3⟩:=hT.h.info
  have hzz:=hz.h
  rw[hi]at hzz
  simp only[Option.bind_some]at hzz
  rw[hz']at hzz;cases hzz
  have hrun:=run_buildSlice (P:=P) w ty e 1 #[(0,a.eval x)] #[a.eval x] i z hT.h.und hi hz' (by rw[hs1];decide) (by rw[hs1];decide) (by
   rw[hs1,hzc]
   simp[Instr.fill,g2]
   apply Array.ext
   ·simp
   ·intro j h1 h2
    have:j=0:=by simpa using h2
    subst this
    simp)
  refine⟨.slice (some ⟨w.heap.size,0,none⟩) 1 1,w.alloc (.cells #[a.eval x] e),w.heap.size,?_,(eX.refl w).alloc _,V8 _,gF _ _,fun vr' hvr hst=>⟨?_,?_⟩⟩
  ·simp only[execOp,ho,Sem.run_bind]
   have e:(#[(0,x)].map fun(i,x)=>(i,a.eval x))=#[((0:Nat),a.eval x)]:=au
   rw[e,hrun];rfl
  ·exact⟨by rw[hvr,V6 rfl];exact V8 _,fun _=>(V6 rfl).symm⟩
  ·have hph:(g.mk1 t w.heap.size (.slice (some ⟨w.heap.size,0,none⟩) 1 1)).ph t=w.heap.size:=V6 rfl
   have hrh:(g.mk1 t w.heap.size (.slice (some ⟨w.heap.size,0,none⟩) 1 1)).rh t=.slice (some ⟨w.heap.size,0,none⟩) 1 1:=V6 rfl
   exact⟨1,#[a.eval x],by rw[hrh,hph];rfl,by rw[hph];exact heap_alloc_new w _,by rw[hph];exact V6 rfl,au,bz,rfl,fun i A hi=>by simp at hi,a.eval x,rfl,g1,hst.crep h⟩
theorem Oo {ids:List Nat}{id vr e:Nat}{c:Cnt}{A:PV}(hx:S.opd x=.row id vr)(hv:S.ver id=vr)(hb:S.blk id=.mix e [] c)(h:zm S ids c A):rN (eN S x++Cd ids) S ids x (.bor 1 [[A]]):=fun n C T g a w hA hR=>by
 have hF:∀k∈az x,k∈eN S x++Cd ids:=fun k hk=>by simp[eN,hk]
 have hF':2*id+1∈eN S x++Cd ids:=by simp[eN,hx,Pf]
 have hI:∀i∈ids,2*i+1∈eN S x++Cd ids:=fun i hi=>by simp[Mb i hi]
 have hc:=aG (x:=x) hA hF hR
 rw[hx]at hc
 have hev:=hc.2 (by rw[(hA.2 id hF').2,hv])
 have hB:=hR.blks id
 rw[(hA.2 id hF').1,hb]at hB
 obtain⟨cap,cs,q1,q2,q3,q4,q5,q6,q7,y,q8,q9,q10⟩:=hB
 rw[hev,q1]
 refine⟨_,cap,g.ph id,0,rfl,q4,q5,au,fun _=>⟨rfl,(hR.dom _ _ q3).1,fun h=>h rfl⟩,fun i ps hi=>?_⟩
 cases i with
 | succ i=>simp at hi
 | zero=>
  simp at hi;subst hi
  refine⟨rfl,fun j B hj=>?_⟩
  cases j with
  | succ j=>simp at hj
  | zero=>
   simp at hj;subst hj
   refine⟨y,by rw[eo q2];exact q8,q9,?_⟩
   exact A.mono (N:=xM C g w ids) (V8 _) (fun _ _ _=>rfl) (fun b _ hb=>VO hb) (h.rep hA hI hR q10)
theorem m5 {src dst e:TypeId}{s:ByteArray}(hp:Pl n o t)(ho:o.op=.convert src dst x)(hs:gx P src .string)(hd:gx P dst (.slice e))(he:gx P e (.int .u8))(hx:S.opd x=sC s)(hb:s.size≤1000000000000) :
 aw n P ops o (az x) (.per (cA 1 (s.data.toList.map byteP))) [] S:=by
 refine⟨?_⟩
 intro C T hA a w ⟨g,hR⟩
 have hxe:=aP (x:=x) hA (fun k h=>by simp[h]) hR hx
 unfold iM
 rw[V6 (hp.wanted a)]
 unfold Oper.wp
 have hex:(execOp a.eval o).run P w=.ok (.value (.slice (some ⟨w.heap.size,0,none⟩) s.size (grownCap w s.size 0 e))) (w.drew.alloc (.cells (bytesRow s (grownCap w s.size 0 e)) e ((bytesRow s (grownCap w s.size 0 e)).size,(bytesRow s (grownCap w s.size 0 e)).size+1))):=by
  simp only[execOp,ho,Sem.run_bind,hxe,run_bytes_of_string w src dst e s hs.h hd.h he.h];rfl
 rw[hex,Oper.upon_value]
 refine⟨g,hR.app0 ((eX.refl w).drew.alloc _) hp.dOk ?_⟩
 show eH (g.N C) (g.N C) 1 (s.data.toList.map byteP) _ _
 have hl:(s.data.toList.map byteP).length=s.size:=by rw[V7,W9];rfl
 refine⟨_,_,w.heap.size,0,by rw[hl],by rw[hl];exact grownCap_ge w _ _ _,grownCap_le_maxLen w _ _ _ (by unfold maxLen;omega),au,fun _=>⟨rfl,gF w.drew _,fun hn=>?_⟩,fun i ps hi=>?_⟩
 ·rcases hn with hn|hn
  ·exact FY hR _ (V8 _) hn
  ·exact hn (tk hR _ (V8 _))
 ·rw[List.getElem?_map]at hi
  cases hc:s.data.toList[i]? with
  | none=>rw[hc]at hi;cases hi
  | some c=>
   rw[hc]at hi;cases hi
   refine⟨rfl,fun j A hj=>?_⟩
   cases j with
   | succ j=>simp[byteP]at hj
   | zero=>
    simp[byteP]at hj;subst hj
    refine⟨.int .u8 (c.toNat:Int),?_,rfl,rfl⟩
    have hq:=eo (heap_alloc_new w.drew (.cells (bytesRow s (grownCap w s.size 0 e)) e ((bytesRow s (grownCap w s.size 0 e)).size,(bytesRow s (grownCap w s.size 0 e)).size+1))) (0+i*1+0)
    refine hq.trans ?_
    have hil:i<s.data.size:=by have:=(Ws.1 hc).1;simpa using this
    have hcx:s.data[i]=c:=by
     have:=(Ws.1 hc).2
     simpa using this
    unfold bytesRow
    rw[WF,Xr,WW,Array.getElem?_append_left (by simpa using hil)]
    simp only[Array.getElem?_map,WS hil,hcx]
    rfl
end
theorem wO (l:List UInt8)(ns:List Int)(h:¬∀n∈ns,bL n):Fn prog 59 [dS l,xt ns] (.tup2 (gz []) (.per (ak (.int .i64 2)))):=by
 refine⟨⟨_,func59,by kernel_rfl,by kernel_rfl⟩,fun N0 w vs _ ha=>?_⟩
 obtain⟨v,u,rfl,h1,h2⟩:=BH ha
 refine Calls.mono (PO v u ns w (za h2) h) ?_
 rintro e w' ⟨rfl,rfl⟩
 exact⟨_,rfl,eX.refl _,_,_,rfl,.inl ⟨rfl,rfl⟩,rfl⟩
section
variable {P:Program} {n t:Nat} {ops:Array Oper} {o:Oper} {S:St}
theorem Oq {ty:TypeId}{k:IntKind}{p z:Int}(hp:Pl n o t)(ho:o.op=.unOp .xor ty x)(hx:S.opd x=iC k p)(hz:bits .xor k (if k.signed then -1 else k.max) p=z):aw n P ops o (az x) (iC k z) [] S:=
 aV hp fun C T g a w hA hR=>by
  have h1:=aP (x:=x) hA (fun k h=>by simp[h]) hR hx
  subst hz
  exact⟨.int k (bits .xor k (if k.signed then -1 else k.max) p),by simp only[execOp,ho,h1,Op.unary];rfl,rfl⟩
end
theorem ln (n:Nat):IntKind.u8.wrap (n:Int)=((UInt8.ofNat n).toNat:Int):=by
 rw[IntKind.wrap_u8',Xd];omega
theorem pw (c:UInt8):IntKind.u32.wrap (c.toNat:Int)=(c.toNat:Int):=by
 have:=c.toNat_lt
 rw[IntKind.wrap_u32'];omega
def DA (n s:Nat):List UInt8:=(List.range n).map fun i=>UInt8.ofNat (s / 256 ^ i)
theorem mU (n s:Nat):(DA n s).length=n:=by simp[DA]
theorem wb (n s:Nat):DA (n+1) s=DA n s++[UInt8.ofNat (s / 256 ^ n)]:=by simp[DA,List.range_succ]
theorem RS (s:Nat):DA 4 s=gb s:=by simp[DA,gb,List.range,List.range.loop]
def Ac (n s k:Nat):List UInt8:=DA k s++List.replicate (n-k) 0
theorem RT (n s:Nat):Ac n s 0=List.replicate n 0:=by simp[Ac,DA]
theorem RU (n s:Nat):Ac n s n=DA n s:=by simp[Ac]
theorem Hb (n s k:Nat)(h:k≤n):(Ac n s k).length=n:=by simp[Ac,mU];omega
theorem Hc (n s k:Nat)(h:k<n):(Ac n s k)[k]?=some 0:=by
 unfold Ac
 rw[List.getElem?_append_right (by rw[mU];omega),mU,XB,List.getElem?_replicate]
 rw[V6 ab]
theorem Hd (n s k:Nat)(h:k<n):(Ac n s k).set k (UInt8.ofNat (s / 256 ^ k))=Ac n s (k+1):=by
 unfold Ac
 rw[List.set_append_right _ _ (by rw[mU];omega),mU,XB,wb]
 obtain⟨m,hm⟩:∃m,n-k=m+1:=⟨n-k-1,ab⟩
 rw[hm,List.replicate_succ,List.set_cons_zero,show n-(k+1)=m by omega,V9];rfl
theorem He {s k b:Nat}(hb:8*k≤b):(s:Int) / 2 ^ min (8*(k:Int)).toNat b=((s / 256 ^ k:Nat):Int):=by
 have e:min (8*(k:Int)).toNat b=8*k:=ab
 have e2:(2:Int) ^ (8*k)=((256 ^ k:Nat):Int):=by
  rw[show(256:Nat) ^ k=2 ^ (8*k)from(Nat.pow_mul 2 8 k).symm];simp
 rw[e,e2];rfl
abbrev m6 (d:List UInt8):List PV:=[aK d]
theorem Ot (s:Nat)(hs:s<4294967296)(c:UInt8):Fn prog 199 [iC .u32 (s:Nat),iC .u8 (c.toNat:Nat)] (.per (ak (.int .u32 (EJ s c:Nat)))):=by
 have hc8:=c.toNat_lt
 have hx:=u32_xor_nat s c.toNat hs ab
 have hw:=pw c
 have hlt:s ^^^ c.toNat<4294967296:=Nat.xor_lt_two_pow (n:=32) ab ab
 unfold EJ
 generalize s ^^^ c.toNat=s0 at *
 generalize hB:Qi 8 s0=B
 refine fi func199 ntmps199 ?_
 (repeat' (first|refine ck ?_|refine bi ?_|refine bA ?_|refine bB ?_|refine cn ?_|refine aU ?_|refine bV cI ?_|refine ci ?_|refine cj (by kernel_rfl) ?_|(refine dL rfl rfl ⟨fun hc=>?_,fun hc=>?_⟩<;>(repeat rw[V7]at hc)<;>(try exact ce hc))|((first|apply aB rfl|apply aC rfl|apply aD rfl|apply aF rfl);focus (first|((apply aZ 10;(focus rfl);exact d8 ⟨rfl,rfl,rfl⟩ rfl inferInstance inferInstance rfl hw))|(apply bI;(focus rfl);apply ag rfl rfl rfl rfl rfl;((apply aZ 10;(focus rfl);exact d8 ⟨rfl,rfl,rfl⟩ rfl inferInstance inferInstance rfl hw)))|((exact nU ⟨rfl,rfl,rfl⟩ rfl rfl rfl hx))|(apply bI;(focus rfl);apply ag rfl rfl rfl rfl rfl;((exact nU ⟨rfl,rfl,rfl⟩ rfl rfl rfl hx)))|exact cz|fail))|refine bD ?_|refine bF ?_|refine bG ?_|refine de ?_|refine dg ?_|refine bH ?_|refine bj rfl ?_|((first|refine dM rfl rfl rfl ⟨fun hc=>?_,fun hc=>?_⟩|refine dN rfl rfl rfl ⟨fun hc=>?_,fun hc=>?_⟩)<;>(fail_if_success (have q:(true=true):=hc))<;>(fail_if_success (have q:(false=false):=hc))<;>(repeat rw[V7]at hc)<;>(try exact ce hc))|refine aH rfl rfl (fun hc=>?_) ?_))
 refine aj (X:=Nat×Nat) (fun x=>x.1≤8∧x.2<4294967296∧Qi (8-x.1) x.2=B)
  (fun x=>ay [(0,iC .u32 (x.2:Nat)),(10,iC .i64 (x.1:Nat))] []) (fun x=>8-x.1) (0,s0) ⟨ab,hlt,hB⟩ ?_
 clear hx hw hlt hB hs hc8
 rintro⟨k,s⟩ ⟨h1,h2,h3⟩
 simp only at h1 h2 h3 ⊢
 by_cases hk:k<8
 ·have hA:bits .and .u32 (s:Int) 1=((s % 2:Nat):Int):=by
   have:=u32_and_nat s 1 h2 ab
   rw[Nat.and_one_is_mod]at this;exact this
  have hS:(s:Int) / 2 ^ min (1:Int).toNat IntKind.u32.bits=((s / 2:Nat):Int):=by
   show(s:Int) / 2 ^ 1=_
   omega
  have hX:bits .xor .u32 ((s / 2:Nat):Int) 3988292384=((s / 2 ^^^ 3988292384:Nat):Int):=u32_xor_nat (s / 2) 3988292384 ab ab
  have hlt:=zq h2
  obtain⟨m,hm⟩:∃m,8-k=m+1:=⟨7-k,ab⟩
  rw[hm,Qi]at h3
  by_cases hb:s % 2=1
  ·have e:vc s=s / 2 ^^^ 3988292384:=by unfold vc;rw[V6 hb]
   rw[e]at h3 hlt
   (refine w0 ?_;repeat' first|apply ah|refine ai fun hc=>?_|((first|apply aB rfl|apply aC rfl|apply aD rfl|apply aF rfl);(focus ((try (apply bI;(focus rfl);apply ag rfl rfl rfl rfl rfl));first|((exact zn ⟨rfl,rfl,rfl⟩ rfl rfl rfl hA))|((exact jA ⟨rfl,rfl,rfl⟩ rfl rfl rfl ab hS))|((exact nU ⟨rfl,rfl,rfl⟩ rfl rfl rfl hX))));refine w0 ?_))
   refine⟨(k+1,s / 2 ^^^ 3988292384),⟨aA,hlt,by simp only;rw[show 8-(k+1)=m by omega];exact h3⟩,aA,?_⟩
   exact ae
  ·have e:vc s=s / 2:=by unfold vc;rw[V3 hb]
   rw[e]at h3 hlt
   clear hX
   (refine w0 ?_;repeat' first|apply ah|refine ai fun hc=>?_|((first|apply aB rfl|apply aC rfl|apply aD rfl|apply aF rfl);(focus ((try (apply bI;(focus rfl);apply ag rfl rfl rfl rfl rfl));first|((exact zn ⟨rfl,rfl,rfl⟩ rfl rfl rfl hA))|((exact jA ⟨rfl,rfl,rfl⟩ rfl rfl rfl ab hS))));refine w0 ?_))
   refine⟨(k+1,s / 2),⟨aA,hlt,by simp only;rw[show 8-(k+1)=m by omega];exact h3⟩,aA,?_⟩
   exact ae
 ·have hk:k=8:=ab
  subst hk
  have h3:s=B:=h3
  subst h3
  (refine w0 ?_;repeat' first|apply ah|refine ai fun hc=>?_)
  exact wo
theorem yx (s:Nat)(c:UInt8)(l:List UInt8):vd s (c::l)=vd (EJ s c) l:=rfl
theorem Hf (ls:List (List UInt8))(hl:ls.length≤1000000000)(hs:∀p∈ls,p.length≤1000000000000):Fn prog 123 [.bor 1 (ls.map m6)] (.per (ak (.int .u32 (jW ls.flatten:Nat)))):=by
 unfold jW
 have hF0:=Gq ls.flatten (s:=4294967295) bz
 generalize hF:vd 4294967295 ls.flatten=F at *
 refine fi func123 ntmps123 ?_
 (refine w0 ?_)
 refine aj (X:=Nat×Nat) (fun x=>x.1≤ls.length∧x.2<4294967296∧vd x.2 (ls.drop x.1).flatten=F)
  (fun x=>ay [(3,iC .u32 (x.2:Nat)),(8,.bor 1 (ls.map m6)),(9,iC .i64 (ls.length:Nat)),(10,iC .i64 (x.1:Nat))] []) (fun x=>ls.length-x.1) (0,4294967295) ⟨Wa _,bz,hF⟩ ?_
 rintro⟨i,s⟩ ⟨h1,h2,h3⟩
 simp only at h1 h2 h3 ⊢
 by_cases hi:i<ls.length
 ·rw[List.drop_eq_getElem_cons hi,Xn]at h3
  have hp:=hs _ (Wk hi)
  obtain⟨rest,hr⟩:∃rest,rest=(ls.drop (i+1)).flatten:=⟨_,rfl⟩
  rw[←hr]at h3
  (refine w0 ?_;repeat' first|apply ah|refine ai fun hc=>?_)
  refine aj (X:=Nat×Nat) (fun x=>x.1≤ls[i].length∧x.2<4294967296∧vd x.2 (ls[i].drop x.1++rest)=F)
   (fun x=>ay [(3,iC .u32 (x.2:Nat)),(8,.bor 1 (ls.map m6)),(9,iC .i64 (ls.length:Nat)),(10,iC .i64 (i:Nat)),(14,.per (aK ls[i])),(15,iC .i64 (ls[i].length:Nat)),(16,iC .i64 (x.1:Nat))] []) (fun x=>ls[i].length-x.1) (0,s) ⟨Wa _,h2,h3⟩ ?_
  rintro⟨j,s'⟩ ⟨g1,g2,g3⟩
  simp only at g1 g2 g3 ⊢
  by_cases hj:j<ls[i].length
  ·rw[List.drop_eq_getElem_cons hj,List.cons_append,yx]at g3
   have hc:=Ot s' g2 ls[i][j]
   have hb:=Gp g2 ls[i][j]
   generalize EJ s' ls[i][j]=s2 at *
   clear h3 hF hs
   (refine aq hc ?_;repeat' first|apply ah|refine ai fun hc=>?_)
   refine⟨(j+1,s2),⟨aA,hb,g3⟩,aA,?_⟩
   exact ae
  ·rw[Wv ab,Wu]at g3
   clear h3 hF hs
   (refine w0 ?_;repeat' first|apply ah|refine ai fun hc=>?_)
   refine⟨(i+1,s'),⟨aA,g2,by rw[hr]at g3;exact g3⟩,aA,?_⟩
   exact ae
 ·rw[Wv ab]at h3
  have h3:s=F:=h3
  subst h3
  have hX:bits .xor .u32 (if IntKind.u32.signed then -1 else IntKind.u32.max) (s:Int)=((s ^^^ 4294967295:Nat):Int):=by
   rw[Nat.xor_comm];exact u32_xor_nat 4294967295 s bz h2
  clear hF hs
  (refine w0 ?_;repeat' first|apply ah|refine ai fun hc=>?_|((first|apply aB rfl|apply aC rfl|apply aD rfl|apply aF rfl);(focus ((try (apply bI;(focus rfl);apply ag rfl rfl rfl rfl rfl));first|((apply aZ 9;(focus rfl);exact Oq ⟨rfl,rfl,rfl⟩ rfl rfl hX))));refine w0 ?_))
  exact wo
theorem Dd (s:Nat)(_:s<4294967296):Fn prog 122 [iC .u32 (s:Nat)] (gz (gb s)):=by
 rw[←RS]
 refine fi func122 ntmps122 ?_
 (repeat' (first|refine ck ?_|refine bi ?_|refine bA ?_|refine bB ?_|refine cn ?_|refine aU ?_|refine bV cI ?_|refine ci ?_|refine cj (by kernel_rfl) ?_|(refine dL rfl rfl ⟨fun hc=>?_,fun hc=>?_⟩<;>(repeat rw[V7]at hc)<;>(try exact ce hc))|((first|apply aB rfl|apply aC rfl|apply aD rfl|apply aF rfl);focus (first|((exact Cc (m:=4) ⟨rfl,rfl,rfl⟩ rfl inferInstance inferInstance rfl rfl rfl rfl ab ab))|(apply bI;(focus rfl);apply ag rfl rfl rfl rfl rfl;((exact Cc (m:=4) ⟨rfl,rfl,rfl⟩ rfl inferInstance inferInstance rfl rfl rfl rfl ab ab)))|exact cz|fail))|refine bD ?_|refine bF ?_|refine bG ?_|refine de ?_|refine dg ?_|refine bH ?_|refine bj rfl ?_|((first|refine dM rfl rfl rfl ⟨fun hc=>?_,fun hc=>?_⟩|refine dN rfl rfl rfl ⟨fun hc=>?_,fun hc=>?_⟩)<;>(fail_if_success (have q:(true=true):=hc))<;>(fail_if_success (have q:(false=false):=hc))<;>(repeat rw[V7]at hc)<;>(try exact ce hc))|refine aH rfl rfl (fun hc=>?_) ?_))
 refine bZ (X:=Nat) (fun k=>k≤4) (fun k=>ay [(0,iC .u32 (s:Nat)),(3,.row 5 0),(7,iC .i64 4),(8,iC .i64 (k:Nat))] [(5,.row 5 1 ((Ac 4 s k).map byteP))]) (fun k=>4-k) 0 ab ?_ ?_
 ·rw[RT]
  exact ae
 ·intro k hk
  have hl:=Hb 4 s k hk
  by_cases hlt:k<4
  ·have hZ:=He (s:=s) (k:=k) (b:=IntKind.u32.bits) (by show 8*k≤32;omega)
   have hW:=ln (s / 256 ^ k)
   have HJ:((Ac 4 s k).map byteP)[k]?=some (byteP 0):=by rw[List.getElem?_map,Hc 4 s k hlt];rfl
   have HS:((Ac 4 s k).map byteP).set k (cH (byteP 0) 0 (byteP (UInt8.ofNat (s / 256 ^ k))))=(Ac 4 s (k+1)).map byteP:=by
    rw[←Hd 4 s k hlt,List.map_set];rfl
   generalize s / 256 ^ k=q at *
   (repeat' (first|refine ck ?_|refine bi ?_|refine bA ?_|refine bB ?_|refine cn ?_|refine aU ?_|refine bV cI ?_|refine ci ?_|refine cj (by kernel_rfl) ?_|(refine dL rfl rfl ⟨fun hc=>?_,fun hc=>?_⟩<;>(repeat rw[V7]at hc)<;>(try exact ce hc))|((first|apply aB rfl|apply aC rfl|apply aD rfl|apply aF rfl);focus (first|((exact jA ⟨rfl,rfl,rfl⟩ rfl rfl rfl ab hZ))|(apply bI;(focus rfl);apply ag rfl rfl rfl rfl rfl;((exact jA ⟨rfl,rfl,rfl⟩ rfl rfl rfl ab hZ)))|((apply aZ 10;(focus rfl);exact d8 ⟨rfl,rfl,rfl⟩ rfl inferInstance inferInstance rfl hW))|(apply bI;(focus rfl);apply ag rfl rfl rfl rfl rfl;((apply aZ 10;(focus rfl);exact d8 ⟨rfl,rfl,rfl⟩ rfl inferInstance inferInstance rfl hW)))|exact cz|((apply aZ 6;(focus rfl);exact aM ⟨rfl,rfl⟩ rfl inferInstance rfl rfl rfl rfl HJ rfl (aY rfl rfl rfl) rfl HS))|(apply bI;(focus rfl);apply ag rfl rfl rfl rfl rfl;((apply aZ 6;(focus rfl);exact aM ⟨rfl,rfl⟩ rfl inferInstance rfl rfl rfl rfl HJ rfl (aY rfl rfl rfl) rfl HS)))|fail))|refine bD ?_|refine bF ?_|refine bG ?_|refine de ?_|refine dg ?_|refine bH ?_|refine bj rfl ?_|((first|refine dM rfl rfl rfl ⟨fun hc=>?_,fun hc=>?_⟩|refine dN rfl rfl rfl ⟨fun hc=>?_,fun hc=>?_⟩)<;>(fail_if_success (have q:(true=true):=hc))<;>(fail_if_success (have q:(false=false):=hc))<;>(repeat rw[V7]at hc)<;>(try exact ce hc))|refine aH rfl rfl (fun hc=>?_) ?_))
   refine⟨k+1,ab,ab,?_⟩
   exact ae
  ·obtain rfl:k=4:=ab
   rw[RU]at *
   (refine w0 ?_;repeat' first|apply ah|refine ai fun hc=>?_)
   exact dw (cJ rfl rfl rfl rfl)
def RV (b:List UInt8):Bool:=decide (4≤b.length)&&decide (b.drop (b.length-4)=gb (jW (b.take (b.length-4))))
theorem RX {a T:List UInt8}{k:Nat}(h:a.take k=T.take k)(h1:k<a.length)(h2:k<T.length)(e:a[k]=T[k]):a.take (k+1)=T.take (k+1):=by
 rw[List.take_add_one,List.take_add_one,h,V4 h1,V4 h2,e]
theorem yz {b:List UInt8}(h:b.length<4):RV b=false:=by unfold RV;rw[Wj ab];rfl
theorem wc {b:List UInt8}{n:Nat}(h:b.length=n+4):RV b=decide (b.drop n=gb (jW (b.take n))):=by
 unfold RV;rw[Wb ab,WP,show b.length-4=n by omega]
theorem JD (b:List UInt8)(hb:b.length≤1000000000):Fn prog 200 [.per (aK b)] (.tup2 (gz (if RV b then b.take (b.length-4)else [])) (dq (RV b))):=by
 by_cases h4:b.length<4
 ·rw[yz h4]
  refine fi func200 ntmps200 ?_
  (refine w0 ?_;repeat' first|apply ah|refine ai fun hc=>?_)
  exact d9 (dv rfl) (aL rfl rfl)
 obtain⟨n,hn⟩:∃n,b.length=n+4:=⟨b.length-4,ab⟩
 rw[wc hn,show b.length-4=n by omega]
 have h1:=Hf [b.take n] au (fun p hp=>by rw[Xl]at hp;subst hp;rw[WA];omega)
 rw[show [b.take n].flatten=b.take n by simp]at h1
 have h2:=(Dd _ (tD (b.take n))).frz
 have hT:(gb (jW (b.take n))).length=4:=rfl
 generalize gb (jW (b.take n))=T at *
 have hN:((b.length:Nat):Int)-4=(n:Int):=ab
 generalize hD:b.drop n=D
 have hDl:D.length=4:=by rw[←hD,Xb];omega
 have hDg:∀(k:Nat)(h:k<D.length),b[n+k]'(ab)=D[k]:=fun k h=>by subst hD;rw[List.getElem_drop]
 refine fi func200 ntmps200 ?_
 (refine bp hN h1 h2 ?_;repeat' first|apply ah|refine ai fun hc=>?_)
 refine aj (X:=Nat) (fun k=>k≤4∧D.take k=T.take k) (fun k=>ay [(0,.per (aK b)),(4,iC .i64 (n:Nat)),(17,.per (aK T)),(18,iC .i64 4),(19,iC .i64 (k:Nat))] []) (fun k=>4-k) 0 ⟨ab,rfl⟩ ?_
 rintro k ⟨hk,hE⟩
 by_cases hlt:k<4
 ·have hI:(n:Int)+(k:Int)=((n+k:Nat):Int):=ab
  have hg:=hDg k ab
  clear h1 h2 hN
  (refine eT hI ?_;repeat' first|apply ah|refine ai fun hc=>?_)
  ·have hne:¬D=T:=fun e=>by
    subst e
    rw[hg]at hc
    exact hc rfl
   rw[Wj hne]
   exact d9 (dv rfl) (aL rfl rfl)
  ·have e:D[k]'(ab)=T[k]'(ab):=by
    rw[←hg];exact Xj.1 ab
   refine⟨k+1,⟨ab,RX hE ab ab e⟩,ab,?_⟩
   exact ae
 ·obtain rfl:k=4:=ab
  have e:D=T:=by
   rw[←hDl,WX,hDl,←hT,WX]at hE;exact hE
  rw[Wb e,V6 rfl]
  clear h1 h2
  (refine w0 ?_;repeat' first|apply ah|refine ai fun hc=>?_)
  exact d9 (cJ rfl rfl rfl rfl) (aL rfl rfl)
end Go.Proofs.YtaclhhkblbacgaaGreat
