/- Texts joined: DeZ DeW MrR PlC PlR SwB PlS PlM Item. -/
import Derived.Test.YtaclhhkblbacgaaGreatJ38
import Derived.Test.YtaclhhkblbacgaaGreatJ34
import Derived.Test.YtaclhhkblbacgaaGreatJ35
set_option maxRecDepth 10000
set_option maxHeartbeats 8000000
namespace Go.Proofs.YtaclhhkblbacgaaGreat
open Go.RowKit Go.Proofs.Tryz
variable {l:List It} {i:Nat} {k:List Pc} {a b:Nat}
def VW (o:List It)(k:ByteArray):Bool:=match o.reverse with
 | []=>true
 | z::_=>decide (cP z.key k<0)
def Uv (o:List It)(x:It):Bool:=eC x&&VW o x.key
structure kQ (l o:List It)(i:Nat)(b:Option Nat):Prop where
 le:i≤l.length
 hs:∀j,b=some j→∃hj:j<l.length,Uv o l[j]=true∧∀m (hm:m<l.length),m<i→Uv o l[m]=true→l[j].key≤l[m].key
 hn:b=none→∀m (hm:m<l.length),m<i→Uv o l[m]=false
theorem kQ.zero (l o:List It):kQ l o 0 none:=⟨Wa _,fun j h=>(by cases h),fun _ m _ h=>absurd h (W4 _)⟩
theorem kQ.skip {o:List It}{b:Option Nat}(h:kQ l o i b)(hi:i<l.length)(hc:Uv o l[i]=false):kQ l o (i+1) b:=by
 refine⟨hi,fun j hj=>?_,fun hb m hm hlt=>?_⟩
 ·obtain⟨a1,a2,a3⟩:=h.hs j hj
  refine⟨a1,a2,fun m hm hlt hcm=>?_⟩
  rcases Wm m i with q|q
  ·exact a3 m hm q hcm
  ·obtain rfl:m=i:=ab
   rw[hc]at hcm;cases hcm
 ·rcases Wm m i with q|q
  ·exact h.hn hb m hm q
  ·obtain rfl:m=i:=ab
   exact hc
theorem kQ.new {o:List It}{b:Option Nat}(h:kQ l o i b)(hi:i<l.length)(hc:Uv o l[i]=true)(hb:∀j (hj:j<l.length),b=some j→cP l[i].key l[j].key<0):kQ l o (i+1) (some i):=by
 refine⟨hi,fun j hj=>?_,fun hb=>by cases hb⟩
 cases hj
 refine⟨hi,hc,fun m hm hlt hcm=>?_⟩
 rcases Wm m i with q|q
 ·cases b with
  | none=>have:=h.hn rfl m hm q;rw[hcm]at this;cases this
  | some j=>
   obtain⟨a1,a2,a3⟩:=h.hs j rfl
   have h1:=a3 m hm q hcm
   have h2:=(i7 _ _).1 (hb j a1 rfl)
   grind
 ·obtain rfl:m=i:=ab
  grind
theorem kQ.keep {o:List It}{j:Nat}(h:kQ l o i (.some j))(hi:i<l.length)(hj:j<l.length)(hb:¬cP l[i].key l[j].key<0):kQ l o (i+1) (.some j):=by
 refine⟨hi,fun k hk=>?_,fun hb=>by cases hb⟩
 cases hk
 obtain⟨a1,a2,a3⟩:=h.hs j rfl
 refine⟨a1,a2,fun m hm hlt hcm=>?_⟩
 rcases Wm m i with q|q
 ·exact a3 m hm q hcm
 ·obtain rfl:m=i:=ab
  rw[i7]at hb
  grind
def Uw (s:Sta)(IN M:List It)(J:List Pc)(mo:Int)(ap:Bool)(f g:It→Bool):Sta×Int:=
 if IN.any (fun x=>!f x&&!g x)then({},2)
 else if mo>s.cnt then({},2)
 else if ap=false then({},2)
 else if M.length>4096 then({},32)
 else(⟨s.id,s.flt,M,J,s.cnt⟩,0)
abbrev VX:Blk:=.box 26 [iC .i64 0,.per (ak (.slice none 0 0)),.per (ak (.slice none 0 0)),.per (ak (.slice none 0 0)),iC .i64 0]
theorem Ju {p:It→Bool}(hi:i<l.length)(h:(l.take i).any p=false):(l.take (i+1)).any p=p l[i]:=by
 rw[bc l i hi,List.any_append,h];simp
theorem Oc {p:It→Bool}(hi:i<l.length)(h:p l[i]=true):l.any p=true:=Xc.2 ⟨_,Wk hi,h⟩
theorem Od (s:Sta)(l IN M:List It)(k OW J:List Pc)(mo:Int)(ap:Bool)(f g:It→Bool)(hl:IN.length≤1000000)
 (a1:Fn prog 38 [ji s] (dq true)) (a2:Fn prog 81 [fj l] (dq true)) (a3:Fn prog 82 [dC k] (dq true))
 (a4:Fn prog 89 [fj l,ec s.flt] (.per (dP IN))) (a5:Fn prog 84 [nc k,.per (fW s.flt)] (.per (gG OW)))
 (a6:∀x∈IN,Fn prog 88 [dC s.know,sC x.key,sD x.rep x.cnt] (dq (f x))) (a7:∀x∈IN,Fn prog 88 [dC OW,sC x.key,sD x.rep x.cnt] (dq (g x)))
 (a8:Fn prog 85 [dC OW,iC .i64 s.id] (el mo)) (a9:Fn prog 90 [.bor 1 [[dP s.its],[dP IN]]] (.per (dP M))) (a10:Fn prog 86 [fj M] (dq ap))
 (a11:Fn prog 91 [.bor 1 [[gG s.know],[gG OW]]] (.per (gG J))) (a12:Fn prog 92 [ec s.flt] (.per (fW s.flt))) :
 Fn prog 39 [ji s,.per (dP l),nc k] (.tup2 (.per (S5 (Uw s IN M J mo ap f g).1)) (el (Uw s IN M J mo ap f g).2)):=by
 unfold Uw
 generalize hp:(fun x=>!f x&&!g x)=p
 refine fi func39 ntmps39 ?_
 (refine xj a1 a2 a3 a4 a5 ?_;repeat' first|apply ah|refine ai fun hc=>?_)
 clear a1 a2 a3 a4 a5
 refine aj (X:=Nat) (fun i=>i≤IN.length∧(IN.take i).any p=false) (fun i=>ay [(1,.per (dP IN)),(2,nc OW),(3,.ptr 3 0 0),(6,.ptr 6 0 0),(7,iC .i64 0),(34,.per (dP IN)),(35,iC .i64 (IN.length:Nat)),(36,iC .i64 (i:Nat))] [(3,.box 26 ((td s).map Cnt.per)),(6,VX)]) (fun i=>IN.length-i) 0 ⟨Wa _,rfl⟩ ?_
 rintro i ⟨h1,h2⟩
 by_cases hi:i<IN.length
 ·have c6:=a6 _ (Wk hi)
  have c7:=a7 _ (Wk hi)
  have hsn:=Ju hi h2
  have hh:=Oc (p:=p) hi
  have hpx:p IN[i]=(!f IN[i]&&!g IN[i]):=by rw[←hp]
  clear a6 a7 a8 a9 a10 a11 a12 hp h2
  generalize f IN[i]=x1 at *
  generalize g IN[i]=x2 at *
  generalize p IN[i]=px at *
  cases x1 with
  | true=>
   subst hpx
   clear hh
   (refine bg c6 c7 ?_;repeat' first|apply ah|refine ai fun hc=>?_)
   refine⟨i+1,⟨ab,hsn⟩,ab,?_⟩
   exact ae
  | false=>
   cases x2 with
   | true=>
    subst hpx
    clear hh
    (refine bg c6 c7 ?_;repeat' first|apply ah|refine ai fun hc=>?_)
    refine⟨i+1,⟨ab,hsn⟩,ab,?_⟩
    exact ae
   | false=>
    subst hpx
    rw[V6 (hh rfl)]
    clear hsn hh
    (refine bg c6 c7 ?_;repeat' first|apply ah|refine ai fun hc=>?_)
    refine d9 ?_ ?_
    ·exact lD
    ·exact al rfl rfl
 ·rw[Wd ab]at h2
  rw[h2,V3 au]
  clear a6 a7 hp h2
  by_cases q1:mo>s.cnt
  ·rw[V6 q1]
   clear a9 a10 a11 a12
   (refine aq a8 ?_;repeat' first|apply ah|refine ai fun hc=>?_)
   refine d9 ?_ ?_
   ·exact lD
   ·exact al rfl rfl
  rw[V3 q1]
  cases ap with
  | false=>
   rw[V6 rfl]
   clear a11 a12
   (refine fO a8 a9 a10 ?_;repeat' first|apply ah|refine ai fun hc=>?_)
   refine d9 ?_ ?_
   ·exact lD
   ·exact al rfl rfl
  | true=>
   rw[V3 au]
   by_cases q2:M.length>4096
   ·rw[V6 q2]
    clear a11 a12
    (refine fO a8 a9 a10 ?_;repeat' first|apply ah|refine ai fun hc=>?_)
    refine d9 ?_ ?_
    ·exact lD
    ·exact al rfl rfl
   ·rw[V3 q2]
    (refine xj a8 a9 a10 a11 a12 ?_;repeat' first|apply ah|refine ai fun hc=>?_)
    refine d9 ?_ ?_
    ·exact Sk
    ·exact al rfl rfl
theorem Jv (s:Sta)(l:List It)(k:List Pc)(a1:Fn prog 38 [ji s] (dq false)):Fn prog 39 [ji s,.per (dP l),nc k] (.tup2 (.per (S5 {})) (el 41)):=by
 refine fi func39 ntmps39 ?_
 (refine aq a1 ?_;repeat' first|apply ah|refine ai fun hc=>?_)
 refine d9 ?_ ?_
 ·exact lD
 ·exact al rfl rfl
theorem Oe (s:Sta)(l:List It)(k:List Pc)(b c:Bool)(h:(b&&c)=false)(a1:Fn prog 38 [ji s] (dq true))(a2:Fn prog 81 [fj l] (dq b))(a3:Fn prog 82 [dC k] (dq c)) :
 Fn prog 39 [ji s,.per (dP l),nc k] (.tup2 (.per (S5 {})) (el 2)):=by
 cases b<;>cases c
 case true.true=>cases h
 all_goals
  refine fi func39 ntmps39 ?_
  (refine fO a1 a2 a3 ?_;repeat' first|apply ah|refine ai fun hc=>?_)
  refine d9 ?_ ?_
  ·exact lD
  ·exact al rfl rfl
structure te (k:List Pc)(a b:Nat):Prop where
 len:k.length≤a
 set:∀p∈k,p.set.length≤16∧(p.set.flatMap Kn.runs).length≤b
theorem te.mid (h:te k a b)(ha:a*16≤1000000)(hb:a*b≤1000000):ew k:=by
 have key:∀l:List Pc,(∀p∈l,p.set.length≤16∧(p.set.flatMap Kn.runs).length≤b)→(l.flatMap Pc.set).length≤l.length*16∧((l.flatMap Pc.set).flatMap Kn.runs).length≤l.length*b:=by
  intro l
  induction l with
  | nil=>intro _;simp
  | cons p l ih=>
   intro h
   obtain⟨h1,h2⟩:=h p WG
   obtain⟨i1,i2⟩:=ih (fun q hq=>h q (Ww _ hq))
   rw[List.flatMap_cons,List.flatMap_append,V5,V5,Wh,WU,WU]
   constructor<;>omega
 obtain⟨h1,h2⟩:=key k h.set
 have h3:k.length*16≤a*16:=WQ _ h.len
 have h4:k.length*b≤a*b:=WQ _ h.len
 have h5:=h.len
 exact⟨ab,ab,ab⟩
theorem te.le {c d:Nat}(h:te k a b)(h1:a≤c)(h2:b≤d):te k c d:=⟨by have:=h.len;omega,fun p hp=>by have:=h.set p hp;omega⟩
theorem te.get (h:te k a b)(s:ByteArray):(eG k s).length≤16∧((eG k s).flatMap Kn.runs).length≤b:=by
 have key:∀l:List Pc,(∀p∈l,p.set.length≤16∧(p.set.flatMap Kn.runs).length≤b)→(eG l s).length≤16∧((eG l s).flatMap Kn.runs).length≤b:=by
  intro l
  induction l with
  | nil=>intro _;rw[qJ];simp
  | cons p l ih=>
   intro h
   by_cases q:cO p.rg s=true
   ·rw[lh q];exact h p WG
   ·rw[gg q];exact ih (fun q hq=>h q (Ww _ hq))
 exact key k h.set
theorem C6 {m:Int}(h:fZ k m=false):te k m.toNat 256:=by
 obtain⟨h1,h2⟩:=pM h
 refine⟨ab,fun p hp=>?_⟩
 obtain⟨_,_,h3⟩:=h2 p hp
 obtain⟨g1,g2⟩:=uN h3
 have key:∀s:List Kn,(∀x∈s,(x.runs.length:Int)≤16)→(s.flatMap Kn.runs).length≤16*s.length:=by
  intro s
  induction s with
  | nil=>intro _;simp
  | cons x s ih=>
   intro h
   have h1:=h x WG
   have h2:=ih (fun y hy=>h y (Ww _ hy))
   rw[List.flatMap_cons,V5,Wh];omega
 have:=key _ g2
 omega
theorem C7 (X:List Kn):(gH ofR X).length≤16:=(tI (X:=X) (V8 _)).1
theorem te.rest (h:te k a b)(ok:aX k)(f:List Rg):te (cX k f) (1+2*(a+f.length)) b:=by
 obtain⟨h1,h2⟩:=nR k f
 refine⟨?_,fun p hp=>?_⟩
 ·have q1:=qL (md k f) (mT k f)
  have q2:=lY (cK k++f) [emB]
  have q3:=h.len
  have q4:(cK k).length=k.length:=by unfold cK;simp
  rw[V5,q4,List.length_singleton]at q2
  unfold cX
  have q5:(mT k f).length=(j9 [emB] (cK k++f)).length:=rfl
  omega
 ·obtain⟨_,s,h3⟩:=qW h1 p hp
  rw[←h3,h2]
  unfold md
  split
  ·rw[jE ok];exact h.get s
  ·simp
theorem te.join {l:List Pc}{c d:Nat}(h:te k a b)(h':te l c d)(ok:aX k)(ok':aX l):te (wq (k++l)) (1+2*(a+c)) (b+d):=by
 obtain⟨h1,h2⟩:=pT (k++l)
 refine⟨?_,fun p hp=>?_⟩
 ·have q1:=qL (lC (k++l)) (mb (k++l))
  have q2:=vy (k++l)
  have q3:=h.len
  have q4:=h'.len
  rw[V5]at q2
  unfold wq
  omega
 ·obtain⟨_,s,h3⟩:=qW h1 p hp
  rw[←h3,h2,EZ]
  refine⟨C7 _,?_⟩
  have q1:=yi (lC k s++lC l s)
  rw[List.flatMap_append,V5,jE ok,jE ok']at q1
  rw[jE ok,jE ok']
  have q2:=(h.get s).2
  have q3:=(h'.get s).2
  omega
inductive CW:List Cnt→List Cnt→Prop
 | nil:CW [] []
 | same {c:Cnt} {l l':List Cnt} (k:CW l l'):CW (c::l) (c::l')
 | per {A B:PV} {l l':List Cnt} (h:zS A B) (k:CW l l'):CW (.per A::l) (.per B::l')
theorem CW.len {l l':List Cnt}(h:CW l l'):l.length=l'.length:=by
 induction h with
 | nil=>rfl
 | same k ih=>simp[ih]
 | per h k ih=>simp[ih]
theorem CW.get {l l':List Cnt}(h:CW l l'):∀(j:Nat)(c':Cnt),l'[j]?=some c'→∃c,l[j]?=some c∧(c=c'∨∃A B,c=.per A∧c'=.per B∧zS A B):=by
 induction h with
 | nil=>intro j c h;simp at h
 | @same c l l' k ih=>
  intro j d hj
  cases j with
  | zero=>simp at hj;subst hj;exact⟨c,rfl,.inl rfl⟩
  | succ j=>simpa using ih j d (by simpa using hj)
 | @per A B l l' h k ih=>
  intro j d hj
  cases j with
  | zero=>simp at hj;subst hj;exact⟨_,rfl,.inr ⟨A,B,rfl,rfl,h⟩⟩
  | succ j=>simpa using ih j d (by simpa using hj)
theorem Fn.argsW {P:Program}{f:FuncId}{As Bs:List Cnt}{r:Ret}(h:Fn P f Bs r)(k:CW As Bs):Fn P f As r:=⟨h.ent,fun N0 w vs hN ha=>by
 refine h.run N0 w vs hN ⟨by rw[ha.1,k.len],fun i u c hi hj=>?_⟩
 obtain⟨c0,q1,q2⟩:=k.get i c hj
 rcases q2 with rfl|⟨A,B,rfl,rfl,q3⟩
 ·exact ha.2 i u c0 hi q1
 ·exact q3 _ _ _ (ha.2 i u (.per A) hi q1)⟩
theorem dh.argsW {P:Program}{f:FuncId}{As Bs:List Cnt}{pre post:List (Nat×Blk)}{r:Cnt}(h:dh P f Bs pre r post)(k:CW As Bs):dh P f As pre r post:=⟨h.ent,fun C w vs hw hN hd hl ha hp=>by
 refine h.run C w vs hw hN hd (by rw[hl,k.len]) (fun i u c hi hj=>?_) hp
 obtain⟨c0,q1,q2⟩:=k.get i c hj
 rcases q2 with rfl|⟨A,B,rfl,rfl,q3⟩
 ·exact ha i u c0 hi q1
 ·exact q3 _ _ _ (ha i u (.per A) hi q1)⟩
theorem te.app {l:List Pc}{c d:Nat}(h:te k a b)(h':te l c d):te (k++l) (a+c) (max b d):=⟨by rw[V5];have:=h.len;have:=h'.len;omega,fun p hp=>by
 rcases Wz.1 hp with q|q
 ·have:=h.set p q;omega
 ·have:=h'.set p q;omega⟩
structure VH (s:Sta)(l:List It)(k:List Pc):Prop where
 st:RP s
 fl:s.flt.length≤12
 ll:l.length≤100000
 lk:ng l
 sl:s.its.length≤100000
 km:ew k
 kl:k.length≤100000
 rm:aX k→ew (cX k s.flt)
 rl:aX k→(cX k s.flt).length≤100000
 jm:aX k→aX s.know→ew (s.know++cX k s.flt)
theorem Og {s:Sta}(h1:oQ s=true)(h2:gV l=true)(h3:aX k) :
 pq s l k=Uw s (Ar s.flt l) (ey [s.its++Ar s.flt l]) (wq (s.know++cX k s.flt)) (lm (cX k s.flt) s.id) (ja (ey [s.its++Ar s.flt l])) (fun x=>cp s.know x.key x.rep x.cnt) (fun x=>cp (cX k s.flt) x.key x.rep x.cnt):=by
 unfold pq Uw
 rw[V3 (by rw[h1];simp),V3 (by rw[h2];simp[h3])]
theorem Oh {s:Sta}(h1:oQ s=false):pq s l k=({},41):=by unfold pq;rw[V6 h1]
theorem Q3 {s:Sta}(h1:oQ s=true)(h2:(gV l&&decide (aX k))=false):pq s l k=({},2):=by
 unfold pq
 rw[V3 (by rw[h1];simp),V6]
 rw[Bool.and_eq_false_iff,Wt]at h2
 exact h2
theorem G8 {f:List Rg}(h:ng l):ng (Ar f l):=fun x hx=>h x (WZ.1 hx).1
theorem Q4 (f:List Rg)(l:List It):(Ar f l).length≤l.length:=WT _ _
theorem Ta (a b:List It):ey [a,b]=ey [a++b]:=by unfold ey;simp
theorem Ft (ls:List (List It)):(ey ls).all eC=true:=WJ.2 (List.filter_eq_self.1 zJ)
theorem yw (ls:List (List It)):(ey ls).length≤ls.flatten.length:=W7 (E5 ls) (WT _ _)
theorem C8 {s:Sta}(h:VH s l k):ng (Ar s.flt l)∧(Ar s.flt l).length≤100000∧(ey [s.its++Ar s.flt l]).length≤200000∧ng (s.its++Ar s.flt l):=by
 have h1:=Q4 s.flt l
 have h2:=h.ll
 have h3:=h.sl
 refine⟨G8 h.lk,ab,?_,fun x hx=>?_⟩
 ·have:=yw [s.its++Ar s.flt l]
  simp only[Xn,List.flatten_nil,Wg,V5]at this
  omega
 ·rcases Wz.1 hx with q|q
  ·exact h.st.keys x q
  ·exact G8 h.lk x q
theorem Q5 (s:Sta)(l:List It)(k:List Pc)(h:VH s l k):Fn prog 39 [ji s,.per (dP l),nc k] (.tup2 (.per (S5 (pq s l k).1)) (el (pq s l k).2)):=by
 have a1:=qX s h.st
 cases hr:oQ s with
 | false=>
  rw[hr]at a1
  rw[Oh hr]
  exact Jv s l k a1
 | true=>
  rw[hr]at a1
  have a2:=yg l h.lk (by have:=h.ll;omega) (gV l) oT
  have a3:=iv k (dE h.km) (decide (aX k)) au
  by_cases hb:(gV l&&decide (aX k))=false
  ·rw[Q3 hr hb]
   exact Oe s l k _ _ hb a1 a2 a3
  ·have hb:gV l=true∧aX k:=by simpa using hb
   obtain⟨b1,b2⟩:=hb
   rw[b1]at a2
   rw[Wb b2]at a3
   obtain⟨c1,c2,c3,c4,c5,c6,c7,c8,c9,c10⟩:=se hr
   obtain⟨f1,f2,f3,f4⟩:=C8 h
   have hfl:=h.fl
   have hll:=h.ll
   have hsl:=h.sl
   have hz:fe (cX k s.flt):=dE (h.rm b2)
   rw[Og hr b1 b2]
   refine Od s l (Ar s.flt l) _ k (cX k s.flt) _ _ _ _ _ ab a1 a2 a3 (G4 l s.flt h.lk ab h.fl).frz ?_ (fun x hx=>?_) (fun x hx=>?_) ?_ ?_ ?_ ?_ ?_
   ·exact(nS k s.flt h.km c4 ab (by have:=h.kl;omega) (zV s.flt c4 ab)).frz
   ·exact zR s.know x.key x.rep x.cnt (dE h.st.kmid) (f1 x hx)
   ·exact zR (cX k s.flt) x.key x.rep x.cnt hz (f1 x hx)
   ·exact GZ _ _ hz
   ·have:=(E3 [s.its,Ar s.flt l] (by
     refine W7 (WT _ _) ?_
     simp;omega) au (fun m hm=>by
     simp at hm
     rcases hm with rfl|rfl<;>omega)).frz
    rw[Ta]at this
    exact this
   ·exact CU _ (Ft _) ab
   ·have:=(Qz [s.know,cX k s.flt] au (by simpa using h.jm b2 c6)).frz
    rw[show([s.know,cX k s.flt]:List (List Pc)).flatten=s.know++cX k s.flt by simp]at this
    exact this
   ·exact(Fp s.flt ab).frz
def p6 (s:Sta)(F:List Rg)(K:List Pc):Int:=N4 (oQ s) (decide (cb F)) (decide (aX K))
def fR (s:Sta)(F:List Rg)(K:List Pc)(lim:Int)(R:List Rg)(hs:Int→Int→Bool):List (List It)×List Pc×Int:=
 if p6 s F K≠0 then([],[],p6 s F K)
 else if jc lim (gw R hs (jh s.its F K))=0 then(sh lim (gw R hs (jh s.its F K)),cX s.know F,0)
 else([],[],jc lim (gw R hs (jh s.its F K)))
theorem Fv {s:Sta}{F:List Rg}{K:List Pc}:p6 s F K=0↔oQ s=true∧cb F∧aX K:=by
 unfold p6 N4
 cases oQ s
 ·simp
 ·by_cases h1:cb F<;>by_cases h2:aX K<;>simp[h1,h2]
theorem Tb (l:List It)(F:List Rg)(K:List Pc):(TF F l).filter (fun x=>!cp K x.key x.rep x.cnt)=jh l F K:=by
 unfold TF jh
 rw[List.filter_filter]
 exact List.filter_congr fun x _=>by rw[Bool.and_comm]
theorem tQ (l:List It)(F:List Rg)(K:List Pc):(jh l F K).length≤l.length:=WT _ _
theorem G9 {F:List Rg}{K:List Pc}(h:ng l):ng (jh l F K):=fun x hx=>h x (WZ.1 hx).1
structure Kc (s:Sta)(F:List Rg)(K:List Pc)(lim:Int)(R:List Rg)(th:PV)(hs:Int→Int→Bool):Prop where
 st:RP s
 sl:s.its.length≤100000
 fl:F.length≤12
 rl:R.length≤12
 km:ew K
 l1:-9223372036854775808≤lim
 l2:lim≤9223372036854775807
 th:∀r c,Fn prog 351 [.per th,sD r c] (dq (hs r c))
section
variable {s:Sta} {F:List Rg} {K:List Pc} {lim:Int} {R:List Rg} {th:PV} {hs:Int→Int→Bool}
theorem Q6 (h:Kc s F K lim R th hs):Fn prog 269 [ji s,sk F K lim R th] (el (p6 s F K)):=by
 have hf:=h.fl
 exact S9 s F K lim R th _ _ _ (qX s h.st) (jv F ab (decide (cb F)) au) (iv K (dE h.km) (decide (aX K)) au)
theorem C9 (h:Kc s F K lim R th hs):Fn prog 271 [ji s,sk F K lim R th] (.per (dP (jh s.its F K))):=by
 have hl:=h.sl
 have hi:(TF F s.its).length≤s.its.length:=WT _ _
 have:=(Fq s F K lim R th (TF F s.its) (fun x=>cp K x.key x.rep x.cnt) ab (G4 s.its F h.st.keys ab h.fl).frz (fun x hx=>zR K x.key x.rep x.cnt (dE h.km) (h.st.keys x (WZ.1 hx).1))).frz
 rw[Tb]at this
 exact this
theorem Oi (h:Kc s F K lim R th hs):Fn prog 270 [sk F K lim R th,.per (dP (jh s.its F K))] (.tup2 (.per (cA 1 ((sh lim (gw R hs (jh s.its F K))).map fun c=>[dP c]))) (el (jc lim (gw R hs (jh s.its F K))))):=by
 have h1:=(Oa R h.rl th hs h.th (jh s.its F K) (G9 h.st.keys) (by have:=tQ s.its F K;have:=h.sl;omega)).frz
 have hl:(gw R hs (jh s.its F K)).length≤1000000000:=by
  rw[sf];have:=tQ s.its F K;have:=h.sl;omega
 exact QZ F K lim R th _ _ _ _ h1 (C3 lim _ hl h.l1 h.l2)
theorem Ha (h:Kc s F K lim R th hs):Fn prog 240 [ji s,sk F K lim R th] (.tup2 (.per (G5 (fR s F K lim R hs).1 (fR s F K lim R hs).2.1)) (el (fR s F K lim R hs).2.2)):=by
 unfold fR
 have a1:=Q6 h
 by_cases c:p6 s F K≠0
 ·rw[V6 c]
  exact N5 s F K lim R th _ c a1
 ·rw[V3 c]
  have c:=WB.1 c
  rw[c]at a1
  obtain⟨c1,c2,c3⟩:=Fv.1 c
  have hf:=h.fl
  have:=N6 s F K lim R th _ _ _ (cX s.know F) a1 (C9 h) (Oi h) (fun _=>(nS s.know F h.st.kmid c2 ab h.st.kl (zV F c2 ab)).frz)
  by_cases e:jc lim (gw R hs (jh s.its F K))=0
  ·rw[V6 e]at this ⊢
   rw[e]at this
   exact this
  ·rw[V3 e]at this ⊢
   exact this
end
def Jw (w:World)(b o:Nat)(x:It):Prop:=
 w.cell? ⟨b,o,none⟩=some (.string x.key)∧w.cell? ⟨b,o+1,none⟩=some (.int .i64 x.rep)∧w.cell? ⟨b,o+2,none⟩=some (.int .i64 x.cnt)∧w.cell? ⟨b,o+3,none⟩=some (.int .i64 x.rank) ∧
 w.cell? ⟨b,o+4,none⟩=some (.int .i64 x.prio)∧w.cell? ⟨b,o+5,none⟩=some (.bool x.dead)∧w.cell? ⟨b,o+6,none⟩=some (.string x.body)
theorem Jw.ext {w w':World}{o:Nat}{x:It}(h:Jw w b o x)(he:eX w w'):Jw w' b o x:=by
 obtain⟨h0,h1,h2,h3,h4,h5,h6⟩:=h
 exact⟨he.cell h0,he.cell h1,he.cell h2,he.cell h3,he.cell h4,he.cell h5,he.cell h6⟩
theorem Vd.open {w:World}{v:Value}(h:Vd w v l) :
 ∃a c b o,v=.slice a l.length c∧l.length≤c∧c≤maxLen∧(0<l.length→a=some ⟨b,o,none⟩)∧∀(i:Nat)(h:i<l.length),Jw w b (o+i*7) l[i]:=by
 obtain⟨a,c,b,o,hv,h1,h2,h3,h0,h4⟩:=h
 refine⟨a,c,b,o,hv,h1,h2,h3,fun i hi=>?_⟩
 have:=h4 i l[i] (by simp[hi])
 exact⟨this 0 _ rfl,this 1 _ rfl,this 2 _ rfl,this 3 _ rfl,this 4 _ rfl,this 5 _ rfl,this 6 _ rfl⟩
theorem Jw.box {w:World}(x:It)(T:TypeId):Jw (w.alloc (.cells #[.string x.key,.int .i64 x.rep,.int .i64 x.cnt,.int .i64 x.rank,.int .i64 x.prio,.bool x.dead,.string x.body] T)) w.heap.size 0 x:=by
 have hc:∀j v,(#[.string x.key,.int .i64 x.rep,.int .i64 x.cnt,.int .i64 x.rank,.int .i64 x.prio,.bool x.dead,.string x.body]:Array Value)[j]?=some v →
  (w.alloc (.cells #[.string x.key,.int .i64 x.rep,.int .i64 x.cnt,.int .i64 x.rank,.int .i64 x.prio,.bool x.dead,.string x.body] T)).cell? ⟨w.heap.size,j,none⟩=some v:=by
  intro j v hj
  rw[cell_of_row _ _ _ _ _ _ (heap_alloc_new w _)];exact hj
 exact⟨hc 0 _ rfl,hc 1 _ rfl,hc 2 _ rfl,hc 3 _ rfl,hc 4 _ rfl,hc 5 _ rfl,hc 6 _ rfl⟩
end Go.Proofs.YtaclhhkblbacgaaGreat
