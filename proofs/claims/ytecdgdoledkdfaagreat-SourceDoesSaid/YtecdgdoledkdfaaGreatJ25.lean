/- Lemmas, walks. -/
import Derived.Test.YtecdgdoledkdfaaGreatJ24
import Derived.Test.YtecdgdoledkdfaaGreatJ21
import Derived.Deep.RegionHeld3
import Derived.Lib.SlBytesConst
set_option maxRecDepth 10000
set_option maxHeartbeats 8000000
namespace Go.Proofs.YtecdgdoledkdfaaGreat
open Go.RowKit Go.Proofs.Tryz
variable {l:List It} {i:Nat} {k:List Pc} {a b:Nat} {w:World} {x:It}
theorem Fl (n:Int):1<=(aO n).length:=by grind[aO,gr]
theorem RI:∀(l:List Rn)(was:Int),l.length<=(jE was l).length:=by
 intro l
 induction l<;>grind[jE,Fl]
theorem X4 (k:Kn):1+k.runs.length<=(BX k).length:=by
 have h1:=RI k.runs 0
 have h2:=Fl k.rep
 grind[BX]
theorem Vt (s:List Kn):s.length+(s.flatMap Kn.runs).length<=(kK s).length:=by
 have:∀s:List Kn,s.length+(s.flatMap Kn.runs).length<=(s.flatMap BX).length:=by
  intro s
  induction s<;>grind[X4]
 have:=this s
 grind[kK]
theorem RJ (k:List Pc):(k.flatMap Pc.set).length+((k.flatMap Pc.set).flatMap Kn.runs).length<=(eu k).length:=by
 have:∀k:List Pc,(k.flatMap Pc.set).length+((k.flatMap Pc.set).flatMap Kn.runs).length<=(k.flatMap xf).length:=by
  intro k
  induction k<;>grind[Vt,xf]
 have:=this k
 grind[eu]
def aft (o:List It)(k:ByteArray):Bool:=match o.reverse with
 | []=>true
 | z::_=>decide (cG z.key k<0)
def Zp (o:List It)(x:It):Bool:=dA x&&aft o x.key
structure lC (l o:List It)(i:Nat)(b:Option Nat):Prop where
 le:i<=l.length
 hs:∀j,b=some j->∃hj:j<l.length,Zp o l[j]=true/\∀m (hm:m<l.length),m<i->Zp o l[m]=true->l[j].key<=l[m].key
 hn:b=none->∀m (hm:m<l.length),m<i->Zp o l[m]=false
theorem lC.zero (l o:List It):lC l o 0 none:=⟨aag _,λj h=>(by cases h),λ_ m _ h=>absurd h (abc _)⟩
theorem lC.skip {o:List It}{b:Option Nat}(h:lC l o i b)(hi:i<l.length)(hc:Zp o l[i]=false):lC l o (i+1) b:=by
 refine⟨hi,λj hj=>?_,λhb m hm hlt=>?_⟩
 ·obtain⟨a1,a2,a3⟩:=h.hs j hj
  grind
 ·rcases aaF m i with q|q
  ·exact h.hn hb m hm q
  grind
theorem lC.new {o:List It}{b:Option Nat}(h:lC l o i b)(hi:i<l.length)(hc:Zp o l[i]=true)(hb:∀j (hj:j<l.length),b=some j->cG l[i].key l[j].key<0):lC l o (i+1) (some i):=by
 refine⟨hi,λj hj=>?_,λhb=>by cases hb⟩
 cases hj
 refine⟨hi,hc,λm hm hlt hcm=>?_⟩
 rcases aaF m i with q|q
 ·cases b with
  | none=>have:=h.hn rfl m hm q;rw[hcm]at this;cases this
  | some j=>
   obtain⟨a1,a2,a3⟩:=h.hs j rfl
   have h1:=a3 m hm q hcm
   have h2:=(iP _ _).1 (hb j a1 rfl)
   grind
 grind
theorem lC.keep {o:List It}{j:Nat}(h:lC l o i (.some j))(hi:i<l.length)(hj:j<l.length)(hb:¬cG l[i].key l[j].key<0):lC l o (i+1) (.some j):=by
 refine⟨hi,λk hk=>?_,λhb=>by cases hb⟩
 cases hk
 obtain⟨a1,a2,a3⟩:=h.hs j rfl
 refine⟨a1,a2,λm hm hlt hcm=>?_⟩
 rcases aaF m i with q|q
 ·exact a3 m hm q hcm
 ·obtain rfl:m=i:=ae
  rw[iP]at hb
  grind
def Zq (s:Sta)(IN M:List It)(J:List Pc)(mo:Int)(ap:Bool)(f g:It->Bool):Sta×Int:=
 if IN.any (λx=>!f x&&!g x)then({},2)
 else if mo>s.cnt then({},2)
 else if ap=false then({},2)
 else if M.length>4096 then({},32)
 else(⟨s.id,s.flt,M,J,s.cnt⟩,0)
abbrev stZ:Blk:=.box 26 [iC .i64 0,.per (ai (.slice none 0 0)),.per (ai (.slice none 0 0)),.per (ai (.slice none 0 0)),iC .i64 0]
theorem Mn {p:It->Bool}(hi:i<l.length)(h:(l.take i).any p=false):(l.take (i+1)).any p=p l[i]:=by rw[bp l i hi,List.any_append,h];simp
theorem RL {p:It->Bool}(hi:i<l.length)(h:p l[i]=true):l.any p=true:=List.any_eq_true.2 ⟨_,aar hi,h⟩
theorem RM (s:Sta)(l IN M:List It)(k OW J:List Pc)(mo:Int)(ap:Bool)(f g:It->Bool)(hl:IN.length<=1000000)
 (a1:Fn prog 21 [kq s] (dE true)) (a2:Fn prog 56 [eS l] (dE true)) (a3:Fn prog 57 [dN k] (dE true))
 (a4:Fn prog 64 [eS l,cU s.flt] (.per (cX IN))) (a5:Fn prog 59 [ox k,.per (gd s.flt)] (.per (ib OW)))
 (a6:∀x∈IN,Fn prog 63 [dN s.know,sC x.key,vb x.rep x.cnt] (dE (f x))) (a7:∀x∈IN,Fn prog 63 [dN OW,sC x.key,vb x.rep x.cnt] (dE (g x)))
 (a8:Fn prog 60 [dN OW,iC .i64 s.id] (eA mo)) (a9:Fn prog 65 [.bor 1 [[cX s.its],[cX IN]]] (.per (cX M))) (a10:Fn prog 61 [eS M] (dE ap))
 (a11:Fn prog 66 [.bor 1 [[ib s.know],[ib OW]]] (.per (ib J))) (a12:Fn prog 67 [cU s.flt] (.per (gd s.flt))) :
 Fn prog 22 [kq s,.per (cX l),ox k] (.tup2 (.per (XY (Zq s IN M J mo ap f g).1)) (eA (Zq s IN M J mo ap f g).2)):=by
 unfold Zq
 generalize hp:(λx=>!f x&&!g x)=p
 refine fi func22 ntmps22 ?_
 (refine zT a1 a2 a3 a4 a5 ?_;repeat' first|apply aw|refine ah λhc=>?_)
 clear a1 a2 a3 a4 a5
 refine aj (X:=Nat) (λi=>i<=IN.length/\(IN.take i).any p=false) (λi=>aF [(1,.per (cX IN)),(2,ox OW),(3,.ptr 3 0 0),(6,.ptr 6 0 0),(7,iC .i64 0),(34,.per (cX IN)),(35,iC .i64 (IN.length:Nat)),(36,iC .i64 (i:Nat))] [(3,.box 26 ((sY s).map Cnt.per)),(6,stZ)]) (λi=>IN.length-i) 0 ⟨aag _,rfl⟩ ?_
 rintro i ⟨h1,h2⟩
 by_cases hi:i<IN.length
 ·have c6:=a6 _ (aar hi)
  have c7:=a7 _ (aar hi)
  have hsn:=Mn hi h2
  have hh:=RL (p:=p) hi
  have hpx:p IN[i]=(!f IN[i]&&!g IN[i]):=by rw[<-hp]
  clear a6 a7 a8 a9 a10 a11 a12 hp h2
  generalize f IN[i]=x1 at *
  generalize g IN[i]=x2 at *
  generalize p IN[i]=px at *
  cases x1 with
  | true=>
   subst hpx
   clear hh
   (refine bt c6 c7 ?_;repeat' first|apply aw|refine ah λhc=>?_)
   refine⟨i+1,⟨ae,hsn⟩,ae,?_⟩
   exact ab
  | false=>
   cases x2 with
   | true=>
    subst hpx
    clear hh
    (refine bt c6 c7 ?_;repeat' first|apply aw|refine ah λhc=>?_)
    refine⟨i+1,⟨ae,hsn⟩,ae,?_⟩
    exact ab
   | false=>
    subst hpx
    rw[aae (hh rfl)]
    clear hsn hh
    (refine bt c6 c7 ?_;repeat' first|apply aw|refine ah λhc=>?_)
    refine dV ?_ ?_
    ·exact m5
    ·exact aq rfl rfl
 ·rw[aaj ae]at h2
  rw[h2,aab aA]
  clear a6 a7 hp h2
  by_cases q1:mo>s.cnt
  ·rw[aae q1]
   clear a9 a10 a11 a12
   (refine au a8 ?_;repeat' first|apply aw|refine ah λhc=>?_)
   refine dV ?_ ?_
   ·exact m5
   ·exact aq rfl rfl
  rw[aab q1]
  cases ap with
  | false=>
   rw[aae rfl]
   clear a11 a12
   (refine fF a8 a9 a10 ?_;repeat' first|apply aw|refine ah λhc=>?_)
   refine dV ?_ ?_
   ·exact m5
   ·exact aq rfl rfl
  | true=>
   rw[aab aA]
   by_cases q2:M.length>4096
   ·rw[aae q2]
    clear a11 a12
    (refine fF a8 a9 a10 ?_;repeat' first|apply aw|refine ah λhc=>?_)
    refine dV ?_ ?_
    ·exact m5
    ·exact aq rfl rfl
   ·rw[aab q2]
    (refine zT a8 a9 a10 a11 a12 ?_;repeat' first|apply aw|refine ah λhc=>?_)
    refine dV ?_ ?_
    ·exact Od
    ·exact aq rfl rfl
theorem Mo (s:Sta)(l:List It)(k:List Pc)(a1:Fn prog 21 [kq s] (dE false)):Fn prog 22 [kq s,.per (cX l),ox k] (.tup2 (.per (XY {})) (eA 41)):=by
 refine fi func22 ntmps22 ?_
 (refine au a1 ?_;refine ah λhc=>?_)
 refine dV ?_ ?_
 ·exact m5
 ·exact aq rfl rfl
theorem RN (s:Sta)(l:List It)(k:List Pc)(b c:Bool)(h:(b&&c)=false)(a1:Fn prog 21 [kq s] (dE true))(a2:Fn prog 56 [eS l] (dE b))(a3:Fn prog 57 [dN k] (dE c)) :
 Fn prog 22 [kq s,.per (cX l),ox k] (.tup2 (.per (XY {})) (eA 2)):=by
 cases b<;>cases c
 case true.true=>cases h
 all_goals
  refine fi func22 ntmps22 ?_
  (refine fF a1 a2 a3 ?_;repeat' first|apply aw|refine ah λhc=>?_)
  refine dV ?_ ?_
  ·exact m5
  ·exact aq rfl rfl
structure vk (k:List Pc)(a b:Nat):Prop where
 len:k.length<=a
 set:∀p∈k,p.set.length<=16/\(p.set.flatMap Kn.runs).length<=b
theorem vk.mid (h:vk k a b)(ha:a*16<=1000000)(hb:a*b<=1000000):ez k:=by
 have key:∀l:List Pc,(∀p∈l,p.set.length<=16/\(p.set.flatMap Kn.runs).length<=b)->(l.flatMap Pc.set).length<=l.length*16/\((l.flatMap Pc.set).flatMap Kn.runs).length<=l.length*b:=by
  intro l
  induction l with
  | nil=>intro _;simp
  | cons p l ih=>
   intro h
   obtain⟨h1,h2⟩:=h p aa1
   obtain⟨i1,i2⟩:=ih (λq hq=>h q (aaY _ hq))
   rw[List.flatMap_cons,List.flatMap_append,aai,aai,aaD,abj,abj]
   constructor<;>omega
 obtain⟨h1,h2⟩:=key k h.set
 have h3:k.length*16<=a*16:=aaT _ h.len
 have h4:k.length*b<=a*b:=aaT _ h.len
 have h5:=h.len
 exact⟨ae,ae,ae⟩
theorem vk.le {c d:Nat}(h:vk k a b)(h1:a<=c)(h2:b<=d):vk k c d:=⟨by have:=h.len;omega,λp hp=>by have:=h.set p hp;omega⟩
theorem vk.get (h:vk k a b)(s:ByteArray):(eI k s).length<=16/\((eI k s).flatMap Kn.runs).length<=b:=by
 have key:∀l:List Pc,(∀p∈l,p.set.length<=16/\(p.set.flatMap Kn.runs).length<=b)->(eI l s).length<=16/\((eI l s).flatMap Kn.runs).length<=b:=by
  intro l
  induction l<;>grind[sH,ca,lY,gy]
 exact key k h.set
theorem RO {m:Int}(h:gL k m=false):vk k m.toNat 256:=by
 obtain⟨h1,h2⟩:=rc h
 refine⟨ae,λp hp=>?_⟩
 obtain⟨_,_,h3⟩:=h2 p hp
 obtain⟨g1,g2⟩:=xh h3
 have key:∀s:List Kn,(∀x∈s,(x.runs.length:Int)<=16)->(s.flatMap Kn.runs).length<=16*s.length:=by
  intro s
  induction s with
  | nil=>intro _;simp
  | cons x s ih=>
   intro h
   have h1:=h x aa1
   have h2:=ih (λy hy=>h y (aaY _ hy))
   rw[List.flatMap_cons,aai,aaD];omega
 have:=key _ g2
 omega
theorem Fm (X:List Kn):(gQ ofR X).length<=16:=(v6 (X:=X) (aaf _)).1
theorem vk.rest (h:vk k a b)(ok:aY k)(f:List Rg):vk (cW k f) (1+2*(a+f.length)) b:=by
 obtain⟨h1,h2⟩:=lz k f
 refine⟨?_,λp hp=>?_⟩
 ·have q1:=sJ (lL k f) (m3 k f)
  have q2:=lw (cV k++f) [emB]
  have q3:=h.len
  have q4:(cV k).length=k.length:=by unfold cV;simp
  rw[aai,q4,abx]at q2
  unfold cW
  have q5:(m3 k f).length=(js [emB] (cV k++f)).length:=rfl
  omega
 ·obtain⟨_,s,h3⟩:=sZ h1 p hp
  rw[<-h3,h2]
  unfold lL
  split
  ·rw[kN ok];exact h.get s
  ·simp
theorem vk.join {l:List Pc}{c d:Nat}(h:vk k a b)(h':vk l c d)(ok:aY k)(ok':aY l):vk (zo (k++l)) (1+2*(a+c)) (b+d):=by
 obtain⟨h1,h2⟩:=ri (k++l)
 refine⟨?_,λp hp=>?_⟩
 ·have q1:=sJ (mz (k++l)) (m0 (k++l))
  have q2:=xY (k++l)
  have q3:=h.len
  have q4:=h'.len
  rw[aai]at q2
  unfold zo
  omega
 ·obtain⟨_,s,h3⟩:=sZ h1 p hp
  rw[<-h3,h2,Ib]
  refine⟨Fm _,?_⟩
  have q1:=AI (mz k s++mz l s)
  rw[List.flatMap_append,aai,kN ok,kN ok']at q1
  rw[kN ok,kN ok']
  have q2:=(h.get s).2
  have q3:=(h'.get s).2
  omega
inductive CW:List Cnt->List Cnt->Prop
 | nil:CW [] []
 | same {c:Cnt} {l l':List Cnt} (k:CW l l'):CW (c::l) (c::l')
 | per {A B:PV} {l l':List Cnt} (h:yi A B) (k:CW l l'):CW (.per A::l) (.per B::l')
theorem CW.len {l l':List Cnt}(h:CW l l'):l.length=l'.length:=by induction h<;>grind
theorem CW.get {l l':List Cnt}(h:CW l l'):∀(j:Nat)(c':Cnt),l'[j]?=some c'->∃c,l[j]?=some c/\(c=c'\/∃A B,c=.per A/\c'=.per B/\yi A B):=by induction h<;>grind
theorem Fn.argsW {P:Program}{f:FuncId}{As Bs:List Cnt}{r:Ret}(h:Fn P f Bs r)(k:CW As Bs):Fn P f As r:=⟨h.ent,λN0 w vs hN ha=>by
 refine h.run N0 w vs hN ⟨by rw[ha.1,k.len],λi u c hi hj=>?_⟩
 obtain⟨c0,q1,q2⟩:=k.get i c hj
 rcases q2 with rfl|⟨A,B,rfl,rfl,q3⟩
 ·exact ha.2 i u c0 hi q1
 ·exact q3 _ _ _ (ha.2 i u (.per A) hi q1)⟩
theorem bZ.argsW {P:Program}{f:FuncId}{As Bs:List Cnt}{pre post:List (Nat×Blk)}{r:Cnt}(h:bZ P f Bs pre r post)(k:CW As Bs):bZ P f As pre r post:=⟨h.ent,λC w vs hw hN hd hl ha hp=>by
 refine h.run C w vs hw hN hd (by rw[hl,k.len]) (λi u c hi hj=>?_) hp
 obtain⟨c0,q1,q2⟩:=k.get i c hj
 rcases q2 with rfl|⟨A,B,rfl,rfl,q3⟩
 ·exact ha i u c0 hi q1
 ·exact q3 _ _ _ (ha i u (.per A) hi q1)⟩
theorem vk.app {l:List Pc}{c d:Nat}(h:vk k a b)(h':vk l c d):vk (k++l) (a+c) (max b d):=⟨by rw[aai];have:=h.len;have:=h'.len;omega,λp hp=>by
 rcases aaS.1 hp with q|q
 ·have:=h.set p q;omega
 ·have:=h'.set p q;omega⟩
structure TkB (s:Sta)(l:List It)(k:List Pc):Prop where
 st:WB s
 fl:s.flt.length<=12
 ll:l.length<=100000
 lk:n8 l
 sl:s.its.length<=100000
 km:ez k
 kl:k.length<=100000
 rm:aY k->ez (cW k s.flt)
 rl:aY k->(cW k s.flt).length<=100000
 jm:aY k->aY s.know->ez (s.know++cW k s.flt)
theorem RP {s:Sta}(h1:oA s=true)(h2:fV l=true)(h3:aY k) :
 qI s l k=Zq s (C3 s.flt l) (eJ [s.its++C3 s.flt l]) (zo (s.know++cW k s.flt)) (mb (cW k s.flt) s.id) (jw (eJ [s.its++C3 s.flt l])) (λx=>cq s.know x.key x.rep x.cnt) (λx=>cq (cW k s.flt) x.key x.rep x.cnt):=by grind[qI,Zq]
theorem RQ {s:Sta}(h1:oA s=false):qI s l k=({},41):=by grind[qI]
theorem Vu {s:Sta}(h1:oA s=true)(h2:(fV l&&decide (aY k))=false):qI s l k=({},2):=by grind[qI]
theorem Kg {f:List Rg}(h:n8 l):n8 (C3 f l):=λx hx=>h x (abt.1 hx).1
theorem Vv (f:List Rg)(l:List It):(C3 f l).length<=l.length:=List.length_filter_le _ _
theorem X5 (a b:List It):eJ [a,b]=eJ [a++b]:=by unfold eJ;simp
theorem IG (ls:List (List It)):(eJ ls).all dA=true:=aaH.2 (List.filter_eq_self.1 Cn)
theorem AX (ls:List (List It)):(eJ ls).length<=ls.flatten.length:=abk (Ih ls) (List.length_filter_le _ _)
theorem Fo {s:Sta}(h:TkB s l k):n8 (C3 s.flt l)/\(C3 s.flt l).length<=100000/\(eJ [s.its++C3 s.flt l]).length<=200000/\n8 (s.its++C3 s.flt l):=by
 have h1:=Vv s.flt l
 have h2:=h.ll
 have h3:=h.sl
 refine⟨Kg h.lk,ae,?_,λx hx=>?_⟩
 ·have:=AX [s.its++C3 s.flt l]
  grind
 ·rcases aaS.1 hx with q|q
  ·exact h.st.keys x q
  ·exact Kg h.lk x q
theorem Vw (s:Sta)(l:List It)(k:List Pc)(h:TkB s l k):Fn prog 22 [kq s,.per (cX l),ox k] (.tup2 (.per (XY (qI s l k).1)) (eA (qI s l k).2)):=by
 have a1:=tc s h.st
 cases hr:oA s with
 | false=>
  rw[hr]at a1
  rw[RQ hr]
  grind[Mo]
 | true=>
  rw[hr]at a1
  have a2:=uz l h.lk (by have:=h.ll;omega) (fV l) m6
  have a3:=iM k (dP h.km) (decide (aY k)) aA
  by_cases hb:(fV l&&decide (aY k))=false
  ·rw[Vu hr hb]
   grind[RN]
  ·have hb:fV l=true/\aY k:=by simpa using hb
   obtain⟨b1,b2⟩:=hb
   rw[b1]at a2
   rw[aao b2]at a3
   obtain⟨c1,c2,c3,c4,c5,c6,c7,c8,c9,c10⟩:=ru hr
   obtain⟨f1,f2,f3,f4⟩:=Fo h
   have hfl:=h.fl
   have hll:=h.ll
   have hsl:=h.sl
   have hz:fe (cW k s.flt):=dP (h.rm b2)
   rw[RP hr b1 b2]
   refine RM s l (C3 s.flt l) _ k (cW k s.flt) _ _ _ _ _ ae a1 a2 a3 (CA l s.flt h.lk ae c4 ae).frz ?_ (λx hx=>?_) (λx hx=>?_) ?_ ?_ ?_ ?_ ?_
   ·exact(po k s.flt h.km c4 ae (by have:=h.kl;omega) (sW s.flt c4 ae)).frz
   ·exact Cv s.know x.key x.rep x.cnt (dP h.st.kmid) (f1 x hx)
   ·exact Cv (cW k s.flt) x.key x.rep x.cnt hz (f1 x hx)
   ·exact Ka _ _ hz
   ·have:=(Ie [s.its,C3 s.flt l] (by
     grind) aA (λm hm=>by grind)).frz
    rw[X5]at this
    exact this
   ·exact Fc _ (IG _) ae
   ·have:=(U0 [s.know,cW k s.flt] aA (by simpa using h.jm b2 c6)).frz
    rw[show([s.know,cW k s.flt]:List (List Pc)).flatten=s.know++cW k s.flt by simp]at this
    exact this
   ·exact(IA s.flt ae).frz
def yE (s:Sta)(F:List Rg)(K:List Pc):Int:=Rz (oA s) (decide (bT F)) (decide (aY K))
def gA (s:Sta)(F:List Rg)(K:List Pc)(lim:Int)(R:List Rg)(hs:Int->Int->Bool):List (List It)×List Pc×Int:=
 if yE s F K≠0 then([],[],yE s F K)
 else if jC lim (g8 R hs (jU s.its F K))=0 then(uG lim (g8 R hs (jU s.its F K)),cW s.know F,0)
 else([],[],jC lim (g8 R hs (jU s.its F K)))
theorem IH {s:Sta}{F:List Rg}{K:List Pc}:yE s F K=0↔oA s=true/\bT F/\aY K:=by grind[yE,Rz]
theorem X6 (l:List It)(F:List Rg)(K:List Pc):(Vm F l).filter (λx=>!cq K x.key x.rep x.cnt)=jU l F K:=by simp_all[Vm,jU,Bool.and_comm]
theorem wh (l:List It)(F:List Rg)(K:List Pc):(jU l F K).length<=l.length:=List.length_filter_le _ _
theorem Kh {F:List Rg}{K:List Pc}(h:n8 l):n8 (jU l F K):=λx hx=>h x (abt.1 hx).1
structure RR (s:Sta)(F:List Rg)(K:List Pc)(lim:Int)(R:List Rg)(th:PV)(hs:Int->Int->Bool):Prop where
 st:WB s
 sl:s.its.length<=100000
 fl:F.length<=100000
 rl:bT R/\R.length<=1000000
 km:ez K
 l1:-9223372036854775808<=lim
 l2:lim<=9223372036854775807
 th:∀r c,Fn prog 350 [.per th,vb r c] (dE (hs r c))
section
variable {s:Sta} {F:List Rg} {K:List Pc} {lim:Int} {R:List Rg} {th:PV} {hs:Int->Int->Bool}
theorem Vx (h:RR s F K lim R th hs):Fn prog 268 [kq s,uJ F K lim R th] (eA (yE s F K)):=by
 have hf:=h.fl
 exact X3 s F K lim R th _ _ _ (tc s h.st) (mN F ae (decide (bT F)) aA) (iM K (dP h.km) (decide (aY K)) aA)
theorem Fp (h:RR s F K lim R th hs)(hF:bT F):Fn prog 270 [kq s,uJ F K lim R th] (.per (cX (jU s.its F K))):=by
 have hl:=h.sl
 have hi:(Vm F s.its).length<=s.its.length:=List.length_filter_le _ _
 have:=(IB s F K lim R th (Vm F s.its) (λx=>cq K x.key x.rep x.cnt) ae (CA s.its F h.st.keys ae hF (by have:=h.fl;omega)).frz (λx hx=>Cv K x.key x.rep x.cnt (dP h.km) (h.st.keys x (abt.1 hx).1))).frz
 rw[X6]at this
 exact this
theorem RS (h:RR s F K lim R th hs):Fn prog 269 [uJ F K lim R th,.per (cX (jU s.its F K))] (.tup2 (.per (cn 1 ((uG lim (g8 R hs (jU s.its F K))).map λc=>[cX c]))) (eA (jC lim (g8 R hs (jU s.its F K))))):=by
 have h1:=(RF R h.rl.1 h.rl.2 th hs h.th (jU s.its F K) (Kh h.st.keys) (by have:=wh s.its F K;have:=h.sl;omega)).frz
 have hl:(g8 R hs (jU s.its F K)).length<=1000000000:=by rw[uF];have:=wh s.its F K;have:=h.sl;omega
 exact Vp F K lim R th _ _ _ _ h1 (Fh lim _ hl h.l1 h.l2)
theorem Ki (h:RR s F K lim R th hs):Fn prog 232 [kq s,uJ F K lim R th] (.tup2 (.per (Kd (gA s F K lim R hs).1 (gA s F K lim R hs).2.1)) (eA (gA s F K lim R hs).2.2)):=by
 unfold gA
 have a1:=Vx h
 by_cases c:yE s F K≠0
 ·rw[aae c]
  grind[RA]
 ·rw[aab c]
  have c:=aaG.1 c
  rw[c]at a1
  obtain⟨c1,c2,c3⟩:=IH.1 c
  have hf:=h.fl
  have:=RB s F K lim R th _ _ _ (cW s.know F) a1 (Fp h c2) (RS h) (λ_=>(po s.know F h.st.kmid c2 ae h.st.kl (sW F c2 ae)).frz)
  by_cases e:jC lim (g8 R hs (jU s.its F K))=0
  all_goals grind
end
theorem RT (s:ByteArray)(w:World) :
 Calls prog 189 #[.string s] w λe w'=>e=.returned (.bool (mj s))/\w=w':=by
 go_enter func189,ntmps189
 go_wp2
 all_goals
  go_ret
  refine⟨gD (pB ?_),rfl⟩
  rw[mj,aav];simp;omega
theorem Fq (s:ByteArray)(w:World) :
 Calls prog 140 #[.string s] w λe w'=>e=.returned (.bool (mj s))/\w=w':=by
 go_enter func140,ntmps140
 go_wp2
 all_goals
  go_ret
  refine⟨gD (pB ?_),rfl⟩
  rw[mj,aav];simp;omega
theorem RU (r c:Int)(w:World) :
 Calls prog 190 #[.agg #[.int .i64 r,.int .i64 c]] w λe w'=>e=.returned (.bool (gc r c))/\bQ w w':=by
 go_enter func190,ntmps190
 go_wp2
 all_goals
  go_ret
  refine⟨gD (pB ?_),(bQ.refl _).alloc _⟩
  rw[gc,aav];simp;omega
theorem Fr (r c:Int)(w:World) :
 Calls prog 141 #[.agg #[.int .i64 r,.int .i64 c]] w λe w'=>e=.returned (.bool (gc r c))/\bQ w w':=by
 go_enter func141,ntmps141
 go_wp2
 all_goals
  go_ret
  refine⟨gD (pB ?_),(bQ.refl _).alloc _⟩
  rw[gc,aav];simp;omega
theorem Kj (x:It)(w:World) :
 Calls prog 103 #[tC x] w λe w'=>e=.returned (.bool (dA x))/\bQ w w':=by
 obtain⟨key,rep,cnt,rank,prio,dead,body⟩:=x
 unfold tC
 go_enter func103,ntmps103
 go_wp2_with fail
 refine(RT _ _).mono ?_
 rintro e w1 ⟨rfl,rfl⟩
 go_wp2_with (go_at_call 190;refine(RU _ _ _).mono ?_;rintro e w1 ⟨rfl,hx⟩;obtain⟨hc,hf⟩:=(show(∀b o,b<w.heap.size+1->w1.cell? ⟨b,o,none⟩=_)/\_ from⟨by simpa using hx.cells,by simpa using hx.frozens⟩))
 all_goals
  go_ret
  refine⟨gD (pB ?_),?_⟩
  ·simp only[dA]
   try simp only[zA]
   simp_all
   try omega
  ·first|exact(bQ.refl _).alloc _|exact((bQ.refl _).alloc _).trans hx
theorem yF (x:It)(w:World) :
 Calls prog 70 #[tC x] w λe w'=>e=.returned (.bool (dA x))/\bQ w w':=by
 obtain⟨key,rep,cnt,rank,prio,dead,body⟩:=x
 unfold tC
 go_enter func70,ntmps70
 go_wp2_with fail
 refine(Fq _ _).mono ?_
 rintro e w1 ⟨rfl,rfl⟩
 go_wp2_with (go_at_call 141;refine(Fr _ _ _).mono ?_;rintro e w1 ⟨rfl,hx⟩;obtain⟨hc,hf⟩:=(show(∀b o,b<w.heap.size+1->w1.cell? ⟨b,o,none⟩=_)/\_ from⟨by simpa using hx.cells,by simpa using hx.frozens⟩))
 all_goals
  go_ret
  refine⟨gD (pB ?_),?_⟩
  ·simp only[dA]
   try simp only[zA]
   simp_all
   try omega
   try (rw[aav];simp only[abq,abm,aaI,abb,<-ByteArray.size_eq_zero_iff];omega)
  ·first|exact(bQ.refl _).alloc _|exact((bQ.refl _).alloc _).trans hx
def zt (w:World)(b o:Nat)(x:It):Prop:=
 w.cell? ⟨b,o,none⟩=some (.string x.key)/\w.cell? ⟨b,o+1,none⟩=some (.int .i64 x.rep)/\w.cell? ⟨b,o+2,none⟩=some (.int .i64 x.cnt)/\w.cell? ⟨b,o+3,none⟩=some (.int .i64 x.rank) /\
 w.cell? ⟨b,o+4,none⟩=some (.int .i64 x.prio)/\w.cell? ⟨b,o+5,none⟩=some (.bool x.dead)/\w.cell? ⟨b,o+6,none⟩=some (.string x.body)
theorem zt.ext {w':World}{o:Nat}(h:zt w b o x)(he:bQ w w'):zt w' b o x:=by
 obtain⟨h0,h1,h2,h3,h4,h5,h6⟩:=h
 exact⟨he.cell h0,he.cell h1,he.cell h2,he.cell h3,he.cell h4,he.cell h5,he.cell h6⟩
theorem YZ.open {v:Value}(h:YZ w v l) :
 ∃a c b o,v=.slice a l.length c/\l.length<=c/\c<=maxLen/\(0<l.length->a=some ⟨b,o,none⟩)/\∀(i:Nat)(h:i<l.length),zt w b (o+i*7) l[i]:=by
 obtain⟨a,c,b,o,hv,h1,h2,h3,h0,h4⟩:=h
 refine⟨a,c,b,o,hv,h1,h2,h3,λi hi=>?_⟩
 have:=h4 i l[i] (by simp[hi])
 exact⟨this 0 _ rfl,this 1 _ rfl,this 2 _ rfl,this 3 _ rfl,this 4 _ rfl,this 5 _ rfl,this 6 _ rfl⟩
theorem zt.box (x:It)(T:TypeId):zt (w.alloc (.cells #[.string x.key,.int .i64 x.rep,.int .i64 x.cnt,.int .i64 x.rank,.int .i64 x.prio,.bool x.dead,.string x.body] T)) w.heap.size 0 x:=by
 have hc:∀j v,(#[.string x.key,.int .i64 x.rep,.int .i64 x.cnt,.int .i64 x.rank,.int .i64 x.prio,.bool x.dead,.string x.body]:Array Value)[j]?=some v ->
  (w.alloc (.cells #[.string x.key,.int .i64 x.rep,.int .i64 x.cnt,.int .i64 x.rank,.int .i64 x.prio,.bool x.dead,.string x.body] T)).cell? ⟨w.heap.size,j,none⟩=some v:=by grind[cell_of_row,heap_alloc_new]
 exact⟨hc 0 _ rfl,hc 1 _ rfl,hc 2 _ rfl,hc 3 _ rfl,hc 4 _ rfl,hc 5 _ rfl,hc 6 _ rfl⟩
theorem AY (v vl:Value)(l:List UInt8)(ns:List Int)(w:World)(hv:Bs w v l)(hl:Sl 1 encI w vl ns)(hb:l.length+9*ns.length<=70368744177664)
 (hok:∀n∈ns,bF n):Calls prog 184 #[v,vl] w (jI 5 1 encB w (l++ns.flatMap aO)):=by
 go_enter func184,ntmps184
 go_wp2_with fail
 refine(OZ _ _ l ns _ hv hl hb hok).mono ?_
 rintro e w1 ⟨v1,rfl,hown⟩
 go_wp2
 go_ret
 exact⟨_,rfl,hown⟩
theorem vm {w':World}{T:TypeId}(h:bQ (w.alloc (.cells #[.string x.key,.int .i64 x.rep,.int .i64 x.cnt,.int .i64 x.rank,.int .i64 x.prio,.bool x.dead,.string x.body] T)) w') :
 bQ (w.alloc (.cells #[.string x.key,.int .i64 x.rep,.int .i64 x.cnt,.int .i64 x.rank,.int .i64 x.prio,.bool x.dead,.string x.body] T)) w' /\
 w'.cell? ⟨w.heap.size,0,none⟩=some (.string x.key)/\w'.cell? ⟨w.heap.size,1,none⟩=some (.int .i64 x.rep)/\w'.cell? ⟨w.heap.size,2,none⟩=some (.int .i64 x.cnt) /\
 w'.cell? ⟨w.heap.size,3,none⟩=some (.int .i64 x.rank)/\w'.cell? ⟨w.heap.size,4,none⟩=some (.int .i64 x.prio)/\w'.cell? ⟨w.heap.size,5,none⟩=some (.bool x.dead)/\w'.cell? ⟨w.heap.size,6,none⟩=some (.string x.body):=by
 have hc:∀j v,(#[.string x.key,.int .i64 x.rep,.int .i64 x.cnt,.int .i64 x.rank,.int .i64 x.prio,.bool x.dead,.string x.body]:Array Value)[j]?=some v->w'.cell? ⟨w.heap.size,j,none⟩=some v:=by
  intro j v hj
  refine h.cell ?_
  rw[cell_of_row _ _ _ _ _ _ (heap_alloc_new w _)];exact hj
 simp_all
def qm (x:It):List Int:=[x.rep,x.cnt,x.rank,x.prio,if x.dead then 1 else 0]
def iQ (x:It):List UInt8:=(qm x).flatMap aO++bi x.body
theorem jV (h:dA x=true):(∀n∈qm x,bF n)/\x.body.size<=64/\1<=x.key.size/\x.key.size<=16:=by grind[dA,mj,gc,qm,bF]
theorem iR (s:ByteArray)(h:s.size<=127):(bi s).length=1+s.size:=by unfold bi;rw[gb ae];simp;omega
theorem X7 (v:Value)(key:ByteArray)(rep cnt rank prio:Int)(body:ByteArray)(l:List UInt8)(w:World)(hv:Bs w v l)(hr:dA ⟨key,rep,cnt,rank,prio,false,body⟩=true)(hb:l.length<=1000000) :
 Calls prog 186 #[v,tC ⟨key,rep,cnt,rank,prio,false,body⟩] w (jI 5 1 encB w (l++iQ ⟨key,rep,cnt,rank,prio,false,body⟩)):=by
 obtain⟨hnums,hbody,_,_⟩:=jV hr
 have HN:Hid (∀n∈[rep,cnt,rank,prio,0],bF n):=Lib.hid hnums
 have hlen:=gV _ HN.out
 replace hbody:body.size<=64:=hbody
 have htl:=iR body ae
 have HL:Hid (iQ ⟨key,rep,cnt,rank,prio,false,body⟩=[rep,cnt,rank,prio,0].flatMap aO++bi body):=Lib.hid rfl
 generalize hns:[rep,cnt,rank,prio,0].flatMap aO=nums at *
 have HNS:=Lib.hid hns
 have hlen':nums.length<=45:=by simpa using hlen
 have htl':(bi body).length<=65:=ae
 clear hnums hr hlen hns htl hbody
 unfold tC
 go_enter func186,ntmps186
 go_wp2_with fail
 go_region_held3 (λw'=>bQ (w.alloc (.cells #[.string key,.int .i64 rep,.int .i64 cnt,.int .i64 rank,.int .i64 prio,.bool false,.string body] 79)) w'/\w'.cell? ⟨w.heap.size,0,none⟩=some (.string key)/\w'.cell? ⟨w.heap.size,1,none⟩=some (.int .i64 rep)/\w'.cell? ⟨w.heap.size,2,none⟩=some (.int .i64 cnt)/\w'.cell? ⟨w.heap.size,3,none⟩=some (.int .i64 rank)/\w'.cell? ⟨w.heap.size,4,none⟩=some (.int .i64 prio)/\w'.cell? ⟨w.heap.size,5,none⟩=some (.bool false)/\w'.cell? ⟨w.heap.size,6,none⟩=some (.string body))
  (first|exact vm (x:=⟨key,rep,cnt,rank,prio,false,body⟩) ‹bQ _ _›|exact vm (x:=⟨key,rep,cnt,rank,prio,false,body⟩) (bQ.drew (bQ.refl _))|exact vm (x:=⟨key,rep,cnt,rank,prio,false,body⟩) (bQ.alloc (And.left ‹_›) _))
  (first|(go_at_call 184;refine Calls.mono (AY _ _ l [rep,cnt,rank,prio,0] _ ?_ ?_ ?_ HN.out) ?_;exact hv.ext (by repeat (first|assumption|exact bQ.refl _|refine bQ.alloc ?_ _|refine bQ.drew ?_|refine bQ.drewN ?_ _));exact Sl.lit vD.len (by(repeat refine(ft _ _).trans ?_);first|(refine aN _ _ _ ?_<;>(first|rfl|(simp;done)|(simp;omega)))|(refine(an _ _ _ ?_).trans (aN _ _ _ ?_)<;>(first|rfl|(simp;done)|(simp;omega)))|(refine(an _ _ _ ?_).trans ((an _ _ _ ?_).trans (aN _ _ _ ?_))<;>(first|rfl|(simp;done)|(simp;omega)))|(refine(an _ _ _ ?_).trans ((an _ _ _ ?_).trans ((an _ _ _ ?_).trans (aN _ _ _ ?_)))<;>(first|rfl|(simp;done)|(simp;omega)))|(refine(an _ _ _ ?_).trans ((an _ _ _ ?_).trans ((an _ _ _ ?_).trans ((an _ _ _ ?_).trans (aN _ _ _ ?_))))<;>(first|rfl|(simp;done)|(simp;omega)))) rfl rfl (aaf _) (by simp[maxLen]);(simp;omega);rw[HNS.out];rintro e w2 ⟨v2,rfl,hown⟩;have hE2:=hown.ext;have hE:=bQ.trans (And.left ‹bQ _ _/\_›) hE2;have hown1:=hown.mono (w0:=w) (by repeat (first|assumption|exact bQ.refl _|refine bQ.alloc ?_ _|refine bQ.drew ?_|refine bQ.drewN ?_ _));have hx2:=hown1.ext;clear hown)|(go_at_call 107;refine Calls.mono (sb _ _ (l++nums) [body] _ ?_ ?_ ?_) ?_;exact((hown1.sl cb).ext (by repeat (first|assumption|exact bQ.refl _|refine bQ.alloc ?_ _|refine bQ.drew ?_|refine bQ.drewN ?_ _)));(first|exact Sl.new1 rG.len _ _ _ body rfl|exact Sl.ext (Sl.lit rG.len (by(repeat refine(ft _ _).trans ?_);first|(refine aN _ _ _ ?_<;>(first|rfl|(simp;done)|(simp;omega)))|(refine(an _ _ _ ?_).trans (aN _ _ _ ?_)<;>(first|rfl|(simp;done)|(simp;omega)))|(refine(an _ _ _ ?_).trans ((an _ _ _ ?_).trans (aN _ _ _ ?_))<;>(first|rfl|(simp;done)|(simp;omega)))|(refine(an _ _ _ ?_).trans ((an _ _ _ ?_).trans ((an _ _ _ ?_).trans (aN _ _ _ ?_)))<;>(first|rfl|(simp;done)|(simp;omega)))|(refine(an _ _ _ ?_).trans ((an _ _ _ ?_).trans ((an _ _ _ ?_).trans ((an _ _ _ ?_).trans (aN _ _ _ ?_))))<;>(first|rfl|(simp;done)|(simp;omega)))) rfl rfl (aaf _) (by simp[maxLen])) hE2);(simp;omega);rintro e w3 ⟨v3,rfl,hown3⟩;have hE3:=bQ.trans (And.left ‹bQ _ _/\_›) hown3.ext;have hown4:=hown3.mono (w0:=w) (by repeat (first|assumption|exact bQ.refl _|refine bQ.alloc ?_ _|refine bQ.drew ?_|refine bQ.drewN ?_ _));clear hown3))
 all_goals
  go_wp2
  go_ret
  refine⟨_,rfl,?_⟩
  rw[HL.out,<-aal]
  simpa using hown4
theorem X8 (v:Value)(key:ByteArray)(rep cnt rank prio:Int)(body:ByteArray)(l:List UInt8)(w:World)(hv:Bs w v l)(hr:dA ⟨key,rep,cnt,rank,prio,true,body⟩=true)(hb:l.length<=1000000) :
 Calls prog 186 #[v,tC ⟨key,rep,cnt,rank,prio,true,body⟩] w (jI 5 1 encB w (l++iQ ⟨key,rep,cnt,rank,prio,true,body⟩)):=by
 obtain⟨hnums,hbody,_,_⟩:=jV hr
 have HN:Hid (∀n∈[rep,cnt,rank,prio,1],bF n):=Lib.hid hnums
 have hlen:=gV _ HN.out
 replace hbody:body.size<=64:=hbody
 have htl:=iR body ae
 have HL:Hid (iQ ⟨key,rep,cnt,rank,prio,true,body⟩=[rep,cnt,rank,prio,1].flatMap aO++bi body):=Lib.hid rfl
 generalize hns:[rep,cnt,rank,prio,1].flatMap aO=nums at *
 have HNS:=Lib.hid hns
 have hlen':nums.length<=45:=by simpa using hlen
 have htl':(bi body).length<=65:=ae
 clear hnums hr hlen hns htl hbody
 unfold tC
 go_enter func186,ntmps186
 go_wp2_with fail
 go_region_held3 (λw'=>bQ (w.alloc (.cells #[.string key,.int .i64 rep,.int .i64 cnt,.int .i64 rank,.int .i64 prio,.bool true,.string body] 79)) w'/\w'.cell? ⟨w.heap.size,0,none⟩=some (.string key)/\w'.cell? ⟨w.heap.size,1,none⟩=some (.int .i64 rep)/\w'.cell? ⟨w.heap.size,2,none⟩=some (.int .i64 cnt)/\w'.cell? ⟨w.heap.size,3,none⟩=some (.int .i64 rank)/\w'.cell? ⟨w.heap.size,4,none⟩=some (.int .i64 prio)/\w'.cell? ⟨w.heap.size,5,none⟩=some (.bool true)/\w'.cell? ⟨w.heap.size,6,none⟩=some (.string body))
  (first|exact vm (x:=⟨key,rep,cnt,rank,prio,true,body⟩) ‹bQ _ _›|exact vm (x:=⟨key,rep,cnt,rank,prio,true,body⟩) (bQ.drew (bQ.refl _))|exact vm (x:=⟨key,rep,cnt,rank,prio,true,body⟩) (bQ.alloc (And.left ‹_›) _))
  (first|(go_at_call 184;refine Calls.mono (AY _ _ l [rep,cnt,rank,prio,1] _ ?_ ?_ ?_ HN.out) ?_;exact hv.ext (by repeat (first|assumption|exact bQ.refl _|refine bQ.alloc ?_ _|refine bQ.drew ?_|refine bQ.drewN ?_ _));exact Sl.lit vD.len (by(repeat refine(ft _ _).trans ?_);first|(refine aN _ _ _ ?_<;>(first|rfl|(simp;done)|(simp;omega)))|(refine(an _ _ _ ?_).trans (aN _ _ _ ?_)<;>(first|rfl|(simp;done)|(simp;omega)))|(refine(an _ _ _ ?_).trans ((an _ _ _ ?_).trans (aN _ _ _ ?_))<;>(first|rfl|(simp;done)|(simp;omega)))|(refine(an _ _ _ ?_).trans ((an _ _ _ ?_).trans ((an _ _ _ ?_).trans (aN _ _ _ ?_)))<;>(first|rfl|(simp;done)|(simp;omega)))|(refine(an _ _ _ ?_).trans ((an _ _ _ ?_).trans ((an _ _ _ ?_).trans ((an _ _ _ ?_).trans (aN _ _ _ ?_))))<;>(first|rfl|(simp;done)|(simp;omega)))) rfl rfl (aaf _) (by simp[maxLen]);(simp;omega);rw[HNS.out];rintro e w2 ⟨v2,rfl,hown⟩;have hE2:=hown.ext;have hE:=bQ.trans (And.left ‹bQ _ _/\_›) hE2;have hown1:=hown.mono (w0:=w) (by repeat (first|assumption|exact bQ.refl _|refine bQ.alloc ?_ _|refine bQ.drew ?_|refine bQ.drewN ?_ _));have hx2:=hown1.ext;clear hown)|(go_at_call 107;refine Calls.mono (sb _ _ (l++nums) [body] _ ?_ ?_ ?_) ?_;exact((hown1.sl cb).ext (by repeat (first|assumption|exact bQ.refl _|refine bQ.alloc ?_ _|refine bQ.drew ?_|refine bQ.drewN ?_ _)));(first|exact Sl.new1 rG.len _ _ _ body rfl|exact Sl.ext (Sl.lit rG.len (by(repeat refine(ft _ _).trans ?_);first|(refine aN _ _ _ ?_<;>(first|rfl|(simp;done)|(simp;omega)))|(refine(an _ _ _ ?_).trans (aN _ _ _ ?_)<;>(first|rfl|(simp;done)|(simp;omega)))|(refine(an _ _ _ ?_).trans ((an _ _ _ ?_).trans (aN _ _ _ ?_))<;>(first|rfl|(simp;done)|(simp;omega)))|(refine(an _ _ _ ?_).trans ((an _ _ _ ?_).trans ((an _ _ _ ?_).trans (aN _ _ _ ?_)))<;>(first|rfl|(simp;done)|(simp;omega)))|(refine(an _ _ _ ?_).trans ((an _ _ _ ?_).trans ((an _ _ _ ?_).trans ((an _ _ _ ?_).trans (aN _ _ _ ?_))))<;>(first|rfl|(simp;done)|(simp;omega)))) rfl rfl (aaf _) (by simp[maxLen])) hE2);(simp;omega);rintro e w3 ⟨v3,rfl,hown3⟩;have hE3:=bQ.trans (And.left ‹bQ _ _/\_›) hown3.ext;have hown4:=hown3.mono (w0:=w) (by repeat (first|assumption|exact bQ.refl _|refine bQ.alloc ?_ _|refine bQ.drew ?_|refine bQ.drewN ?_ _));clear hown3))
 all_goals
  go_wp2
  go_ret
  refine⟨_,rfl,?_⟩
  rw[HL.out,<-aal]
  simpa using hown4
theorem RV (v:Value)(x:It)(l:List UInt8)(w:World)(hv:Bs w v l)(hr:dA x=true)(hb:l.length<=1000000) :
 Calls prog 186 #[v,tC x] w (jI 5 1 encB w (l++iQ x)):=by
 obtain⟨key,rep,cnt,rank,prio,dead,body⟩:=x
 cases dead
 ·exact X7 v key rep cnt rank prio body l w hv hr hb
 ·exact X8 v key rep cnt rank prio body l w hv hr hb
def vn (x:It):List UInt8:=bi x.key++iQ x
theorem II (h:dA x=true):(iQ x).length<=110:=by
 obtain⟨h1,h2,_,_⟩:=jV h
 have h3:=gV _ h1
 have h4:=iR x.body ae
 simp only[iQ,aai]
 simp only[qm,aaD,List.length_nil]at h3 ⊢
 omega
theorem Vy (x:It)(w:World)(hr:dA x=true) :
 Calls prog 264 #[tC x] w (Jk 5 1 encB w (vn x) (.int .i64 0)):=by
 obtain⟨_,_,hk0,hk1⟩:=jV hr
 have htk:=iR x.key ae
 have htk':(bi x.key).length<=17:=ae
 have HR:=Lib.hid hr
 have HB:Hid (vn x=bi x.key++iQ x):=Lib.hid rfl
 clear htk hr hk0 hk1
 unfold tC
 go_enter func264,ntmps264
 go_wp2_with fail
 refine(Kj x _).mono ?_
 rw[HR.out]
 rintro e w1 ⟨rfl,hx1⟩
 go_wp2_with fail
 go_region_held3 (λw'=>bQ (w.alloc (.cells #[.string x.key,.int .i64 x.rep,.int .i64 x.cnt,.int .i64 x.rank,.int .i64 x.prio,.bool x.dead,.string x.body] 79)) w'/\w'.cell? ⟨w.heap.size,0,none⟩=some (.string x.key)/\w'.cell? ⟨w.heap.size,1,none⟩=some (.int .i64 x.rep)/\w'.cell? ⟨w.heap.size,2,none⟩=some (.int .i64 x.cnt)/\w'.cell? ⟨w.heap.size,3,none⟩=some (.int .i64 x.rank)/\w'.cell? ⟨w.heap.size,4,none⟩=some (.int .i64 x.prio)/\w'.cell? ⟨w.heap.size,5,none⟩=some (.bool x.dead)/\w'.cell? ⟨w.heap.size,6,none⟩=some (.string x.body))
  (first|exact vm (x:=x) (by repeat (first|assumption|exact bQ.refl _|refine bQ.alloc ?_ _|refine bQ.drew ?_|refine bQ.drewN ?_ _))|exact vm (x:=x) (bQ.alloc (And.left ‹_›) _))
  (first|(go_at_call 107;refine Calls.mono (sb _ _ [] [x.key] _ ?_ ?_ ?_) ?_;exact Sl.nil _;exact Sl.lit rG.len (by(repeat refine(ft _ _).trans ?_);first|(refine aN _ _ _ ?_<;>(first|rfl|(simp;done)|(simp;omega)))|(refine(an _ _ _ ?_).trans (aN _ _ _ ?_)<;>(first|rfl|(simp;done)|(simp;omega)))|(refine(an _ _ _ ?_).trans ((an _ _ _ ?_).trans (aN _ _ _ ?_))<;>(first|rfl|(simp;done)|(simp;omega)))|(refine(an _ _ _ ?_).trans ((an _ _ _ ?_).trans ((an _ _ _ ?_).trans (aN _ _ _ ?_)))<;>(first|rfl|(simp;done)|(simp;omega)))|(refine(an _ _ _ ?_).trans ((an _ _ _ ?_).trans ((an _ _ _ ?_).trans ((an _ _ _ ?_).trans (aN _ _ _ ?_))))<;>(first|rfl|(simp;done)|(simp;omega)))) rfl rfl (aaf _) (by simp[maxLen]);(simp;omega);rintro e w2 ⟨v2,rfl,hown⟩;have hE2:=hown.ext;have hE:=bQ.trans (And.left ‹bQ _ _/\_›) hE2;have hown1:=hown.mono (w0:=w) (bQ.trans (bQ.alloc (bQ.refl _) _) (And.left ‹bQ _ _/\_›));clear hown)|(go_at_call 186;refine Calls.mono (RV _ x (bi x.key) _ ?_ HR.out ?_) ?_;exact(by simpa using hown1.sl cb);omega;rintro e w3 ⟨v3,rfl,hown3⟩;have hE3:=bQ.trans (And.left ‹bQ _ _/\_›) hown3.ext;have hown4:=hown3.mono (w0:=w) hown1.ext;clear hown3))
 all_goals
  go_wp2
  go_ret2
  refine⟨_,rfl,?_⟩
  rw[HB.out]
  exact hown4
def oy (n lo hi:Int):Int:=max lo (min n hi)
theorem Ft (n lo hi:Int)(w:World) :
 Calls prog 312 #[.int .i64 n,.int .i64 lo,.int .i64 hi] w λe w'=>e=.returned (.int .i64 (oy n lo hi))/\w=w':=by
 go_enter func312,ntmps312
 go_wp2
 all_goals
  go_ret
  refine⟨gD (ku ?_),rfl⟩
  unfold oy
  omega
def cut (h n:Int):Int:=h % (2:Int) ^ (oy n 0 64).toNat
theorem Mp {h n:Int}(h0:0<=h)(h1:h<18446744073709551616)(hm:oy n 0 64=64):cut h n=h:=by grind[cut]
theorem CD (h:Int)(m:Nat)(h0:0<=h)(h1:h<18446744073709551616)(hm:m<64) :
 bits BinOp.and IntKind.u64 h ((2:Int) ^ m-1)=h % 2 ^ m:=by
 obtain⟨q,rfl⟩:=Int.eq_ofNat_of_zero_le h0
 have hp:(2:Nat) ^ m<2 ^ 64:=Nat.pow_lt_pow_right ae hm
 have hp0:0<(2:Nat) ^ m:=Nat.two_pow_pos m
 have e:((2:Int) ^ m-1)=((2 ^ m-1:Nat):Int):=by rw[Int.natCast_sub ae];simp
 rw[e,bits_and_u64_nat _ _ ae ae,Nat.and_two_pow_sub_one_eq_mod]
 simp
theorem RX (m:Nat)(hm:m<64):IntKind.u64.wrap (IntKind.u64.wrap ((2:Int) ^ m)-1)=2 ^ m-1:=by
 have hp:(2:Nat) ^ m<2 ^ 64:=Nat.pow_lt_pow_right ae hm
 have hp0:0<(2:Nat) ^ m:=Nat.two_pow_pos m
 grind[IntKind.wrap_u64]
theorem Vz (h n:Int)(w:World)(h0:0<=h)(h1:h<18446744073709551616) :
 Calls prog 267 #[.int .u64 h,.int .i64 n] w λe w'=>e=.returned (.int .u64 (cut h n))/\w=w':=by
 have H1:=Lib.hid h1
 clear h1
 by_cases hm:oy n 0 64=64
 ·have HM:=Lib.hid hm
  have hb:(oy n 0 64==64)=true:=by rw[hm];rfl
  clear hm
  go_enter func267,ntmps267
  go_wp2_with (go_at_call 312;refine(Ft _ _ _ _).mono ?_;rintro e w' ⟨rfl,rfl⟩)
  go_ret
  exact⟨gD (ku (Mp h0 H1.out HM.out).symm),rfl⟩
 ·have hb:(oy n 0 64==64)=false:=by simp[hm]
  have hm0:0<=oy n 0 64:=by unfold oy;omega
  have hm1:oy n 0 64<64:=by unfold oy at *;omega
  have HC':Hid (cut h n=h % (2:Int) ^ (oy n 0 64).toNat):=Lib.hid rfl
  clear hm
  obtain⟨m,hm⟩:=Int.eq_ofNat_of_zero_le hm0
  rw[hm]at hb hm1 HC'
  have HM:=Lib.hid hm
  clear hm hm0
  go_enter func267,ntmps267
  go_wp2_with (go_at_call 312;refine(Ft _ _ _ _).mono ?_;rw[HM.out];rintro e w' ⟨rfl,rfl⟩)
  go_ret
  refine⟨gD (ku ?_),rfl⟩
  rw[HC'.out,RX m ae,CD h m h0 H1.out ae]
  simp
theorem Fv (h:Int)(k:Nat)(h0:0<=h)(h1:h<18446744073709551616)(hk:k<64) :
 IntKind.u64.wrap ((h / 2 ^ k).tdiv 2)=h / 2 ^ (k+1) /\
 ((h / 2 ^ k) % 2=1->IntKind.u64.wrap (h % 2 ^ k+2 ^ k)=h % 2 ^ (k+1)) /\
 (¬(h / 2 ^ k) % 2=1->h % 2 ^ k=h % 2 ^ (k+1)) /\
 (k+1<64->IntKind.u64.wrap ((2:Int) ^ k*2)=2 ^ (k+1)):=by
 obtain⟨n,rfl⟩:=Int.eq_ofNat_of_zero_le h0
 have hp:(2:Nat) ^ (k+1)<=2 ^ 64:=Nat.pow_le_pow_right ae hk
 have hp0:0<(2:Nat) ^ k:=Nat.two_pow_pos k
 have hs:(2:Nat) ^ (k+1)=2 ^ k*2:=Nat.pow_succ 2 k
 have e1:((n:Int) / 2 ^ k)=((n / 2 ^ k:Nat):Int):=aA
 have e2:((n:Int) % 2 ^ k)=((n % 2 ^ k:Nat):Int):=aA
 have e3:((n:Int) / 2 ^ (k+1))=((n / 2 ^ (k+1):Nat):Int):=aA
 have e4:((n:Int) % 2 ^ (k+1))=((n % 2 ^ (k+1):Nat):Int):=aA
 have e5:((2:Int) ^ k)=((2 ^ k:Nat):Int):=aA
 have e6:((2:Int) ^ (k+1))=((2 ^ (k+1):Nat):Int):=aA
 have hdd:n / 2 ^ (k+1)=n / 2 ^ k / 2:=by rw[hs,Nat.div_div_eq_div_mul]
 have hmm:n % 2 ^ (k+1)=n % 2 ^ k+2 ^ k*(n / 2 ^ k % 2):=by rw[hs,Nat.mod_mul]
 have hlt:n % 2 ^ k<2 ^ k:=abB _ hp0
 have hdl:n / 2 ^ k<=n:=Nat.div_le_self _ _
 have h1':n<18446744073709551616:=ae
 rw[e1,e2,e3,e4,e5,e6,hdd,hmm]
 clear e1 e2 e3 e4 e5 e6 hdd hmm h0 h1
 generalize n / 2 ^ k=q at *
 generalize n % 2 ^ k=r at *
 rw[abf ae]
 refine⟨?_,λhq=>?_,λhq=>?_,λhk'=>?_⟩
 ·rw[IntKind.wrap_u64];omega
 ·rw[IntKind.wrap_u64,show q % 2=1 by omega,abF];grind
 ·rw[show q % 2=0 by omega];simp
 ·have hp':(2:Nat) ^ (k+1)<2 ^ 64:=Nat.pow_lt_pow_right ae hk'
  rw[IntKind.wrap_u64];omega
theorem IJ (h n:Int)(w:World)(h0:0<=h)(h1:h<18446744073709551616) :
 Calls prog 315 #[.int .u64 h,.int .i64 n] w λe w'=>e=.returned (.int .u64 (cut h n))/\w=w':=by
 have H1:=Lib.hid h1
 clear h1
 go_enter func315,ntmps315
 go_wp2
 go_loop [0,5,6,7] (λs0 s5 s6 s7=>∃(k:Nat)(q out val:Int),k<=64/\0<=q/\s0=.int .u64 q/\s5=.int .u64 out/\s6=.int .u64 val/\s7=.int .i64 k /\
  Hid (q=h / 2 ^ k/\out=h % 2 ^ k/\(k<64->val=2 ^ k)/\(k:Int)<=max 0 n)) (λ_ _ _ i=>64-(intOf i).toNat)
 case atStart=>exact⟨0,h,0,1,ae,h0,rfl,rfl,rfl,rfl,Lib.hid ⟨aA,aA,λ_=>rfl,ae⟩⟩
 case round=>
  obtain⟨k,q,out,val,hk,hq,rfl,rfl,rfl,rfl,HH⟩:=hrel
  by_cases hlt:k<64
  ·by_cases hn:(k:Int)<n
   ·by_cases hodd:q % 2=1
    ·have ho:(q % 2==1)=true:=by rw[hodd];rfl
     clear hodd
     go_wp2
     go_round
     case rel=>
      obtain⟨rfl,rfl,hv,_⟩:=HH.out
      obtain rfl:=hv hlt
      obtain⟨c1,c2,c3,c4⟩:=Fv h k h0 H1.out hlt
      exact⟨k+1,_,_,_,ae,lm _,rfl,rfl,rfl,by go_num,Lib.hid ⟨c1,c2 (by simpa using ho),c4,ae⟩⟩
     case measure=>simp[intOf];omega
    ·have ho:(q % 2==1)=false:=by simp[hodd]
     clear hodd
     go_wp2
     go_round
     case rel=>
      obtain⟨rfl,rfl,hv,_⟩:=HH.out
      obtain rfl:=hv hlt
      obtain⟨c1,c2,c3,c4⟩:=Fv h k h0 H1.out hlt
      exact⟨k+1,_,_,_,ae,lm _,rfl,rfl,rfl,by go_num,Lib.hid ⟨c1,c3 (by simpa using ho),c4,ae⟩⟩
     case measure=>simp[intOf];omega
   ·go_wp2
    go_ret
    obtain⟨rfl,rfl,hv,hm⟩:=HH.out
    refine⟨gD (ku ?_),rfl⟩
    rw[cut,show(oy n 0 64).toNat=k by unfold oy;omega]
  ·go_wp2
   go_ret
   obtain⟨rfl,rfl,hv,hm⟩:=HH.out
   refine⟨gD (ku ?_),rfl⟩
   rw[cut,show(oy n 0 64).toNat=k by unfold oy;omega]
theorem RY (x:It)(w:World)(hr:dA x=false) :
 Calls prog 264 #[tC x] w λe w'=>e=.returned (.tuple #[.slice none 0 0,.int .i64 2])/\bQ w w':=by
 have HR:=Lib.hid hr
 clear hr
 unfold tC
 go_enter func264,ntmps264
 go_wp2_with fail
 refine(Kj x _).mono ?_
 rw[HR.out]
 rintro e w1 ⟨rfl,hx1⟩
 go_wp2
 go_ret2
 exact⟨rfl,((bQ.refl _).alloc _).trans hx1⟩
def eM (seed:Int)(x:It):Int:=if dA x then gY seed (vn x)else 0
theorem Mq (seed:Int)(x:It)(w:World) :
 Calls prog 229 #[.int .u64 seed,tC x] w λe w'=>e=.returned (.int .u64 (eM seed x))/\bQ w w':=by
 by_cases hr:dA x=true
 ·have HR:=Lib.hid hr
  have HH:Hid (eM seed x=gY seed [vn x].flatten):=Lib.hid (by unfold eM;rw[aae hr];simp)
  clear hr
  unfold tC
  go_enter func229,ntmps229
  go_wp2_with fail
  refine(Vy x _ HR.out).mono ?_
  rintro e w1 ⟨v1,rfl,hown⟩
  have hs:=hown.sl cb
  have hx1:=hown.ext
  clear hown
  obtain⟨a1,c1,b1,o1,rfl,_⟩:=Bs.open hs
  go_wp2_with fail
  refine(xC _ _ [vn x] _ ?_).mono ?_
  ·refine⟨[.slice a1 _ c1],rfl,Sl.lit (λ_=>rfl) (by(repeat refine(ft _ _).trans ?_);first|(refine aN _ _ _ ?_<;>(first|rfl|(simp;done)|(simp;omega)))|(refine(an _ _ _ ?_).trans (aN _ _ _ ?_)<;>(first|rfl|(simp;done)|(simp;omega)))|(refine(an _ _ _ ?_).trans ((an _ _ _ ?_).trans (aN _ _ _ ?_))<;>(first|rfl|(simp;done)|(simp;omega)))|(refine(an _ _ _ ?_).trans ((an _ _ _ ?_).trans ((an _ _ _ ?_).trans (aN _ _ _ ?_)))<;>(first|rfl|(simp;done)|(simp;omega)))|(refine(an _ _ _ ?_).trans ((an _ _ _ ?_).trans ((an _ _ _ ?_).trans ((an _ _ _ ?_).trans (aN _ _ _ ?_))))<;>(first|rfl|(simp;done)|(simp;omega)))) rfl rfl bP bP,?_⟩
   intro i h1 h2
   obtain rfl:i=0:=by simp at h1;omega
   exact hs.ext (by repeat (first|assumption|exact bQ.refl _|refine bQ.alloc ?_ _|refine bQ.drew ?_|refine bQ.drewN ?_ _))
  ·rw[<-HH.out]
   rintro e w2 ⟨rfl,rfl⟩
   go_wp2
   go_ret
   exact⟨rfl,(((bQ.refl _).alloc _).trans hx1).alloc _⟩
 ·have HR:Hid (dA x=false):=Lib.hid (by simpa using hr)
  have HH:Hid (eM seed x=0):=Lib.hid (by unfold eM;rw[aab hr])
  clear hr
  unfold tC
  go_enter func229,ntmps229
  go_wp2_with fail
  refine(RY x _ HR.out).mono ?_
  rintro e w1 ⟨rfl,hx1⟩
  go_wp2
  go_ret
  exact⟨by rw[HH.out];rfl,((bQ.refl _).alloc _).trans hx1⟩
def rA (seed:Int)(l:List It):Int:=l.foldl (λs x=>IntKind.u64.wrap (s+eM seed x)) 0
theorem uK (seed:Int)(l:List It)(x:It):rA seed (l++[x])=IntKind.u64.wrap (rA seed l+eM seed x):=by simp[rA]
theorem Mr (key:ByteArray)(rep cnt rank prio:Int)(body:ByteArray)(w:World)(hr:dA ⟨key,rep,cnt,rank,prio,false,body⟩=true) :
 Calls prog 238 #[tC ⟨key,rep,cnt,rank,prio,false,body⟩] w (jI 5 1 encB w (iQ ⟨key,rep,cnt,rank,prio,false,body⟩)):=by
 obtain⟨hnums,hbody,_,_⟩:=jV hr
 have HN:Hid (∀n∈[rep,cnt,rank,prio,0],bF n):=Lib.hid hnums
 have hlen:=gV _ HN.out
 replace hbody:body.size<=64:=hbody
 have htl:=iR body ae
 have HL:Hid (iQ ⟨key,rep,cnt,rank,prio,false,body⟩=[rep,cnt,rank,prio,0].flatMap aO++bi body):=Lib.hid rfl
 generalize hns:[rep,cnt,rank,prio,0].flatMap aO=nums at *
 have HNS:=Lib.hid hns
 have hlen':nums.length<=45:=by simpa using hlen
 have htl':(bi body).length<=65:=ae
 clear hnums hr hlen hns htl
 unfold tC
 go_enter func238,ntmps238
 go_wp2_with fail
 refine Calls.mono (qV _ [rep,cnt,rank,prio,0] _ ?_ ?_ HN.out) ?_
 ·exact Sl.lit vD.len (by(repeat refine(ft _ _).trans ?_);first|(refine aN _ _ _ ?_<;>(first|rfl|(simp;done)|(simp;omega)))|(refine(an _ _ _ ?_).trans (aN _ _ _ ?_)<;>(first|rfl|(simp;done)|(simp;omega)))|(refine(an _ _ _ ?_).trans ((an _ _ _ ?_).trans (aN _ _ _ ?_))<;>(first|rfl|(simp;done)|(simp;omega)))|(refine(an _ _ _ ?_).trans ((an _ _ _ ?_).trans ((an _ _ _ ?_).trans (aN _ _ _ ?_)))<;>(first|rfl|(simp;done)|(simp;omega)))|(refine(an _ _ _ ?_).trans ((an _ _ _ ?_).trans ((an _ _ _ ?_).trans ((an _ _ _ ?_).trans (aN _ _ _ ?_))))<;>(first|rfl|(simp;done)|(simp;omega)))) rfl rfl (aaf _) (by simp[maxLen])
 ·simp
 rw[HNS.out]
 rintro e w1 ⟨v1,rfl,hown⟩
 have hE:=hown.ext
 have hown1:=hown.mono (w0:=w) (by repeat (first|assumption|exact bQ.refl _|refine bQ.alloc ?_ _|refine bQ.drew ?_|refine bQ.drewN ?_ _))
 obtain⟨q0,q1,q2,q3,q4,q5,q6⟩:=(((zt.box (w:=w) ⟨key,rep,cnt,rank,prio,false,body⟩ 79).ext ((bQ.refl _).alloc _))).ext hE
 simp only[aaJ]at q6
 clear hown q0 q1 q2 q3 q4 q5
 go_wp2_with fail
 refine Calls.mono (lR body _ ae) ?_
 rintro e w2 ⟨v2,rfl,hown2⟩
 have hown3:=hown1.extend hown2.ext
 have hs2:=hown2.sl cb
 clear hown1 hown2 hE q6
 go_wp2_with (at_builtin;refine fC rfl _ _ 35 rfl OY cb w _ _ _ _ rfl rfl hown3 hs2 ?_ ?_ ?_)
 ·(first|omega|(simp;omega)|(unfold maxLen;omega)|(unfold maxLen;simp;omega))
 ·(first|omega|(simp;omega)|(unfold maxLen;omega)|(unfold maxLen;simp;omega))
 ·intro v3 w3 r HR hown4 _ _
  go_wp2
  go_ret
  exact⟨_,rfl,by rw[HL.out,<-HR.out];exact hown4⟩
theorem Ms (key:ByteArray)(rep cnt rank prio:Int)(body:ByteArray)(w:World)(hr:dA ⟨key,rep,cnt,rank,prio,true,body⟩=true) :
 Calls prog 238 #[tC ⟨key,rep,cnt,rank,prio,true,body⟩] w (jI 5 1 encB w (iQ ⟨key,rep,cnt,rank,prio,true,body⟩)):=by
 obtain⟨hnums,hbody,_,_⟩:=jV hr
 have HN:Hid (∀n∈[rep,cnt,rank,prio,1],bF n):=Lib.hid hnums
 have hlen:=gV _ HN.out
 replace hbody:body.size<=64:=hbody
 have htl:=iR body ae
 have HL:Hid (iQ ⟨key,rep,cnt,rank,prio,true,body⟩=[rep,cnt,rank,prio,1].flatMap aO++bi body):=Lib.hid rfl
 generalize hns:[rep,cnt,rank,prio,1].flatMap aO=nums at *
 have HNS:=Lib.hid hns
 have hlen':nums.length<=45:=by simpa using hlen
 have htl':(bi body).length<=65:=ae
 clear hnums hr hlen hns htl
 unfold tC
 go_enter func238,ntmps238
 go_wp2_with fail
 refine Calls.mono (qV _ [rep,cnt,rank,prio,1] _ ?_ ?_ HN.out) ?_
 ·exact Sl.lit vD.len (by(repeat refine(ft _ _).trans ?_);first|(refine aN _ _ _ ?_<;>(first|rfl|(simp;done)|(simp;omega)))|(refine(an _ _ _ ?_).trans (aN _ _ _ ?_)<;>(first|rfl|(simp;done)|(simp;omega)))|(refine(an _ _ _ ?_).trans ((an _ _ _ ?_).trans (aN _ _ _ ?_))<;>(first|rfl|(simp;done)|(simp;omega)))|(refine(an _ _ _ ?_).trans ((an _ _ _ ?_).trans ((an _ _ _ ?_).trans (aN _ _ _ ?_)))<;>(first|rfl|(simp;done)|(simp;omega)))|(refine(an _ _ _ ?_).trans ((an _ _ _ ?_).trans ((an _ _ _ ?_).trans ((an _ _ _ ?_).trans (aN _ _ _ ?_))))<;>(first|rfl|(simp;done)|(simp;omega)))) rfl rfl (aaf _) (by simp[maxLen])
 ·simp
 rw[HNS.out]
 rintro e w1 ⟨v1,rfl,hown⟩
 have hE:=hown.ext
 have hown1:=hown.mono (w0:=w) (by repeat (first|assumption|exact bQ.refl _|refine bQ.alloc ?_ _|refine bQ.drew ?_|refine bQ.drewN ?_ _))
 obtain⟨q0,q1,q2,q3,q4,q5,q6⟩:=(((zt.box (w:=w) ⟨key,rep,cnt,rank,prio,true,body⟩ 79).ext ((bQ.refl _).alloc _))).ext hE
 simp only[aaJ]at q6
 clear hown q0 q1 q2 q3 q4 q5
 go_wp2_with fail
 refine Calls.mono (lR body _ ae) ?_
 rintro e w2 ⟨v2,rfl,hown2⟩
 have hown3:=hown1.extend hown2.ext
 have hs2:=hown2.sl cb
 clear hown1 hown2 hE q6
 go_wp2_with (at_builtin;refine fC rfl _ _ 35 rfl OY cb w _ _ _ _ rfl rfl hown3 hs2 ?_ ?_ ?_)
 ·(first|omega|(simp;omega)|(unfold maxLen;omega)|(unfold maxLen;simp;omega))
 ·(first|omega|(simp;omega)|(unfold maxLen;omega)|(unfold maxLen;simp;omega))
 ·intro v3 w3 r HR hown4 _ _
  go_wp2
  go_ret
  exact⟨_,rfl,by rw[HL.out,<-HR.out];exact hown4⟩
theorem Fw (x:It)(w:World)(hr:dA x=true) :
 Calls prog 238 #[tC x] w (jI 5 1 encB w (iQ x)):=by
 obtain⟨key,rep,cnt,rank,prio,dead,body⟩:=x
 cases dead
 ·exact Mr key rep cnt rank prio body w hr
 ·exact Ms key rep cnt rank prio body w hr
theorem Fx (x:It)(w:World)(hr:dA x=true) :
 Calls prog 273 #[tC x] w (jI 5 1 encB w (vn x)):=by
 obtain⟨_,_,hk0,hk1⟩:=jV hr
 have htk:=iR x.key ae
 have hrl:=II hr
 have htk':(bi x.key).length<=17:=ae
 have HR:=Lib.hid hr
 have HB:Hid (vn x=bi x.key++iQ x):=Lib.hid rfl
 clear htk hr
 unfold tC
 go_enter func273,ntmps273
 go_wp2_with fail
 refine Calls.mono (lR x.key _ ae) ?_
 rintro e w1 ⟨v1,rfl,hown⟩
 have hE:=hown.ext
 have hown1:=hown.mono (w0:=w) (by repeat (first|assumption|exact bQ.refl _|refine bQ.alloc ?_ _|refine bQ.drew ?_|refine bQ.drewN ?_ _))
 obtain⟨q0,q1,q2,q3,q4,q5,q6⟩:=(zt.box (w:=w) x 79).ext hE
 simp only[aaJ]at q0 q1 q2 q3 q4 q5 q6
 clear hown
 go_wp2_with fail
 refine Calls.mono (Fw x _ HR.out) ?_
 rintro e w2 ⟨v2,rfl,hown2⟩
 have hown3:=hown1.extend hown2.ext
 have hs2:=hown2.sl cb
 clear hown1 hown2 hE q0 q1 q2 q3 q4 q5 q6
 go_wp2_with (at_builtin;refine fC rfl _ _ 35 rfl OY cb w _ _ _ _ rfl rfl hown3 hs2 ?_ ?_ ?_)
 ·(first|omega|(simp;omega)|(unfold maxLen;omega)|(unfold maxLen;simp;omega))
 ·(first|omega|(simp;omega)|(unfold maxLen;omega)|(unfold maxLen;simp;omega))
 ·intro v3 w3 r HR hown4 _ _
  go_wp2
  go_ret
  exact⟨_,rfl,by rw[HB.out,<-HR.out];exact hown4⟩
theorem CE (seed:Int)(x:It)(w:World) :
 Calls prog 337 #[.int .u64 seed,tC x] w λe w'=>e=.returned (.int .u64 (eM seed x))/\bQ w w':=by
 by_cases hr:dA x=true
 ·have HR:=Lib.hid hr
  have HH:Hid (eM seed x=gY seed (vn x)):=Lib.hid (by unfold eM;rw[aae hr])
  clear hr
  unfold tC
  go_enter func337,ntmps337
  go_wp2_with fail
  refine(yF x _).mono ?_
  rw[HR.out]
  rintro e w1 ⟨rfl,hx1⟩
  obtain⟨q0,q1,q2,q3,q4,q5,q6⟩:=(zt.box (w:=w) x 79).ext hx1
  simp only[aaJ]at q0 q1 q2 q3 q4 q5 q6
  go_wp2_with fail
  refine(Fx x _ HR.out).mono ?_
  rintro e w2 ⟨v2,rfl,hown2⟩
  have hs2:=hown2.sl cb
  have hx2:=hown2.ext
  clear hown2 q0 q1 q2 q3 q4 q5 q6
  go_wp2_with fail
  refine(Ao seed _ _ _ hs2).mono ?_
  rw[<-HH.out]
  rintro e w3 ⟨rfl,rfl⟩
  go_wp2
  go_ret
  exact⟨rfl,(((bQ.refl _).alloc _).trans hx1).trans hx2⟩
 ·have HR:Hid (dA x=false):=Lib.hid (by simpa using hr)
  have HH:Hid (eM seed x=0):=Lib.hid (by unfold eM;rw[aab hr])
  clear hr
  unfold tC
  go_enter func337,ntmps337
  go_wp2_with fail
  refine(yF x _).mono ?_
  rw[HR.out]
  rintro e w1 ⟨rfl,hx1⟩
  go_wp2
  go_ret
  exact⟨by rw[HH.out];rfl,((bQ.refl _).alloc _).trans hx1⟩
theorem Fy (seed:Int)(v:Value)(l:List It)(w:World)(hv:YZ w v l) :
 Calls prog 316 #[.int .u64 seed,v] w λe w'=>e=.returned (.int .u64 (rA seed l))/\bQ w w':=by
 obtain⟨a,c,b,o,rfl,h1,h2,h3,h4⟩:=YZ.open hv
 have h5:=qQ h1 h2
 clear h1 h2 hv
 go_enter func316,ntmps316
 go_wp2
 go_loopw [5,6] (λs i wr=>∃k:Nat,k<=l.length/\i=.int .i64 k/\s=.int .u64 (rA seed (l.take k))/\bQ w wr) (λ_ i _=>l.length-(intOf i).toNat)
 case atStart=>exact⟨0,aag _,rfl,rfl,bQ.refl _⟩
 case round=>
  obtain⟨k,hk,rfl,rfl,hx⟩:=hrel
  by_cases hlt:k<l.length
  ·obtain rfl:=h3 ae
   obtain⟨q0,q1,q2,q3,q4,q5,q6⟩:=(h4 k hlt).ext hx
   have HS:=Lib.hid (iU l k hlt)
   generalize l[k]=x at *
   clear h3 h4
   go_wp2_with fail
   refine(CE seed x _).mono ?_
   rintro e w2 ⟨rfl,hx2⟩
   clear q0 q1 q2 q3 q4 q5 q6
   have hx3:bQ w w2:=hx.trans hx2
   go_wp2
   go_roundw
   case rel=>exact⟨k+1,ae,by go_num,by rw[HS.out,uK],hx3⟩
   case measure=>simp[intOf];omega
  ·have HT:=Lib.hid (show l.take k=l from aaj ae)
   go_wp2
   go_ret
   exact⟨by rw[HT.out];rfl,hx⟩
