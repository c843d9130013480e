/- Texts joined: KnT Kn Kc. -/
import Derived.Test.YtaclhhkblbacgaaGreatJ11
set_option maxRecDepth 10000
set_option maxHeartbeats 8000000
namespace Go.Proofs.YtaclhhkblbacgaaGreat
open Go.RowKit Go.Proofs.Tryz
structure Rn where
 fr:Int
 to:Int
deriving DecidableEq
structure Kn where
 rep:Int
 runs:List Rn
deriving DecidableEq
structure Pc where
 rg:Rg
 set:List Kn
deriving DecidableEq
def encRn (r:Rn):List Value:=[.int .i64 r.fr,.int .i64 r.to]
theorem B1:J7 2 encRn:=⟨bz,fun _=>rfl,fun x u hu=>by
 simp only[encRn,Wp,Xh,or_false]at hu
 rcases hu with rfl|rfl<;>rfl⟩
abbrev rnP (r:Rn):List PV:=[ak (.int .i64 r.fr),ak (.int .i64 r.to)]
abbrev VC (r:Rn):Cnt:=.per (cB (rnP r))
abbrev mN (l:List Rn):PV:=cA 2 (l.map rnP)
abbrev gQ (l:List Rn):Cnt:=.bor 2 (l.map rnP)
abbrev zh (k:Kn):List PV:=[ak (.int .i64 k.rep),mN k.runs]
abbrev Vg (k:Kn):Cnt:=.per (cB (zh k))
abbrev Sx (l:List Kn):PV:=cA 2 (l.map zh)
abbrev fd (l:List Kn):Cnt:=.bor 2 (l.map zh)
abbrev pcP (p:Pc):List PV:=[ak (.string p.rg.lo),ak (.string p.rg.hi),ak (.bool p.rg.op),Sx p.set]
abbrev Vh (p:Pc):Cnt:=.per (cB (pcP p))
abbrev gG (l:List Pc):PV:=cA 4 (l.map pcP)
abbrev dC (l:List Pc):Cnt:=.bor 4 (l.map pcP)
def jk (r:Rn):Bool:=decide (1≤r.fr∧r.fr≤r.to∧r.to≤1099511627776)
theorem cD (r:Rn):jk r=true↔1≤r.fr∧r.fr≤r.to∧r.to≤1099511627776:=by unfold jk;exact XD
def uK (l:List Rn)(i:Nat):Prop:=∀h:i<l.length,jk l[i]=true∧∀h0:0<i,l[i-1].to+2≤l[i].fr
def dX (l:List Rn):Prop:=∀i,i<l.length→uK l i
def Eo (l:List Kn)(i:Nat):Prop:=∀h:i<l.length,1≤l[i].rep∧l[i].rep≤16∧l[i].runs≠[]∧dX l[i].runs∧∀h0:0<i,l[i-1].rep<l[i].rep
def cu (l:List Kn):Prop:=∀i,i<l.length→Eo l i
def uL (l:List Pc)(i:Nat):Prop:=∀h:i<l.length,fX l[i].rg=true∧l[i].set≠[]∧cu l[i].set∧∀h0:0<i,l[i-1].rg.op=false∧cP l[i-1].rg.hi l[i].rg.lo≤0∧¬(l[i-1].rg.hi=l[i].rg.lo∧l[i-1].set=l[i].set)
def aX (l:List Pc):Prop:=∀i,i<l.length→uL l i
instance (l:List Rn) (i:Nat):Decidable (uK l i):=by unfold uK;infer_instance
instance (l:List Rn):Decidable (dX l):=by unfold dX;infer_instance
instance (l:List Kn) (i:Nat):Decidable (Eo l i):=by unfold Eo;infer_instance
instance (l:List Kn):Decidable (cu l):=by unfold cu;infer_instance
instance (l:List Pc) (i:Nat):Decidable (uL l i):=by unfold uL;infer_instance
instance (l:List Pc):Decidable (aX l):=by unfold aX;infer_instance
theorem iE {l:List Kn}(h:cu l){i:Nat}(hi:i<l.length):1≤l[i].rep∧l[i].rep≤16∧l[i].runs≠[]∧dX l[i].runs:=
 let⟨a,b,c,d,_⟩:=h i hi hi;⟨a,b,c,d⟩
theorem Ep {l:List Kn}(h:cu l):∀i (hi:i<l.length),((i:Int)+1)≤l[i].rep:=by
 intro i
 induction i with
 | zero=>intro hi;have:=(iE h hi).1;simpa using this
 | succ i ih=>
  intro hi
  have h1:=ih ab
  have h2:=(h (i+1) hi hi).2.2.2.2 ab
  simp only[WD]at h2
  omega
theorem oH {l:List Kn}(h:cu l):l.length≤16:=by
 rcases W6 l.length with h0|h0
 ·omega
 ·have h1:=Ep h (l.length-1) ab
  have h2:=(iE h (i:=l.length-1) ab).2.1
  omega
theorem lQ {l:List Rn}(h:dX l){i:Nat}(hi:i<l.length):1≤l[i].fr∧l[i].fr≤l[i].to∧l[i].to≤1099511627776:=(cD _).1 (h i hi hi).1
def jV:Int→List Rn→List UInt8
 | _,[]=>[]
 | was,r::l=>aJ (r.fr-was)++(aJ (r.to-r.fr)++jV r.to l)
def Gc (k:Kn):List UInt8:=aJ k.rep++(aJ (k.runs.length:Nat)++jV 0 k.runs)
def lw (s:List Kn):List UInt8:=aJ (s.length:Nat)++s.flatMap Gc
def Ao (p:Pc):List UInt8:=tw p.rg++lw p.set
def fw (k:List Pc):List UInt8:=aJ (k.length:Nat)++k.flatMap Ao
def gu:Nat→List Rn→Int→List UInt8→Int→List Rn×List UInt8×Int
 | 0,acc,_,l,e=>(acc,l,e)
 | n+1,acc,was,l,e=>if e≠0 then(acc,l,e)else
  let x:=aO l e
  let y:=aO x.2.1 x.2.2
  gu n (acc++[⟨was+x.1,was+x.1+y.1⟩]) (was+x.1+y.1) y.2.1 y.2.2
def gA (l:List UInt8)(e:Int):Kn×List UInt8×Int:=
 let a:=af 1 16 l e
 let n:=af 0 4096 a.2.1 a.2.2
 let r:=gu n.1.toNat [] 0 n.2.1 n.2.2
 (⟨a.1,r.1⟩,r.2.1,r.2.2)
def kX (l:List UInt8)(e:Int):Pc×List UInt8×Int:=
 let r:=j5 l e
 let s:=cN gA 16 r.2.1 r.2.2
 (⟨r.1,s.1⟩,s.2.1,s.2.2)
def dc (b:List UInt8):List Pc×Int:=jU aX (cN kX 4096 b 0)
theorem zi (l:List UInt8)(e:Int):af 0 281474976710656 l e=aO l e:=by
 have h:=rJ l
 unfold af aO
 split
 ·rw[V3];simp only;omega
 ·rename_i he
  by_cases h0:(bv l).2.2=0
  ·simp[h0];omega
  ·simp[h0]
theorem oI (l:List UInt8)(e:Int):0≤(aO l e).1∧(aO l e).1≤281474976710656:=by
 have h:=rJ l
 unfold aO
 split
 ·simp
 ·split<;>simp<;>omega
theorem Io:∀(n:Nat)(acc:List Rn)(was:Int)(l:List UInt8)(e:Int),(gu n acc was l e).2.1 <:+ l:=by
 intro n
 induction n with
 | zero=>intro acc was l e;exact WM l
 | succ n ih=>
  intro acc was l e
  unfold gu
  split
  ·exact WM l
  ·exact(ih _ _ _ _).trans ((bX _ _).trans (bX _ _))
theorem B2 (l:List UInt8)(e:Int):(gA l e).2.1 <:+ l:=by
 dsimp only [gA]
 exact(Io _ _ _ _ _).trans ((ao _ _ _ _).trans (ao _ _ _ _))
theorem xF {α:Type}{st:List UInt8→Int→α×List UInt8×Int}(h:∀l e,(st l e).2.1 <:+ l)(most:Int)(l:List UInt8)(e:Int):(cN st most l e).2.1 <:+ l:=
 (LO h _ _ _ _).trans (ao _ _ _ _)
theorem LV:∀(l acc:List Rn)(was:Int)(r:List UInt8),0≤was→was≤1099511627776→(∀i (h:i<l.length),jk l[i]=true∧(∀h0:0<i,l[i-1].to≤l[i].fr)∧(i=0→was≤l[i].fr)) →
 gu l.length acc was (jV was l++r) 0=(acc++l,r,0):=by
 intro l
 induction l with
 | nil=>intro acc was r _ _ _;simp[gu,jV]
 | cons x l ih=>
  intro acc was r h0 h1 h
  have hx:=h 0 au
  simp only[Xf]at hx
  have hr:=(cD _).1 hx.1
  have hw:=hx.2.2 trivial
  rw[Wh,gu,V3 au,jV,V9,lb (by unfold bL;omega)]
  dsimp only
  rw[V9,lb (by unfold bL;omega)]
  dsimp only
  have e1:was+(x.fr-was)=x.fr:=ab
  have e2:x.fr+(x.to-x.fr)=x.to:=ab
  rw[e1,e2,ih _ _ _ ab ab (fun i hi=>?_)]
  ·simp
  ·have hi':=h (i+1) (by simpa using hi)
   simp only[List.getElem_cons_succ]at hi'
   refine⟨hi'.1,fun q=>?_,fun q=>?_⟩
   ·have:=hi'.2.1 ab
    obtain⟨j,rfl⟩:∃j,i=j+1:=⟨i-1,ab⟩
    simpa using this
   ·subst q
    have:=hi'.2.1 ab
    simpa using this
theorem Sy {k:Kn}(h1:1≤k.rep)(h2:k.rep≤16)(h3:dX k.runs)(hf:k.runs.length≤4096)(r:List UInt8):gA (Gc k++r) 0=(k,r,0):=by
 dsimp only [gA,Gc]
 rw[V9,cc (by unfold bL;omega) h1 h2]
 dsimp only
 rw[V9,cc (by unfold bL;omega) ab ab]
 dsimp only
 rw[Int.toNat_natCast,LV _ _ _ _ ab ab (fun i hi=>?_)]
 ·simp
 ·have h4:=h3 i hi hi
  have h5:=lQ h3 hi
  exact⟨h4.1,fun q=>by have:=h4.2 q;omega,fun _=>ab⟩
def sS (s:List Kn):Prop:=∀k∈s,k.runs.length≤4096
theorem PZ {α:Type}{st:List UInt8→Int→α×List UInt8×Int}{B:α→List UInt8}{most:Int}{l:List α}(h:∀x∈l,∀r,st (B x++r) 0=(x,r,0))(hl:(l.length:Int)≤most)(hm:most≤1000000)(r:List UInt8) :
 cN st most (aJ (l.length:Nat)++(l.flatMap B++r)) 0=(l,r,0):=by
 unfold cN
 rw[cc (by unfold bL;omega) ab hl]
 dsimp only
 rw[Int.toNat_natCast]
 have:=LQ (st:=st) (B:=B) l [] r h
 rw[this]
 simp
theorem Sz {p:Pc}(h1:fX p.rg=true)(h2:cu p.set)(h3:sS p.set)(r:List UInt8):kX (Ao p++r) 0=(p,r,0):=by
 dsimp only [kX,Ao,lw]
 rw[V9,LS h1]
 dsimp only
 rw[V9,PZ (fun k hk r=>?_) (by have:=oH h2;omega) ab]
 obtain⟨i,hi,rfl⟩:=List.getElem_of_mem hk
 obtain⟨a,b,_,d⟩:=iE h2 hi
 exact Sy a b d (h3 _ hk) r
theorem uM {k:List Pc}(h:aX k)(hf:∀p∈k,sS p.set)(hl:k.length≤4096):dc (fw k)=(k,0):=
 BZ (fun p hp r=>by
  obtain⟨i,hi,rfl⟩:=List.getElem_of_mem hp
  obtain⟨a,_,c,_⟩:=h i hi hi
  exact Sz a c (hf _ hp) r) ab ab h
theorem Ip:∀(n:Nat)(acc:List Rn)(was:Int)(l:List UInt8)(e:Int),(gu n acc was l e).2.2=0 →
 e=0∧∃m:List Rn,(gu n acc was l e).1=acc++m∧m.length=n∧l=jV was m++(gu n acc was l e).2.1:=by
 intro n
 induction n with
 | zero=>intro acc was l e h0;exact⟨h0,[],by simp[gu],rfl,by simp[gu,jV]⟩
 | succ n ih=>
  intro acc was l e h0
  unfold gu at h0 ⊢
  by_cases he:e=0
  ·subst he
   rw[V3 au]at h0 ⊢
   dsimp only at h0 ⊢
   obtain⟨g1,m,g2,g3,g4⟩:=ih _ _ _ _ h0
   obtain⟨y1,_,y3⟩:=eJ g1
   obtain⟨_,_,x3⟩:=eJ y1
   refine⟨rfl,_::m,by rw[g2];simp;rfl,by simp[g3],?_⟩
   rw[jV]
   simp only
   rw[show was+(aO l 0).1-was=(aO l 0).1 by omega,show was+(aO l 0).1+(aO (aO l 0).2.1 (aO l 0).2.2).1-(was+(aO l 0).1)=(aO (aO l 0).2.1 (aO l 0).2.2).1 by omega]
   rw[V9,V9,←g4,←y3]
   exact x3
  ·rw[V6 he]at h0
   exact absurd h0 he
theorem P0 {l:List UInt8}{e:Int}(h:(gA l e).2.2=0):e=0∧l=Gc (gA l e).1++(gA l e).2.1:=by
 dsimp only [gA]at h ⊢
 obtain⟨g1,m,g2,g3,g4⟩:=Ip _ _ _ _ _ h
 obtain⟨n1,_,n3,n4,n5⟩:=bt g1
 obtain⟨a1,_,_,_,a5⟩:=bt n1
 refine⟨a1,?_⟩
 simp only[Gc]
 rw[g2,Wu,g3,Xu n3,V9,V9,←g4,←n5]
 exact a5
theorem LW {α:Type}{st:List UInt8→Int→α×List UInt8×Int}{B:α→List UInt8}{most:Int}(h:∀l e,(st l e).2.2=0→e=0∧l=B (st l e).1++(st l e).2.1){l:List UInt8}{e:Int}(h0:(cN st most l e).2.2=0) :
 e=0∧((cN st most l e).1.length:Int)≤most∧l=aJ ((cN st most l e).1.length:Nat)++((cN st most l e).1.flatMap B++(cN st most l e).2.1):=by
 unfold cN at h0 ⊢
 obtain⟨g1,m,g3,g4,g6⟩:=Ga h _ _ _ _ h0
 obtain⟨w1,w2,w3,w4,w5⟩:=bt g1
 refine⟨w1,by rw[g3];simp;omega,?_⟩
 rw[g3,Wu,g4,Xu w3,←g6]
 exact w5
theorem P1 {l:List UInt8}{e:Int}(h:(kX l e).2.2=0):e=0∧l=Ao (kX l e).1++(kX l e).2.1:=by
 dsimp only [kX]at h ⊢
 obtain⟨s1,_,s3⟩:=LW (fun _ _=>P0) h
 obtain⟨r1,r2⟩:=Gb s1
 refine⟨r1,?_⟩
 simp only[Ao,lw]
 rw[V9,V9,←s3]
 exact r2
theorem lc {b:List UInt8}(h:(dc b).2=0):aX (dc b).1∧((dc b).1.length:Int)≤4096∧fw (dc b).1=b:=xC (fun _ _=>P1) h
theorem Iq:∀(n:Nat)(acc:List Rn)(was:Int)(l:List UInt8)(e:Int),(gu n acc was l e).1.length≤acc.length+n:=by
 intro n
 induction n with
 | zero=>intro acc was l e;simp[gu]
 | succ n ih=>
  intro acc was l e
  unfold gu
  split
  ·simp
  ·have:=ih (acc++[⟨was+(aO l e).1,was+(aO l e).1+(aO (aO l e).2.1 (aO l e).2.2).1⟩]) (was+(aO l e).1+(aO (aO l e).2.1 (aO l e).2.2).1) (aO (aO l e).2.1 (aO l e).2.2).2.1 (aO (aO l e).2.1 (aO l e).2.2).2.2
   simp at this ⊢;omega
theorem gR {p:Nat→Prop}{z:Nat}(h:∀i,i<z→p i)(h':p z):∀i,i<z+1→p i:=fun i hi=>by
 rcases Wm i z with q|q
 ·exact h i q
 ·obtain rfl:i=z:=ab
  exact h'
def lR (s:List Kn):Prop:=s.length≤1000000000∧∀k∈s,k.runs.length≤1000000000
theorem lR.at {s:List Kn}(h:lR s){i:Nat}(hi:i<s.length):s[i].runs.length≤1000000000:=h.2 _ (Wk hi)
theorem zj (r:Rn):Fn prog 253 [VC r] (dq (jk r)):=by
 refine fi func253 ntmps253 ?_
 (refine wH ?_)
 refine dw ?_
 refine dA (kH ?_)
 rw[jk,Wo];simp;omega
theorem qt (r:Rn):Fn prog 211 [VC r] (dq (jk r)):=by
 refine fi func211 ntmps211 ?_
 (refine wH ?_)
 refine dw ?_
 refine dA (kH ?_)
 rw[jk,Wo];simp;omega
theorem rK (l:List Rn)(hl:l.length≤1000000000)(b:Bool)(hb:b=true↔dX l):Fn prog 217 [gQ l] (dq b):=by
 refine fi func217 ntmps217 ?_
 (refine w0 ?_)
 refine aj (X:=Nat) (fun z=>z≤l.length∧∀i,i<z→uK l i)
  (fun z=>ay [(0,gQ l),(5,gQ l),(6,iC .i64 (l.length:Nat)),(7,iC .i64 (z:Nat))] []) (fun z=>l.length-z) 0 ⟨Wa _,fun i h=>absurd h (W4 _)⟩ ?_
 rintro z ⟨h1,h2⟩
 by_cases hz:z<l.length
 ·have hir:=zj l[z]
  have hno:¬uK l z→b=false:=fun h=>by rw[←Wy,hb];exact fun q=>h (q z hz)
  cases hr:jk l[z]with
  | false=>
   have hb0:=hno (fun h=>by have:=(h hz).1;rw[hr]at this;cases this)
   subst hb0
   clear hb hno h2
   rw[hr]at hir
   (refine aq hir ?_;repeat' first|apply ah|refine ai fun hc=>?_)
   exact dp
  | true=>
   rw[hr]at hir
   have hrz:=(cD _).1 hr
   by_cases h0:0<z
   ·obtain⟨q,rfl⟩:∃q,z=q+1:=⟨z-1,ab⟩
    have hqE:((q+1:Nat):Int)-1=(q:Nat):=ab
    have hrq:=(cD _).1 ((h2 q ab) ab).1
    by_cases hlt:l[q].to+2≤l[q+1].fr
    ·have hok:uK l (q+1):=fun _=>⟨hr,fun _=>hlt⟩
     clear hb hno
     (refine cF hqE hir ?_;repeat' first|apply ah|refine ai fun hc=>?_)
     refine⟨q+1+1,⟨ab,gR h2 hok⟩,ab,?_⟩
     exact ae
    ·have hb0:=hno (fun h=>hlt ((h hz).2 h0))
     subst hb0
     clear hb hno h2
     (refine cF hqE hir ?_;repeat' first|apply ah|refine ai fun hc=>?_)
     exact dp
   ·have hok:uK l z:=fun _=>⟨hr,fun h=>absurd h h0⟩
    clear hb hno
    (refine aq hir ?_;repeat' first|apply ah|refine ai fun hc=>?_)
    refine⟨z+1,⟨ab,gR h2 hok⟩,ab,?_⟩
    exact ae
 ·have hb1:b=true:=hb.2 (fun i hi=>h2 i ab)
  subst hb1
  clear hb h2
  (refine w0 ?_;repeat' first|apply ah|refine ai fun hc=>?_)
  exact dp
theorem Er (l:List Rn)(hl:l.length≤1000000000)(b:Bool)(hb:b=true↔dX l):Fn prog 137 [gQ l] (dq b):=by
 refine fi func137 ntmps137 ?_
 (refine w0 ?_)
 refine aj (X:=Nat) (fun z=>z≤l.length∧∀i,i<z→uK l i)
  (fun z=>ay [(0,gQ l),(3,iC .i64 (z:Nat))] []) (fun z=>l.length-z) 0 ⟨Wa _,fun i h=>absurd h (W4 _)⟩ ?_
 rintro z ⟨h1,h2⟩
 by_cases hz:z<l.length
 ·have hir:=qt l[z]
  have hno:¬uK l z→b=false:=fun h=>by rw[←Wy,hb];exact fun q=>h (q z hz)
  cases hr:jk l[z]with
  | false=>
   have hb0:=hno (fun h=>by have:=(h hz).1;rw[hr]at this;cases this)
   subst hb0
   clear hb hno h2
   rw[hr]at hir
   (refine aq hir ?_;repeat' first|apply ah|refine ai fun hc=>?_)
   exact dp
  | true=>
   rw[hr]at hir
   have hrz:=(cD _).1 hr
   by_cases h0:0<z
   ·obtain⟨q,rfl⟩:∃q,z=q+1:=⟨z-1,ab⟩
    have hqE:((q+1:Nat):Int)-1=(q:Nat):=ab
    have hrq:=(cD _).1 ((h2 q ab) ab).1
    by_cases hlt:l[q].to+2≤l[q+1].fr
    ·have hok:uK l (q+1):=fun _=>⟨hr,fun _=>hlt⟩
     clear hb hno
     (refine cF hqE hir ?_;repeat' first|apply ah|refine ai fun hc=>?_)
     refine⟨q+1+1,⟨ab,gR h2 hok⟩,ab,?_⟩
     exact ae
    ·have hb0:=hno (fun h=>hlt ((h hz).2 h0))
     subst hb0
     clear hb hno h2
     (refine cF hqE hir ?_;repeat' first|apply ah|refine ai fun hc=>?_)
     exact dp
   ·have hok:uK l z:=fun _=>⟨hr,fun h=>absurd h h0⟩
    clear hb hno
    (refine aq hir ?_;repeat' first|apply ah|refine ai fun hc=>?_)
    refine⟨z+1,⟨ab,gR h2 hok⟩,ab,?_⟩
    exact ae
 ·have hb1:b=true:=hb.2 (fun i hi=>h2 i ab)
  subst hb1
  clear hb h2
  (refine w0 ?_;repeat' first|apply ah|refine ai fun hc=>?_)
  exact dp
theorem pJ (n:Int):Fn prog 216 [iC .i64 n] (dq (decide (1≤n∧n≤16))):=by
 refine fi func216 ntmps216 ?_
 (refine wH ?_)
 refine dw ?_
 refine dA (kH ?_)
 rw[Wo];simp
theorem LX (l:List Kn)(hl:lR l)(b:Bool)(hb:b=true↔cu l):Fn prog 147 [fd l] (dq b):=by
 have hl0:=hl.1
 refine fi func147 ntmps147 ?_
 (refine w0 ?_)
 refine aj (X:=Nat×Int) (fun z=>z.1≤l.length∧(∀i,i<z.1→Eo l i)∧(z.1=0→z.2=0)∧(∀(h:z.1-1<l.length),0<z.1→z.2=l[z.1-1].rep))
  (fun z=>ay [(3,iC .i64 z.2),(6,fd l),(7,iC .i64 (l.length:Nat)),(8,iC .i64 (z.1:Nat))] []) (fun z=>l.length-z.1) (0,0) ⟨Wa _,fun i h=>absurd h (W4 _),fun _=>rfl,fun _ h=>absurd h au⟩ ?_
 rintro⟨z,was⟩ ⟨h1,h2,h3,h4⟩
 simp only at h1 h2 h3 h4 ⊢
 by_cases hz:z<l.length
 ·have c1:=pJ l[z].rep
  have c2:=rK l[z].runs (hl.at hz) (decide (dX l[z].runs)) au
  have h4':=h4 ab
  have hE:l[z].runs≠[]↔¬l[z].runs.length=0:=au
  by_cases hok:Eo l z
  ·obtain⟨a1,a2,a3,a4,a5⟩:=hok hz
   rw[Wb ⟨a1,a2⟩]at c1
   rw[Wb a4]at c2
   have a6:was<l[z].rep:=by
    rcases W6 z with q|q
    ·have:=h3 q;omega
    ·rw[h4' q];exact a5 q
   rw[hE]at a3
   clear hb h3 h4 h4' hE a4 a5
   (refine bg c1 c2 ?_;repeat' first|apply ah|refine ai fun hc=>?_)
   refine⟨(z+1,l[z].rep),⟨aA,gR h2 hok,fun h=>by simp at h,fun h _=>rfl⟩,aA,?_⟩
   exact ae
  ·have hb0:b=false:=by rw[←Wy,hb];exact fun q=>hok (q z hz)
   subst hb0
   have hno:¬(1≤l[z].rep∧l[z].rep≤16∧¬l[z].runs.length=0∧dX l[z].runs∧was<l[z].rep):=fun⟨a1,a2,a3,a4,a5⟩=>hok (fun _=>⟨a1,a2,hE.2 a3,a4,fun q=>by rw[←h4' q];exact a5⟩)
   clear hb h2 h3 h4 h4' hE hok
   by_cases q1:1≤l[z].rep∧l[z].rep≤16
   ·rw[Wb q1]at c1
    by_cases q2:was<l[z].rep
    ·by_cases q3:l[z].runs.length=0
     ·clear hno
      (refine bg c1 c2 ?_;repeat' first|apply ah|refine ai fun hc=>?_)
      exact dp
     ·by_cases q4:dX l[z].runs
      ·exact absurd ⟨q1.1,q1.2,q3,q4,q2⟩ hno
      ·rw[Wj q4]at c2
       clear hno q4
       (refine bg c1 c2 ?_;repeat' first|apply ah|refine ai fun hc=>?_)
       exact dp
    ·clear hno
     (refine bg c1 c2 ?_;repeat' first|apply ah|refine ai fun hc=>?_)
     exact dp
   ·rw[Wj q1]at c1
    clear hno q1
    (refine bg c1 c2 ?_;repeat' first|apply ah|refine ai fun hc=>?_)
    exact dp
 ·have hb1:b=true:=hb.2 (fun i hi=>h2 i ab)
  subst hb1
  clear hb h2 h3 h4
  (refine w0 ?_;repeat' first|apply ah|refine ai fun hc=>?_)
  exact dp
theorem Ir (l:List Kn)(hl:lR l)(b:Bool)(hb:b=true↔cu l):Fn prog 73 [fd l] (dq b):=by
 have hl0:=hl.1
 refine fi func73 ntmps73 ?_
 (refine w0 ?_)
 refine aj (X:=Nat) (fun z=>z≤l.length∧∀i,i<z→Eo l i)
  (fun z=>ay [(0,fd l),(3,iC .i64 (z:Nat))] []) (fun z=>l.length-z) 0 ⟨Wa _,fun i h=>absurd h (W4 _)⟩ ?_
 rintro z ⟨h1,h2⟩
 by_cases hz:z<l.length
 ·have c2:=Er l[z].runs (hl.at hz) (decide (dX l[z].runs)) au
  have hE:l[z].runs≠[]↔¬l[z].runs.length=0:=au
  by_cases hok:Eo l z
  ·obtain⟨a1,a2,a3,a4,a5⟩:=hok hz
   rw[Wb a4]at c2
   rw[hE]at a3
   by_cases h0:0<z
   ·obtain⟨q,rfl⟩:∃q,z=q+1:=⟨z-1,ab⟩
    have hqE:((q+1:Nat):Int)-1=(q:Nat):=ab
    have a6:l[q].rep<l[q+1].rep:=a5 h0
    clear hb hE a4 a5
    (refine cF hqE c2 ?_;repeat' first|apply ah|refine ai fun hc=>?_)
    refine⟨q+1+1,⟨ab,gR h2 hok⟩,ab,?_⟩
    exact ae
   ·clear hb hE a4 a5
    (refine aq c2 ?_;repeat' first|apply ah|refine ai fun hc=>?_)
    refine⟨z+1,⟨ab,gR h2 hok⟩,ab,?_⟩
    exact ae
  ·have hb0:b=false:=by rw[←Wy,hb];exact fun q=>hok (q z hz)
   subst hb0
   by_cases h0:0<z
   ·obtain⟨q,rfl⟩:∃q,z=q+1:=⟨z-1,ab⟩
    have hqE:((q+1:Nat):Int)-1=(q:Nat):=ab
    have hno:¬(1≤l[q+1].rep∧l[q+1].rep≤16∧¬l[q+1].runs.length=0∧dX l[q+1].runs∧l[q].rep<l[q+1].rep):=fun⟨a1,a2,a3,a4,a5⟩=>hok (fun _=>⟨a1,a2,hE.2 a3,a4,fun _=>a5⟩)
    clear hb h2 hE hok
    by_cases q4:dX l[q+1].runs
    ·rw[Wb q4]at c2
     have hno':¬(1≤l[q+1].rep∧l[q+1].rep≤16∧¬l[q+1].runs.length=0∧l[q].rep<l[q+1].rep):=fun⟨a1,a2,a3,a5⟩=>hno ⟨a1,a2,a3,q4,a5⟩
     clear hno q4
     (refine cF hqE c2 ?_;repeat' first|apply ah|refine ai fun hc=>?_)
     all_goals refine dw ?_
     all_goals exact aL rfl rfl
    ·rw[Wj q4]at c2
     clear hno q4
     (refine cF hqE c2 ?_;repeat' first|apply ah|refine ai fun hc=>?_)
     all_goals refine dw ?_
     all_goals exact aL rfl rfl
   ·have hno:¬(1≤l[z].rep∧l[z].rep≤16∧¬l[z].runs.length=0∧dX l[z].runs):=fun⟨a1,a2,a3,a4⟩=>hok (fun _=>⟨a1,a2,hE.2 a3,a4,fun h=>absurd h h0⟩)
    clear hb h2 hE hok
    by_cases q4:dX l[z].runs
    ·rw[Wb q4]at c2
     have hno':¬(1≤l[z].rep∧l[z].rep≤16∧¬l[z].runs.length=0):=fun⟨a1,a2,a3⟩=>hno ⟨a1,a2,a3,q4⟩
     clear hno q4
     (refine aq c2 ?_;repeat' first|apply ah|refine ai fun hc=>?_)
     all_goals refine dw ?_
     all_goals exact aL rfl rfl
    ·rw[Wj q4]at c2
     clear hno q4
     (refine aq c2 ?_;repeat' first|apply ah|refine ai fun hc=>?_)
     all_goals refine dw ?_
     all_goals exact aL rfl rfl
 ·have hb1:b=true:=hb.2 (fun i hi=>h2 i ab)
  subst hb1
  clear hb h2
  (refine w0 ?_;repeat' first|apply ah|refine ai fun hc=>?_)
  exact dp
def Vi (x y:Rn):Bool:=decide (x.fr=y.fr)&&(decide (x.to=y.to)&&true)
theorem tB (x y:Rn):Vi x y=true↔x=y:=by
 obtain⟨a,b⟩:=x
 obtain⟨a',b'⟩:=y
 simp[Vi]
theorem RD (x y:Rn):HU prog 10000 144 (encRn x) (encRn y)=some (Vi x y):=by kernel_rfl
theorem VD:prog.eqGuardType prog.depth 144=false:=by kernel_rfl
theorem Iu (l m:List Rn)(hl:l.length≤1000000000):Fn prog 138 [gQ l,gQ m] (dq (decide (l=m))):=by
 refine fi func138 ntmps138 ?_
 (refine wH ?_;repeat' first|apply ah|refine ai fun hc=>?_)
 ·refine dw ?_
  exact aL rfl (by symm;rw[Wt];intro h;subst h;omega)
 have hlm:l.length=m.length:=ab
 refine aj (fun k=>k≤l.length∧l.take k=m.take k) (fun k=>ay [(0,gQ l),(1,gQ m),(4,bC false),(5,iC .i64 (k:Nat))] []) (fun k=>l.length-k) 0 ⟨Wa _,rfl⟩ ?_
 rintro k ⟨hk,hpre⟩
 by_cases hlt:k<l.length
 ·have hltm:k<m.length:=ab
  (refine wH ?_;repeat' first|apply ah|refine ai fun hc=>?_|((first|apply aB rfl|apply aC rfl|apply aD rfl|apply aF rfl);(focus ((try (apply bI;(focus rfl);apply ag rfl rfl rfl rfl rfl));first|(exact gX (us:=encRn l[k]) (vs:=encRn m[k]) ⟨rfl,rfl,rfl⟩ rfl rfl rfl (.inr ⟨rfl,rfl⟩) VD rfl (RD l[k] m[k]))));refine wH ?_))
  ·refine dw ?_
   exact aL rfl (by symm;rw[Wt];intro h;subst h;simp[(tB l[k] l[k]).2 rfl]at *)
  ·refine⟨k+1,⟨ab,?_⟩,ab,?_⟩
   ·rw[bc l k hlt,bc m k hltm,hpre,(tB l[k] m[k]).1 (by simpa using hc)]
   ·exact ae
 ·(refine wH ?_;repeat' first|apply ah|refine ai fun hc=>?_)
  refine dw ?_
  exact aL rfl (by symm;rw[Wn,←Wd (show l.length≤k by omega),hpre,Wd ab])
theorem qu (l m:List Kn)(hl:lR l):Fn prog 74 [fd l,fd m] (dq (decide (l=m))):=by
 have hl0:=hl.1
 refine fi func74 ntmps74 ?_
 (refine w0 ?_;repeat' first|apply ah|refine ai fun hc=>?_)
 ·refine dw ?_
  exact aL rfl (by symm;rw[Wt];intro h;subst h;omega)
 have hlm:l.length=m.length:=ab
 refine aj (fun k=>k≤l.length∧l.take k=m.take k) (fun k=>ay [(0,fd l),(1,fd m),(4,bC false),(5,iC .i64 (k:Nat))] []) (fun k=>l.length-k) 0 ⟨Wa _,rfl⟩ ?_
 rintro k ⟨hk,hpre⟩
 by_cases hlt:k<l.length
 ·have hltm:k<m.length:=ab
  have c1:=Iu l[k].runs m[k].runs (hl.at hlt)
  have hE:l[k]=m[k]↔l[k].rep=m[k].rep∧l[k].runs=m[k].runs:=by
   constructor
   ·intro h;rw[h];exact⟨rfl,rfl⟩
   ·rintro⟨h1,h2⟩
    cases hx:l[k];cases hy:m[k]
    rw[hx,hy]at h1 h2
    simp only at h1 h2
    rw[h1,h2]
  by_cases h1:l[k].rep=m[k].rep
  ·by_cases h2:l[k].runs=m[k].runs
   ·rw[Wb h2]at c1
    clear hE
    have hlm1:l[k]=m[k]:=by
     cases hx:l[k];cases hy:m[k]
     rw[hx,hy]at h1 h2
     simp only at h1 h2
     rw[h1,h2]
    clear h2
    (refine aq c1 ?_;repeat' first|apply ah|refine ai fun hc=>?_)
    refine⟨k+1,⟨ab,?_⟩,ab,?_⟩
    ·rw[bc l k hlt,bc m k hltm,hpre,hlm1]
    ·exact ae
   ·rw[Wj h2]at c1
    have hd:¬l=m:=fun h=>h2 (by subst h;rfl)
    rw[Wj hd]
    clear hE h2 hd
    (refine aq c1 ?_;repeat' first|apply ah|refine ai fun hc=>?_)
    exact dp
  ·have hd:¬l=m:=fun h=>h1 (by subst h;rfl)
   rw[Wj hd]
   clear hE hd
   (refine aq c1 ?_;repeat' first|apply ah|refine ai fun hc=>?_)
   exact dp
 ·rw[Wd ab,Wd ab]at hpre
  rw[Wb hpre]
  clear hpre
  (refine w0 ?_;repeat' first|apply ah|refine ai fun hc=>?_)
  exact dp
def iV (l:List Kn)(most:Int):Bool:=decide ((l.length:Int)>most)||l.any fun k=>decide ((k.runs.length:Int)>most)
theorem LY (l:List Kn)(most:Int)(hl:most≤1000000000000):Fn prog 70 [fd l,iC .i64 most] (dq (iV l most)):=by
 refine fi func70 ntmps70 ?_
 (refine w0 ?_;repeat' first|apply ah|refine ai fun hc=>?_)
 ·refine dw ?_
  exact aL rfl (by unfold iV;rw[Wb hc];rfl)
 refine aj (fun k=>k≤l.length∧(l.take k).any (fun k=>decide ((k.runs.length:Int)>most))=false) (fun k=>ay [(0,fd l),(1,iC .i64 most),(4,bC false),(5,iC .i64 (k:Nat))] []) (fun k=>l.length-k) 0 ⟨Wa _,au⟩ ?_
 rintro k ⟨hk,hpre⟩
 by_cases hlt:k<l.length
 ·have hsn:(l.take (k+1)).any (fun k=>decide ((k.runs.length:Int)>most))=((l.take k).any (fun k=>decide ((k.runs.length:Int)>most))||decide ((l[k].runs.length:Int)>most)):=by rw[bc l k hlt,List.any_append];simp
  by_cases hq:(l[k].runs.length:Int)>most
  ·have hd:iV l most=true:=by unfold iV;rw[WN,Xc];exact .inr ⟨l[k],Wk hlt,Wb hq⟩
   rw[hd]
   clear hd hsn hpre
   (refine w0 ?_;repeat' first|apply ah|refine ai fun hc=>?_)
   exact dp
  ·rw[hpre,Wj hq]at hsn
   clear hpre
   (refine w0 ?_;repeat' first|apply ah|refine ai fun hc=>?_)
   refine⟨k+1,⟨ab,hsn⟩,ab,?_⟩
   exact ae
 ·have e:l.take k=l:=Wd ab
  rw[e]at hpre
  have hd:iV l most=false:=by unfold iV;rw[hpre,Bool.or_false,Wt];assumption
  rw[hd]
  clear hd hpre e
  (refine w0 ?_;repeat' first|apply ah|refine ai fun hc=>?_)
  exact dp
theorem uN {l:List Kn}{most:Int}(h:iV l most=false):(l.length:Int)≤most∧∀k∈l,(k.runs.length:Int)≤most:=by
 unfold iV at h
 rw[Xs,Wt]at h
 refine⟨ab,fun k hk=>?_⟩
 have:=List.any_eq_false.1 h.2 k hk
 simp at this;exact this
theorem U1 {a b:Int}(h:bL a)(h':bL b):∀n∈[a,b],bL n:=fun n hn=>by
 simp only[Wp,Xh,or_false]at hn
 rcases hn with rfl|rfl<;>assumption
theorem U2 (a b:Int):[a,b].flatMap aJ=aJ a++aJ b:=au
theorem xG {l:List Rn}(h:dX l){j:Nat}(hj:j+1<l.length):l[j].to≤l[j+1].fr:=by
 have:=(h (j+1) hj hj).2 ab
 simp only[WD]at this
 omega
theorem rL (l:List UInt8)(ns:List Int)(hb:l.length+9*ns.length≤1000000000000)(hok:∀n∈ns,bL n):Fn prog 189 [dS l,xt ns] (gz (l++ns.flatMap aJ)):=by
 have h:=ju l ns hb hok
 refine fi func189 ntmps189 ?_
 (refine aq h ?_)
 exact nx
theorem SA (s:List Kn)(hs:s.length≤1000000000)(hf:sS s):Fn prog 190 [fd s] (dq true):=by
 refine fi func190 ntmps190 ?_
 (refine w0 ?_)
 refine aj (X:=Nat) (fun z=>z≤s.length) (fun z=>ay [(5,fd s),(6,iC .i64 (s.length:Nat)),(7,iC .i64 (z:Nat))] []) (fun z=>s.length-z) 0 (Wa _) ?_
 intro z hz
 by_cases hlt:z<s.length
 ·have h1:=hf _ (Wk hlt)
  (refine w0 ?_;repeat' first|apply ah|refine ai fun hc=>?_)
  refine⟨z+1,ab,ab,?_⟩
  exact ae
 ·(refine w0 ?_;repeat' first|apply ah|refine ai fun hc=>?_)
  exact dp
theorem LZ (b:List UInt8)(s:List Kn)(hb:b.length≤100000000000)(hok:cu s)(hf:sS s):Fn prog 191 [dS b,fd s] (gz (b++lw s)):=by
 have hs16:=oH hok
 have c0:=rL b [(s.length:Int)] bn (kJ ab ab)
 have hn0:=bf (s.length:Int) ab
 refine fi func191 ntmps191 ?_
 (refine aq c0 ?_)
 refine bQ (aN 14 600) ?_
 refine aj (X:=Nat×List UInt8) (fun x=>x.1≤s.length∧x.2.length≤b.length+10+90000*x.1∧x.2++(s.drop x.1).flatMap Gc=b++lw s)
  (fun x=>ay [(0,.row 600 0),(15,fd s),(16,iC .i64 (s.length:Nat)),(17,iC .i64 (x.1:Nat))] [(600,.row 5 1 (x.2.map byteP))]) (fun x=>s.length-x.1) (0,b++[(s.length:Int)].flatMap aJ) ⟨Wa _,bn,by simp[lw]⟩ ?_
 clear c0
 rintro⟨k,acc⟩ ⟨h1,h2,h3⟩
 simp only at h1 h2 h3 ⊢
 by_cases hlt:k<s.length
 ·obtain⟨a1,a2,a3,a4⟩:=iE hok hlt
  have hfk:=hf _ (Wk hlt)
  rw[List.drop_eq_getElem_cons hlt,List.flatMap_cons]at h3
  have c1:=rL acc [s[k].rep,(s[k].runs.length:Int)] bn (U1 (by unfold bL;omega) (by unfold bL;omega))
  have n1:=bf s[k].rep ab
  have n2:=bf (s[k].runs.length:Int) ab
  clear hok hf
  (refine aq c1 ?_;repeat' first|apply ah|refine ai fun hc=>?_)
  refine bQ (aN 28 600) ?_
  refine aj (X:=Nat×Int×List UInt8) (fun x=>x.1≤s[k].runs.length∧0≤x.2.1∧x.2.1≤1099511627776∧(∀h:x.1<s[k].runs.length,x.2.1≤s[k].runs[x.1].fr)∧x.2.2.length≤acc.length+20+20*x.1∧x.2.2++(jV x.2.1 (s[k].runs.drop x.1)++(s.drop (k+1)).flatMap Gc)=b++lw s)
   (fun x=>ay [(0,.row 600 0),(7,iC .i64 x.2.1),(15,fd s),(16,iC .i64 (s.length:Nat)),(17,iC .i64 (k:Nat)),(30,.per (mN s[k].runs)),(31,iC .i64 (s[k].runs.length:Nat)),(32,iC .i64 (x.1:Nat))] [(600,.row 5 1 (x.2.2.map byteP))])
   (fun x=>s[k].runs.length-x.1) (0,0,acc++[s[k].rep,(s[k].runs.length:Int)].flatMap aJ) ⟨Wa _,au,au,fun(h:0<s[k].runs.length)=>show(0:Int)≤s[k].runs[0].fr from by have:=(lQ a4 h).1;omega,by simp only[U2,V5];omega,by rw[←h3];simp[Gc]⟩ ?_
  clear h3 c1
  rintro⟨j,was,acc'⟩ ⟨g1,g2,g3,g4,g5,g6⟩
  simp only at g1 g2 g3 g4 g5 g6 ⊢
  by_cases hj:j<s[k].runs.length
  ·have hr:=lQ a4 hj
   have hw:=g4 hj
   have hrise:∀h:j+1<s[k].runs.length,s[k].runs[j].to≤s[k].runs[j+1].fr:=fun h=>xG a4 h
   rw[List.drop_eq_getElem_cons hj,jV]at g6
   have c2:=rL acc' [s[k].runs[j].fr-was,s[k].runs[j].to-s[k].runs[j].fr] bn (U1 (by unfold bL;omega) (by unfold bL;omega))
   have n3:=bf (s[k].runs[j].fr-was) ab
   have n4:=bf (s[k].runs[j].to-s[k].runs[j].fr) ab
   clear a4 g4
   (refine aq c2 ?_;repeat' first|apply ah|refine ai fun hc=>?_)
   refine⟨(j+1,s[k].runs[j].to,acc'++[s[k].runs[j].fr-was,s[k].runs[j].to-s[k].runs[j].fr].flatMap aJ),⟨aA,aA,aA,hrise,by simp only[U2,V5];omega,by rw[←g6];simp⟩,aA,av (aN 47 600) ?_⟩
   exact ae
  ·rw[Wv ab,jV,Wu]at g6
   clear a4 g4
   (refine w0 ?_;repeat' first|apply ah|refine ai fun hc=>?_)
   refine⟨(k+1,acc'),⟨aA,aA,g6⟩,aA,?_⟩
   exact ae
 ·rw[Wv ab,WC,Wg]at h3
  (refine w0 ?_;repeat' first|apply ah|refine ai fun hc=>?_)
  refine dw ?_
  exact cJ rfl rfl rfl h3
theorem P2 (s:List Kn)(hok:cu s)(hf:sS s):Fn prog 168 [fd s] (gz (lw s)):=by
 have hs16:=oH hok
 have c0:=iB (s.length:Int) (by unfold bL;omega)
 have hn0:=bf (s.length:Int) ab
 refine fi func168 ntmps168 ?_
 (refine aq c0 ?_)
 refine bQ (aN 10 600) ?_
 refine aj (X:=Nat×List UInt8) (fun x=>x.1≤s.length∧x.2.length≤10+90000*x.1∧x.2++(s.drop x.1).flatMap Gc=lw s)
  (fun x=>ay [(0,fd s),(3,.row 600 0),(4,iC .i64 (x.1:Nat))] [(600,.row 5 1 (x.2.map byteP))]) (fun x=>s.length-x.1) (0,aJ (s.length:Int)) ⟨Wa _,aA,by simp[lw]⟩ ?_
 clear c0
 rintro⟨k,acc⟩ ⟨h1,h2,h3⟩
 simp only at h1 h2 h3 ⊢
 by_cases hlt:k<s.length
 ·obtain⟨a1,a2,a3,a4⟩:=iE hok hlt
  have hfk:=hf _ (Wk hlt)
  rw[List.drop_eq_getElem_cons hlt,List.flatMap_cons]at h3
  have c1:=oA [s[k].rep,(s[k].runs.length:Int)] au (U1 (by unfold bL;omega) (by unfold bL;omega))
  have n1:=bf s[k].rep ab
  have n2:=bf (s[k].runs.length:Int) ab
  clear hok hf
  (refine aq c1 ?_;repeat' first|apply ah|refine ai fun hc=>?_)
  refine aj (X:=Nat×Int×List UInt8) (fun x=>x.1≤s[k].runs.length∧0≤x.2.1∧x.2.1≤1099511627776∧(∀h:x.1<s[k].runs.length,x.2.1≤s[k].runs[x.1].fr)∧x.2.2.length≤acc.length+20+20*x.1∧x.2.2++(jV x.2.1 (s[k].runs.drop x.1)++(s.drop (k+1)).flatMap Gc)=lw s)
   (fun x=>ay [(0,fd s),(3,.row 600 0),(4,iC .i64 (k:Nat)),(5,iC .i64 x.2.1),(6,iC .i64 (x.1:Nat))] [(600,.row 5 1 (x.2.2.map byteP))])
   (fun x=>s[k].runs.length-x.1) (0,0,acc++[s[k].rep,(s[k].runs.length:Int)].flatMap aJ) ⟨Wa _,au,au,fun(h:0<s[k].runs.length)=>show(0:Int)≤s[k].runs[0].fr from by have:=(lQ a4 h).1;omega,by simp only[U2,V5];omega,by rw[←h3];simp[Gc]⟩ ?_
  clear h3 c1
  rintro⟨j,was,acc'⟩ ⟨g1,g2,g3,g4,g5,g6⟩
  simp only at g1 g2 g3 g4 g5 g6 ⊢
  by_cases hj:j<s[k].runs.length
  ·have hr:=lQ a4 hj
   have hw:=g4 hj
   have hrise:∀h:j+1<s[k].runs.length,s[k].runs[j].to≤s[k].runs[j+1].fr:=fun h=>xG a4 h
   rw[List.drop_eq_getElem_cons hj,jV]at g6
   have c2:=oA [s[k].runs[j].fr-was,s[k].runs[j].to-s[k].runs[j].fr] au (U1 (by unfold bL;omega) (by unfold bL;omega))
   have n3:=bf (s[k].runs[j].fr-was) ab
   have n4:=bf (s[k].runs[j].to-s[k].runs[j].fr) ab
   clear a4 g4
   (refine aq c2 ?_;repeat' first|apply ah|refine ai fun hc=>?_)
   refine⟨(j+1,s[k].runs[j].to,acc'++[s[k].runs[j].fr-was,s[k].runs[j].to-s[k].runs[j].fr].flatMap aJ),⟨aA,aA,aA,hrise,by simp only[U2,V5];omega,by rw[←g6];simp⟩,aA,?_⟩
   exact ae
  ·rw[Wv ab,jV,Wu]at g6
   clear a4 g4
   (refine w0 ?_;repeat' first|apply ah|refine ai fun hc=>?_)
   refine⟨(k+1,acc'),⟨aA,aA,g6⟩,aA,?_⟩
   exact ae
 ·rw[Wv ab,WC,Wg]at h3
  (refine w0 ?_;repeat' first|apply ah|refine ai fun hc=>?_)
  refine dw ?_
  exact cJ rfl rfl rfl h3
end Go.Proofs.YtaclhhkblbacgaaGreat
