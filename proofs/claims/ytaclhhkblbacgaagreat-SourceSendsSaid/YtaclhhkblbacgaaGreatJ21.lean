/- Texts joined: KnE KnF KnP SoP. -/
import Derived.Test.YtaclhhkblbacgaaGreatJ20
import Derived.Shelf.Slices.CompactS
set_option maxRecDepth 10000
set_option maxHeartbeats 8000000
namespace Go.Proofs.YtaclhhkblbacgaaGreat
open Go.RowKit Go.Proofs.Tryz
def ib:List ByteArray→ByteArray→List ByteArray
 | [],n=>[n]
 | x::l,n=>if x<n then x::ib l n else if x=n then x::l else n::x::l
theorem nL:∀(l:List ByteArray)(n m:ByteArray),m∈ib l n↔m=n∨m∈l:=by
 intro l
 induction l with
 | nil=>intro n m;simp[ib]
 | cons x l ih=>
  intro n m
  rw[ib]
  split
  ·simp only[Wp,ih]
   constructor
   ·rintro(h|h|h)<;>simp[h]
   ·rintro(h|h|h)<;>simp[h]
  ·split
   ·rename_i e
    subst e
    simp
   ·simp
abbrev Aq (l:List ByteArray):Prop:=l.Pairwise (·<·)
theorem zw:∀(l:List ByteArray)(n:ByteArray),Aq l→Aq (ib l n):=by
 intro l
 induction l with
 | nil=>intro n _;simp[ib]
 | cons x l ih=>
  intro n h
  obtain⟨h1,h2⟩:=List.pairwise_cons.1 h
  rw[ib]
  split
  ·rename_i c
   refine List.pairwise_cons.2 ⟨fun z hz=>?_,ih n h2⟩
   rcases(nL _ _ _).1 hz with rfl|hz
   ·exact c
   ·exact h1 z hz
  ·split
   ·exact h
   ·refine List.pairwise_cons.2 ⟨fun z hz=>?_,h⟩
    rcases Wp.1 hz with rfl|hz
    ·grind
    ·have:=h1 z hz;grind
theorem MU:∀{l m:List ByteArray},Aq l→Aq m→(∀s,s∈l↔s∈m)→l=m:=by
 intro l
 induction l with
 | nil=>
  intro m _ _ h
  cases m with
  | nil=>rfl
  | cons y m=>have:=(h y).2 au;simp at this
 | cons x l ih=>
  intro m hl hm h
  cases m with
  | nil=>have:=(h x).1 au;simp at this
  | cons y m=>
   obtain⟨a1,a2⟩:=List.pairwise_cons.1 hl
   obtain⟨b1,b2⟩:=List.pairwise_cons.1 hm
   have e:x=y:=by
    rcases Wp.1 ((h x).1 au)with q|q
    ·exact q
    ·rcases Wp.1 ((h y).2 au)with z|z
     ·exact z.symm
     ·have:=b1 x q;have:=a1 y z;grind
   subst e
   rw[ih a2 b2 (fun s=>?_)]
   constructor
   ·intro q
    have:=a1 s q
    rcases Wp.1 ((h s).1 (by simp[q]))with z|z
    ·subst z;grind
    ·exact z
   ·intro q
    have:=b1 s q
    rcases Wp.1 ((h s).2 (by simp[q]))with z|z
    ·subst z;grind
    ·exact z
def kO (e:List ByteArray)(r:Rg):List ByteArray:=if fX r then(if r.op then ib e r.lo else ib (ib e r.lo) r.hi)else e
def j9 (e:List ByteArray)(l:List Rg):List ByteArray:=l.foldl kO e
theorem MV {e:List ByteArray}{r:Rg}(h:Aq e):Aq (kO e r):=by
 unfold kO;split
 ·split
  ·exact zw _ _ h
  ·exact zw _ _ (zw _ _ h)
 ·exact h
theorem GC:∀(l:List Rg)(e:List ByteArray),Aq e→Aq (j9 e l):=by
 intro l
 induction l with
 | nil=>intro e h;exact h
 | cons r l ih=>intro e h;exact ih _ (MV h)
def ly (r:Rg)(m:ByteArray):Prop:=fX r=true∧(m=r.lo∨r.op=false∧m=r.hi)
theorem j0:∀(l:List Rg)(e:List ByteArray)(m:ByteArray),m∈j9 e l↔m∈e∨∃r∈l,ly r m:=by
 intro l
 induction l with
 | nil=>intro e m;simp[j9]
 | cons r l ih=>
  intro e m
  show m∈j9 (kO e r) l↔_
  rw[ih]
  have h1:m∈kO e r↔m∈e∨ly r m:=by
   unfold kO ly
   by_cases c:fX r=true
   ·rw[V6 c]
    by_cases o:r.op=true
    ·rw[V6 o,nL]
     simp[c,o,or_comm]
    ·rw[V3 o,nL,nL]
     have o':r.op=false:=by simpa using o
     simp only[c,o',true_and]
     constructor
     ·rintro(h|h|h)<;>simp[h]
     ·rintro(h|h|h)<;>simp[h]
   ·rw[V3 c]
    simp[c]
  rw[h1]
  simp only[Wp,exists_eq_or_imp,or_assoc]
theorem lY:∀(l:List Rg)(e:List ByteArray),(j9 e l).length≤e.length+2*l.length:=by
 have h1:∀(l:List ByteArray)(n:ByteArray),(ib l n).length≤l.length+1:=by
  intro l
  induction l with
  | nil=>intro n;simp[ib]
  | cons x l ih=>
   intro n
   rw[ib]
   split
   ·have:=ih n;simp;omega
   ·split<;>simp
 intro l
 induction l with
 | nil=>intro e;simp[j9]
 | cons r l ih=>
  intro e
  show(j9 (kO e r) l).length≤_
  have h2:=ih (kO e r)
  have h3:(kO e r).length≤e.length+2:=by
   unfold kO
   have a:=h1 (ib e r.lo) r.hi
   have b:=h1 e r.lo
   split
   ·split<;>omega
   ·omega
  rw[Wh];omega
abbrev emB:ByteArray:=⟨#[]⟩
theorem MW (s:ByteArray):emB≤s:=by
 show cP emB s≤0
 unfold cP
 cases s.data.toList with
 | nil=>decide
 | cons x l=>simp[dr]
def eG (k:List Pc)(s:ByteArray):List Kn:=match k with
 | []=>[]
 | p::l=>if cO p.rg s then p.set else eG l s
theorem qJ (s:ByteArray):eG [] s=[]:=rfl
theorem lh {p:Pc}{l:List Pc}{s:ByteArray}(h:cO p.rg s=true):eG (p::l) s=p.set:=by rw[eG,V6 h]
theorem gg {p:Pc}{l:List Pc}{s:ByteArray}(h:¬cO p.rg s=true):eG (p::l) s=eG l s:=by rw[eG,V3 h]
theorem da {r:Rg}(h:fX r=true)(s:ByteArray):cO r s=true↔r.lo≤s∧(r.op=true∨s<r.hi):=by
 rw[jZ h];simp
theorem MX {r:Rg}(h:fX r=true):cO r r.lo=true:=by
 rw[da h]
 refine⟨by grind,?_⟩
 rcases jy h with q|q
 ·exact .inl q
 ·exact .inr q
def Uf (p:Pc):Prop:=fX p.rg=true∧p.set≠[]∧cu p.set
theorem gi:aX []:=fun i hi=>by simp at hi
theorem dj (p:Pc)(l:List Pc):aX (p::l)↔Uf p∧(∀q,l.head?=some q→p.rg.op=false∧p.rg.hi≤q.rg.lo∧¬(p.rg.hi=q.rg.lo∧p.set=q.set))∧aX l:=by
 constructor
 ·intro h
  have h0:=h 0 au au
  refine⟨⟨h0.1,h0.2.1,h0.2.2.1⟩,fun q hq=>?_,fun i hi hi'=>?_⟩
  ·cases l with
   | nil=>cases hq
   | cons z l=>
    cases hq
    exact(h 1 au au).2.2.2 ab
  ·have h1:=h (i+1) (by simpa using hi) (by simpa using hi)
   simp only[List.getElem_cons_succ,WD]at h1
   refine⟨h1.1,h1.2.1,h1.2.2.1,fun h0=>?_⟩
   have h2:=h1.2.2.2 ab
   obtain⟨j,rfl⟩:∃j,i=j+1:=⟨i-1,ab⟩
   exact h2
 ·rintro⟨⟨h1,h2,h2'⟩,h3,h4⟩ i hi hi'
  cases i with
  | zero=>exact⟨h1,h2,h2',fun q=>absurd q (Nat.lt_irrefl _)⟩
  | succ i=>
   have h5:=h4 i (by simpa using hi) (by simpa using hi)
   simp only[List.getElem_cons_succ,WD]
   refine⟨h5.1,h5.2.1,h5.2.2.1,fun _=>?_⟩
   cases i with
   | zero=>
    cases l with
    | nil=>simp at hi
    | cons z l=>exact h3 z rfl
   | succ i=>
    exact h5.2.2.2 ab
theorem lZ {p:Pc}{l:List Pc}(h:aX (p::l)){s:ByteArray}(hs:eG l s≠[]):p.rg.op=false∧p.rg.hi≤s:=by
 induction l generalizing p with
 | nil=>exact absurd rfl hs
 | cons q l ih=>
  obtain⟨_,h2,h3⟩:=(dj _ _).1 h
  obtain⟨a,b,_⟩:=h2 q rfl
  obtain⟨⟨hq,_,_⟩,_,_⟩:=(dj _ _).1 h3
  refine⟨a,?_⟩
  by_cases c:cO q.rg s=true
  ·have:=((da hq s).1 c).1
   grind
  ·rw[gg c]at hs
   obtain⟨_,d⟩:=ih h3 hs
   rcases jy hq with z|z
   ·have:=(ih h3 hs).1;rw[z]at this;cases this
   ·grind
theorem zx {p:Pc}{l:List Pc}(h:aX (p::l)){s:ByteArray}(hs:eG (p::l) s≠[]):p.rg.lo≤s:=by
 obtain⟨⟨hp,_,_⟩,_,_⟩:=(dj _ _).1 h
 by_cases c:cO p.rg s=true
 ·exact((da hp s).1 c).1
 ·rw[gg c]at hs
  obtain⟨a,b⟩:=lZ h hs
  rcases jy hp with z|z
  ·rw[z]at a;cases a
  ·grind
theorem jz {p:Pc}{l:List Pc}(h:aX (p::l)):eG (p::l) p.rg.lo=p.set∧p.set≠[]:=by
 obtain⟨⟨hp,h2,_⟩,_,_⟩:=(dj _ _).1 h
 exact⟨lh (MX hp),h2⟩
theorem MY {p:Pc}{l:List Pc}(h:aX (p::l))(ho:p.rg.op=false):eG (p::l) p.rg.hi≠p.set:=by
 obtain⟨⟨hp,h2,_⟩,h3,h4⟩:=(dj _ _).1 h
 have c:¬cO p.rg p.rg.hi=true:=fun q=>by
  rcases((da hp _).1 q).2 with z|z
  ·rw[ho]at z;cases z
  ·grind
 rw[gg c]
 cases l with
 | nil=>exact fun e=>h2 e.symm
 | cons q l=>
  obtain⟨_,b,d⟩:=h3 q rfl
  intro e
  have hne:eG (q::l) p.rg.hi≠[]:=by rw[e];exact h2
  have:=zx h4 hne
  have e2:p.rg.hi=q.rg.lo:=by grind
  rw[e2,(jz h4).1]at e
  exact d ⟨e2,e.symm⟩
theorem pQ:∀{l m:List Pc},aX l→aX m→(∀s,eG l s=eG m s)→l=m:=by
 intro l
 induction l with
 | nil=>
  intro m _ hm h
  cases m with
  | nil=>rfl
  | cons q m=>
   obtain⟨a,b⟩:=jz hm
   exact absurd ((h _).trans a).symm b
 | cons p l ih=>
  intro m hl hm h
  cases m with
  | nil=>
   obtain⟨a,b⟩:=jz hl
   exact absurd (a.symm.trans (h _)) b
  | cons q m=>
   obtain⟨a1,a2⟩:=jz hl
   obtain⟨b1,b2⟩:=jz hm
   obtain⟨⟨hp,_,_⟩,_,hl'⟩:=(dj _ _).1 hl
   obtain⟨⟨hq,_,_⟩,_,hm'⟩:=(dj _ _).1 hm
   have e1:p.rg.lo=q.rg.lo:=by
    have x:=zx hm (s:=p.rg.lo) (by rw[←h,a1];exact a2)
    have y:=zx hl (s:=q.rg.lo) (by rw[h,b1];exact b2)
    grind
   have e2:p.set=q.set:=by rw[←a1,←b1,h,e1]
   have inn:∀{r r':Pc} {l l':List Pc},aX (r::l)→aX (r'::l')→fX r.rg=true→fX r'.rg=true→r.rg.lo=r'.rg.lo→r.set=r'.set→(∀s,eG (r::l) s=eG (r'::l') s)→r.rg.op=false→r'.rg.op=false∧r'.rg.hi≤r.rg.hi:=by
    intro r r' l l' h1 h2 hr hr' z1 z2 hg ho
    have hE:=MY h1 ho
    rw[hg,z2]at hE
    have hlt:r.rg.lo<r.rg.hi:=by
     rcases jy hr with q|q
     ·rw[ho]at q;cases q
     ·exact q
    have hno:¬cO r'.rg r.rg.hi=true:=fun c=>hE (lh c)
    rw[da hr']at hno
    have:r'.rg.op=false:=by
     rw[←Wy];intro c;exact hno ⟨by grind,.inl c⟩
    refine⟨this,?_⟩
    by_cases c:r.rg.hi<r'.rg.hi
    ·exact absurd ⟨by grind,.inr c⟩ hno
    ·grind
   have e3:p.rg.op=q.rg.op:=by
    cases o:p.rg.op with
    | false=>exact(inn hl hm hp hq e1 e2 h o).1.symm
    | true=>
     cases o':q.rg.op with
     | true=>rfl
     | false=>
      have:=(inn hm hl hq hp e1.symm e2.symm (fun s=>(h s).symm) o').1
      rw[o]at this;cases this
   have e4:p.rg.hi=q.rg.hi:=by
    cases o:p.rg.op with
    | false=>
     have x:=(inn hl hm hp hq e1 e2 h o).2
     have y:=(inn hm hl hq hp e1.symm e2.symm (fun s=>(h s).symm) (e3▸o)).2
     grind
    | true=>
     have x:=(b0 _).1 hp
     have y:=(b0 _).1 hq
     rw[←e3,o]at y
     rw[o]at x
     simp at x y
     rw[x.2.2,y.2.2]
   have e:p=q:=by
    obtain⟨⟨lo,hi,op⟩,st⟩:=p
    obtain⟨⟨lo',hi',op'⟩,st'⟩:=q
    simp only at e1 e2 e3 e4
    rw[e1,e2,e3,e4]
   subst e
   rw[ih hl' hm' (fun s=>?_)]
   by_cases c:cO p.rg s=true
   ·have no:∀{t:List Pc},aX (p::t)→eG t s=[]:=fun {t} ht=>by
     refine XI fun z=>?_
     obtain⟨x,y⟩:=lZ ht z
     rcases((da hp s).1 c).2 with w|w
     ·rw[x]at w;cases w
     ·grind
    rw[no hl,no hm]
   ·have:=h s
    rwa [gg c,gg c]at this
def wI (p q:Pc):Bool:=!p.rg.op&&(decide (p.rg.hi=q.rg.lo)&&decide (p.set=q.set))
def wJ:Pc→List Pc→List Pc
 | c,[]=>[c]
 | c,p::l=>if wI c p then wJ ⟨⟨c.rg.lo,p.rg.hi,p.rg.op⟩,c.set⟩ l else c::wJ p l
def kr:List Pc→List Pc
 | []=>[]
 | p::l=>wJ p l
theorem MZ:∀(l:List Pc)(c:Pc),∃z t,wJ c l=z::t∧z.rg.lo=c.rg.lo∧z.set=c.set:=by
 intro l
 induction l with
 | nil=>intro c;exact⟨c,[],rfl,rfl,rfl⟩
 | cons p l ih=>
  intro c
  rw[wJ]
  split
  ·obtain⟨z,t,h1,h2,h3⟩:=ih ⟨⟨c.rg.lo,p.rg.hi,p.rg.op⟩,c.set⟩
   exact⟨z,t,h1,h2,h3⟩
  ·exact⟨c,_,rfl,rfl,rfl⟩
def Beh (p q:Pc):Prop:=p.rg.op=false∧p.rg.hi≤q.rg.lo
theorem SN:∀(l:List Pc)(c:Pc),(c::l).Pairwise Beh→(∀p∈c::l,Uf p)→aX (wJ c l)∧∀s,eG (wJ c l) s=eG (c::l) s:=by
 intro l
 induction l with
 | nil=>
  intro c _ h
  exact⟨(dj c []).2 ⟨h c au,fun q hq=>by simp at hq,gi⟩,fun _=>rfl⟩
 | cons p l ih=>
  intro c hs h
  have hc:=h c au
  have hp:=h p au
  obtain⟨s1,s2⟩:=List.pairwise_cons.1 hs
  obtain⟨t1,t2⟩:=s1 p au
  obtain⟨s4,s5⟩:=List.pairwise_cons.1 s2
  have clt:c.rg.lo<c.rg.hi:=by
   rcases jy hc.1 with q|q
   ·rw[t1]at q;cases q
   ·exact q
  rw[wJ]
  by_cases g:wI c p=true
  ·rw[V6 g]
   unfold wI at g
   simp only[Wi,Xp,Wn]at g
   obtain⟨_,g2,g3⟩:=g
   have r1:=(b0 _).1 hc.1
   have r2:=(b0 _).1 hp.1
   have hm:fX ⟨c.rg.lo,p.rg.hi,p.rg.op⟩=true:=(b0 _).2 ⟨r1.1,r2.2.1,by
    cases o:p.rg.op with
    | true=>
     rw[o]at r2
     simpa using r2.2.2
    | false=>
     rcases jy hp.1 with q|q
     ·rw[o]at q;cases q
     ·rw[V3 au,i7]
      simp only
      grind⟩
   have:=ih ⟨⟨c.rg.lo,p.rg.hi,p.rg.op⟩,c.set⟩ (List.pairwise_cons.2 ⟨fun z hz=>s4 z hz,s5⟩) (fun z hz=>by
    rcases Wp.1 hz with rfl|hz
    ·exact⟨hm,hc.2⟩
    ·exact h z (by simp[hz]))
   refine⟨this.1,fun s=>?_⟩
   rw[this.2 s,eG,eG,eG]
   have e:cO ⟨c.rg.lo,p.rg.hi,p.rg.op⟩ s=(cO c.rg s||cO p.rg s):=by
    rw[Wo,WN,da hm,da hc.1,da hp.1]
    simp only
    rcases jy hp.1 with q|q
    ·simp only[q,t1]
     constructor
     ·rintro⟨a,_⟩
      by_cases z:s<c.rg.hi
      ·exact .inl ⟨a,.inr z⟩
      ·exact .inr ⟨by grind,.inl trivial⟩
     ·rintro(⟨a,_⟩|⟨a,_⟩)
      ·exact⟨a,.inl trivial⟩
      ·exact⟨by grind,.inl trivial⟩
    ·constructor
     ·rintro⟨a,b⟩
      by_cases z:s<c.rg.hi
      ·exact .inl ⟨a,.inr z⟩
      ·exact .inr ⟨by grind,b⟩
     ·rintro(⟨a,b⟩|⟨a,b⟩)
      ·refine⟨a,.inr ?_⟩
       rcases b with b|b
       ·rw[t1]at b;cases b
       ·grind
      ·exact⟨by grind,b⟩
   rw[e]
   cases cO c.rg s with
   | true=>simp
   | false=>
    cases cO p.rg s with
    | true=>simp[g3]
    | false=>simp
  ·rw[V3 g]
   have:=ih p s2 (fun z hz=>h z (Ww _ hz))
   obtain⟨z,t,e1,e2,e3⟩:=MZ l p
   refine⟨(dj _ _).2 ⟨hc,fun q hq=>?_,this.1⟩,fun s=>?_⟩
   ·rw[e1]at hq
    cases hq
    refine⟨t1,by rw[e2];exact t2,fun⟨q1,q2⟩=>g ?_⟩
    unfold wI
    rw[e2]at q1
    rw[e3]at q2
    simp[t1,q1,q2]
   ·rw[eG,this.2 s,eG.eq_def (c::p::l)]
theorem ES {l:List Pc}(hs:l.Pairwise Beh)(h:∀p∈l,Uf p):aX (kr l)∧∀s,eG (kr l) s=eG l s:=by
 cases l with
 | nil=>exact⟨gi,fun _=>rfl⟩
 | cons x l=>exact SN l x hs h
def pm (s:ByteArray):List ByteArray→Rg
 | []=>⟨s,emB,true⟩
 | t::_=>⟨s,t,false⟩
def fL (f:ByteArray→List Kn):List ByteArray→List Pc
 | []=>[]
 | e::E=>(if(f e).length=0 then []else [⟨pm e E,f e⟩])++fL f E
def pR (f:ByteArray→List Kn)(E:List ByteArray):List Pc:=kr (fL f E)
def pn (E:List ByteArray):Prop:=∀m∈E,m.size≤17
theorem qK {e:ByteArray}{E:List ByteArray}(h:Aq (e::E))(ho:pn (e::E)):fX (pm e E)=true:=by
 cases E with
 | nil=>exact(b0 _).2 ⟨ho e au,by show(0:Nat)≤17;decide,by simp[pm];rfl⟩
 | cons t E=>
  refine(b0 _).2 ⟨ho e au,ho t au,?_⟩
  have:=(List.pairwise_cons.1 h).1 t au
  simp only[pm]
  exact this
theorem vt (f:ByteArray→List Kn)(hf:∀s,cu (f s)):∀(E:List ByteArray),Aq E→pn E→∀p∈fL f E,Uf p∧p.rg.lo∈E:=by
 intro E
 induction E with
 | nil=>intro _ _ p hp;simp[fL]at hp
 | cons e E ih=>
  intro h ho p hp
  rw[fL,Wz]at hp
  rcases hp with hp|hp
  ·split at hp
   ·simp at hp
   ·rename_i c
    have hp:p=⟨pm e E,f e⟩:=by simpa using hp
    subst hp
    refine⟨⟨qK h ho,fun q=>c (by simp only at q;rw[q];rfl),hf e⟩,?_⟩
    have:(pm e E).lo=e:=by cases E<;>rfl
    simp[this]
  ·have:=ih (List.pairwise_cons.1 h).2 (fun m hm=>ho m (Ww _ hm)) p hp
   exact⟨this.1,Ww _ this.2⟩
theorem M0 (f:ByteArray→List Kn)(hf:∀s,cu (f s)):∀(E:List ByteArray),Aq E→pn E→(fL f E).Pairwise Beh:=by
 intro E
 induction E with
 | nil=>intro _ _;exact XF
 | cons e E ih=>
  intro h ho
  have h2:=(List.pairwise_cons.1 h).2
  have ho2:pn E:=fun m hm=>ho m (Ww _ hm)
  have h3:=ih h2 ho2
  rw[fL]
  split
  ·exact h3
  ·refine List.pairwise_cons.2 ⟨fun z hz=>?_,h3⟩
   have h4:=(vt f hf E h2 ho2 z hz).2
   cases E with
   | nil=>simp at h4
   | cons t E=>
    refine⟨rfl,?_⟩
    show t≤z.rg.lo
    rcases Wp.1 h4 with q|q
    ·rw[q];grind
    ·have:=(List.pairwise_cons.1 h2).1 _ q;grind
def M1 (f:ByteArray→List Kn)(E:List ByteArray):Prop:=∀e n,e≤n→(∀m∈E,m≤e∨n<m)→f e=f n
theorem IO {l:List Pc}{s:ByteArray}(h:∀p∈l,Uf p∧s<p.rg.lo):eG l s=[]:=by
 induction l with
 | nil=>rfl
 | cons p l ih=>
  obtain⟨a,b⟩:=h p au
  rw[gg (fun c=>by have:=((da a.1 s).1 c).1;grind)]
  exact ih (fun q hq=>h q (Ww _ hq))
theorem M2 {f:ByteArray→List Kn}{M:List ByteArray}(hf:∀s,cu (f s))(hc:M1 f M):∀(E:List ByteArray)(e:ByteArray),Aq (e::E)→pn (e::E)→(∀m∈M,m≤e∨m∈E)→∀s,e≤s→eG (fL f (e::E)) s=f s:=by
 intro E
 induction E with
 | nil=>
  intro e h ho hM s hs
  have he : f e = f s := hc e s hs (fun m hm => by rcases hM m hm with q | q; · exact .inl q
                                                   ·simp at q)
  rw[fL,fL,Wg,←he]
  split
  ·rename_i q
   rw[qJ,Wf q]
  ·exact lh ((da (qK h ho) s).2 ⟨hs,.inl rfl⟩)
 | cons t E ih=>
  intro e h ho hM s hs
  obtain⟨h1,h2⟩:=List.pairwise_cons.1 h
  have h3:=h1 t au
  have ho2:pn (t::E):=fun m hm=>ho m (Ww _ hm)
  obtain⟨h4,_⟩:=List.pairwise_cons.1 h2
  by_cases c:s<t
  ·have he:f e=f s:=hc e s hs (fun m hm=>by
    rcases hM m hm with q|q
    ·exact .inl q
    ·rcases Wp.1 q with rfl|q
     ·exact .inr c
     ·have:=h4 m q;exact .inr (by grind))
   have hno:eG (fL f (t::E)) s=[]:=IO (fun p hp=>by
    obtain⟨a,b⟩:=vt f hf _ h2 ho2 p hp
    refine⟨a,?_⟩
    rcases Wp.1 b with q|q
    ·rw[q];exact c
    ·have:=h4 _ q;grind)
   rw[fL,←he]
   split
   ·rename_i q
    rw[Wu,hno,Wf q]
   ·exact lh ((da (qK h ho) s).2 ⟨hs,.inr c⟩)
  ·have:=ih t h2 ho2 (fun m hm=>by
    rcases hM m hm with q|q
    ·exact .inl (by grind)
    ·rcases Wp.1 q with rfl|q
     ·exact .inl (by grind)
     ·exact .inr q) s (by grind)
   rw[fL]
   split
   ·exact this
   ·refine(gg (fun q=>?_)).trans this
    rcases((da (qK h ho) s).1 q).2 with z|z
    ·cases z
    ·exact c z
theorem zy {f:ByteArray→List Kn}(hf:∀s,cu (f s)){E:List ByteArray}(hup:Aq E)(ho:pn E)(h0:emB∈E)(hc:M1 f E):aX (pR f E)∧∀s,eG (pR f E) s=f s:=by
 have h1:=ES (M0 f hf E hup ho) (fun p hp=>(vt f hf E hup ho p hp).1)
 refine⟨h1.1,fun s=>(h1.2 s).trans ?_⟩
 cases E with
 | nil=>simp at h0
 | cons e E=>
  have he:e=emB:=by
   rcases Wp.1 h0 with q|q
   ·exact q.symm
   ·have:=(List.pairwise_cons.1 hup).1 _ q
    have:=MW e
    grind
  exact M2 hf hc E e hup ho (fun m hm=>by
   rcases Wp.1 hm with rfl|hm
   ·exact .inl (by grind)
   ·exact .inr hm) s (by rw[he];exact MW s)
theorem Qs {f:ByteArray→List Kn}(hf:∀s,cu (f s)){E:List ByteArray}(hup:Aq E)(ho:pn E)(h0:emB∈E)(hc:M1 f E){k:List Pc}(hk:aX k)(hg:∀s,eG k s=f s):pR f E=k:=
 have h:=zy hf hup ho h0 hc
 pQ h.1 hk (fun s=>(h.2 s).trans (hg s).symm)
theorem M3 (f:ByteArray→List Kn):∀E:List ByteArray,(fL f E).length≤E.length:=by
 intro E
 induction E with
 | nil=>simp[fL]
 | cons e E ih=>
  rw[fL,V5,Wh]
  have:(if(f e).length=0 then []else [(⟨pm e E,f e⟩:Pc)]).length≤1:=by split<;>simp
  omega
theorem Qt:∀(l:List Pc)(c:Pc),(wJ c l).length≤l.length+1:=by
 intro l
 induction l with
 | nil=>intro c;simp[wJ]
 | cons r l ih=>
  intro c
  rw[wJ]
  split
  ·have:=ih ⟨⟨c.rg.lo,r.rg.hi,r.rg.op⟩,c.set⟩;simp;omega
  ·have:=ih r;simp;omega
theorem qL (f:ByteArray→List Kn)(E:List ByteArray):(pR f E).length≤E.length:=by
 have h1:=M3 f E
 unfold pR
 cases h:fL f E with
 | nil=>exact Wa _
 | cons c l=>
  rw[h]at h1
  exact W7 (Qt l c) h1
theorem ma:cu []:=fun i hi=>by simp at hi
theorem vu (k:Kn)(l:List Kn):cu (k::l)↔(1≤k.rep∧k.rep≤16∧k.runs≠[]∧dX k.runs)∧(∀q,l.head?=some q→k.rep<q.rep)∧cu l:=by
 constructor
 ·intro h
  have h0:=h 0 au au
  refine⟨⟨h0.1,h0.2.1,h0.2.2.1,h0.2.2.2.1⟩,fun q hq=>?_,fun i hi hi'=>?_⟩
  ·cases l with
   | nil=>cases hq
   | cons z l=>
    cases hq
    exact(h 1 au au).2.2.2.2 ab
  ·have h1:=h (i+1) (by simpa using hi) (by simpa using hi)
   simp only[List.getElem_cons_succ,WD]at h1
   refine⟨h1.1,h1.2.1,h1.2.2.1,h1.2.2.2.1,fun h0=>?_⟩
   have h2:=h1.2.2.2.2 ab
   obtain⟨j,rfl⟩:∃j,i=j+1:=⟨i-1,ab⟩
   exact h2
 ·rintro⟨⟨h1,h2,h2',h2''⟩,h3,h4⟩ i hi hi'
  cases i with
  | zero=>exact⟨h1,h2,h2',h2'',fun q=>absurd q (Nat.lt_irrefl _)⟩
  | succ i=>
   have h5:=h4 i (by simpa using hi) (by simpa using hi)
   simp only[List.getElem_cons_succ,WD]
   refine⟨h5.1,h5.2.1,h5.2.2.1,h5.2.2.2.1,fun _=>?_⟩
   cases i with
   | zero=>
    cases l with
    | nil=>simp at hi
    | cons z l=>exact h3 z rfl
   | succ i=>exact h5.2.2.2.2 ab
theorem ET:∀(T:List (List Rn)) (i:Nat),i+T.length≤16→cu (bx ofR i T)∧∀q,(bx ofR i T).head?=some q→(i:Int)<q.rep:=by
 intro T
 induction T with
 | nil=>intro i _;exact⟨ma,fun q hq=>by cases hq⟩
 | cons l T ih=>
  intro i hi
  rw[Wh]at hi
  obtain⟨h1,h2⟩:=ih (i+1) ab
  rw[bx]
  by_cases c:(ofR l).length=0
  ·rw[V6 c,Wu]
   exact⟨h1,fun q hq=>by have:=h2 q hq;omega⟩
  ·rw[V3 c]
   refine⟨(vu _ _).2 ⟨⟨aA,aA,fun e=>c (by simp only at e;rw[e];rfl),vi l⟩,fun q hq=>?_,h1⟩,fun q hq=>?_⟩
   ·have:=h2 q hq;simp only;omega
   ·cases hq;simp only;omega
theorem GD (s:List Kn):cu (gH ofR s):=(ET _ 0 (by rw[bW];omega)).1
theorem EU:∀(T:List (List Rn)) (i:Nat),(∀l∈T,dX l)→bx ofR i T=bx id i T:=by
 intro T
 induction T with
 | nil=>intro i _;rfl
 | cons l T ih=>
  intro i h
  rw[bx,bx,Mz (h l au),ih _ (fun l hl=>h l (Ww _ hl))]
  rfl
theorem oO {s:List Kn}(h:cu s):gH ofR s=s:=by
 have:=uU s h
 unfold gH at this ⊢
 rw[EU _ _ (xI h)]
 exact this
theorem EV:∀(T:List (List Rn)) (i r:Nat),bh (bx ofR i T) r=if h:i≤r∧r-i<T.length then ofR (T[r-i]'h.2)else []:=by
 intro T
 induction T with
 | nil=>intro i r;rw[dif_neg au];rfl
 | cons l T ih=>
  intro i r
  rw[bx]
  have happ:∀a b:List Kn,bh (a++b) r=bh a r++bh b r:=fun a b=>by unfold bh;rw[List.flatMap_append]
  rw[happ,ih]
  have hhead:bh (if(ofR l).length=0 then []else [⟨(i:Int)+1,ofR l⟩]) r=if i=r then ofR l else []:=by
   by_cases c:(ofR l).length=0
   ·rw[V6 c]
    split
    ·exact(Wf c).symm
    ·rfl
   ·rw[V3 c]
    unfold bh
    simp only[List.flatMap_cons,WC,Wg]
    by_cases e:i=r
    ·rw[V6 ab,V6 e]
    ·rw[V3 ab,V3 e]
  rw[hhead]
  by_cases e:i=r
  ·subst e
   rw[V6 rfl,dif_neg ab,Wg,dif_pos ⟨V8 _,au⟩]
   simp
  ·rw[V3 e,Wu]
   by_cases c:i+1≤r∧r-(i+1)<T.length
   ·rw[dif_pos c,dif_pos ⟨ab,by rw[Wh];omega⟩]
    obtain⟨d,hd⟩:∃d,r-i=d+1:=⟨r-i-1,ab⟩
    have hd':r-(i+1)=d:=ab
    simp only[hd,hd',List.getElem_cons_succ]
   ·rw[dif_neg c,dif_neg (by rw[Wh];omega)]
theorem pS (s:List Kn):cS (gH ofR s)=(cS s).map ofR:=by
 apply List.ext_getElem?
 intro i
 by_cases hi:i<16
 ·have hT:=bW s
  rw[cG _ hi,List.getElem?_map,cG _ hi]
  unfold gH
  rw[EV,dif_pos ⟨Wa _,ab⟩]
  have:=cG s hi
  obtain⟨h1,h2⟩:=Ws.1 this
  simp only[Nat.sub_zero,h2,W5]
 ·rw[Wq (by rw[bW];omega),Wq (by rw[V7,bW];omega)]
def sH (g:List Rn→List Rn→List Rn)(a b:List Kn):List Kn:=bx id 0 (List.zipWith g (cS a) (cS b))
def Ug (a b:List Rn):List Rn:=Qm (zv (fun x y=>x||y) a b) a b
theorem M4 (a b:List Rn):Ug a b=ofR (a++b):=SM a b
theorem li:∀(T:List (List Rn)) (i:Nat),bx id i (T.map ofR)=bx ofR i T:=by
 intro T
 induction T with
 | nil=>intro i;rfl
 | cons l T ih=>intro i;rw[List.map_cons,bx,bx,ih];rfl
theorem xW (a b:List Kn):cS (a++b)=List.zipWith (·++·) (cS a) (cS b):=by
 apply List.ext_getElem?
 intro i
 by_cases hi:i<16
 ·rw[cG _ hi,List.getElem?_zipWith,cG _ hi,cG _ hi]
  simp only
  unfold bh
  rw[List.flatMap_append]
 ·rw[Wq (by rw[bW];omega),Wq (by rw[List.length_zipWith,bW,bW];omega)]
theorem xX {g h:List Rn→List Rn→List Rn}:∀(T U:List (List Rn)),(∀t u,t∈T→u∈U→g t u=h t u)→List.zipWith g T U=List.zipWith h T U:=by
 intro T
 induction T with
 | nil=>intro U _;rfl
 | cons t T ih=>
  intro U hh
  cases U with
  | nil=>rfl
  | cons u U=>
   rw[List.zipWith_cons_cons,List.zipWith_cons_cons,hh t u au au,ih U (fun t u a b=>hh t u (Ww _ a) (Ww _ b))]
theorem Cy (X Y:List Kn):sH Ug (gH ofR X) (gH ofR Y)=gH ofR (X++Y):=by
 unfold sH
 rw[pS,pS,List.zipWith_map]
 unfold gH
 rw[xW,←li,List.map_zipWith]
 congr 1
 refine xX _ _ (fun t u _ _=>?_)
 rw[M4]
 exact Cr (fun n=>by rw[lW,lW,lf,lf])
def lC (k:List Pc)(s:ByteArray):List Kn:=gH ofR (k.flatMap fun p=>if cO p.rg s then p.set else [])
theorem rU (k:List Pc)(s:ByteArray):cu (lC k s):=GD _
theorem Qu (a b:List Pc)(s:ByteArray):sH Ug (lC a s) (lC b s)=lC (a++b) s:=by
 unfold lC
 rw[Cy,List.flatMap_append]
theorem IP {k:List Pc}(h:aX k)(s:ByteArray):(k.flatMap fun p=>if cO p.rg s then p.set else [])=eG k s:=by
 induction k with
 | nil=>rfl
 | cons p k ih=>
  obtain⟨⟨hp,_,_⟩,_,hk⟩:=(dj _ _).1 h
  rw[List.flatMap_cons,ih hk]
  by_cases c:cO p.rg s=true
  ·rw[V6 c,lh c]
   have:eG k s=[]:=by
    refine XI fun z=>?_
    obtain⟨x,y⟩:=lZ h z
    rcases((da hp s).1 c).2 with w|w
    ·rw[x]at w;cases w
    ·grind
   rw[this,Wg]
  ·rw[V3 c,Wu,gg c]
theorem zz {k:List Pc}(h:aX k)(s:ByteArray):cu (eG k s):=by
 induction k with
 | nil=>exact ma
 | cons p k ih=>
  obtain⟨⟨_,_,h3⟩,_,hk⟩:=(dj _ _).1 h
  rw[eG]
  split
  ·exact h3
  ·exact ih hk
theorem jE {k:List Pc}(h:aX k)(s:ByteArray):lC k s=eG k s:=by
 unfold lC
 rw[IP h,oO (zz h s)]
def cK (k:List Pc):List Rg:=k.map Pc.rg
def mb (k:List Pc):List ByteArray:=j9 [emB] (cK k)
theorem zA (k:List Pc):Aq (mb k):=GC _ _ au
theorem GF (k:List Pc):emB∈mb k:=(j0 _ _ _).2 (.inl au)
theorem zC (k:List Pc):pn (mb k):=fun m hm=>by
 rcases(j0 _ _ _).1 hm with h|⟨r,_,h1,h2⟩
 ·have h:m=emB:=by simpa using h
  rw[h];decide
 ·have:=(b0 r).1 h1
  rcases h2 with h2|⟨_,h2⟩<;>rw[h2]
  ·exact this.1
  ·exact this.2.1
theorem rV {r:Rg}{e n:ByteArray}(hen:e≤n)(h:∀m,ly r m→m≤e∨n<m):cO r e=cO r n:=by
 cases c:fX r with
 | false=>unfold cO;rw[c];rfl
 | true=>
  rw[Wo,da c,da c]
  have h1:=h r.lo ⟨c,.inl rfl⟩
  cases o:r.op with
  | true=>
   constructor
   ·rintro⟨a,_⟩;exact⟨by grind,.inl rfl⟩
   ·rintro⟨a,_⟩;exact⟨by grind,.inl rfl⟩
  | false=>
   have h2:=h r.hi ⟨c,.inr ⟨o,rfl⟩⟩
   constructor
   ·rintro⟨a,b|b⟩
    ·cases b
    ·exact⟨by grind,.inr (by grind)⟩
   ·rintro⟨a,b|b⟩
    ·cases b
    ·exact⟨by grind,.inr (by grind)⟩
theorem GG {k:List Pc}{e n:ByteArray}(hen:e≤n)(h:∀p∈k,∀m,ly p.rg m→m≤e∨n<m):lC k e=lC k n:=by
 unfold lC
 congr 1
 rw[List.flatMap_def,List.flatMap_def]
 congr 1
 exact List.map_congr_left fun p hp=>by rw[rV hen (h p hp)]
theorem Cz {k:List Pc}{p:Pc}(hp:p∈k){m:ByteArray}(h:ly p.rg m):m∈mb k:=(j0 _ _ _).2 (.inr ⟨p.rg,List.mem_map_of_mem hp,h⟩)
def wq (k:List Pc):List Pc:=pR (lC k) (mb k)
theorem GH (k:List Pc):M1 (lC k) (mb k):=fun _ _ hen h=>GG hen (fun _ hp m hm=>h m (Cz hp hm))
theorem pT (k:List Pc):aX (wq k)∧∀s,eG (wq k) s=lC k s:=zy (rU k) (zA k) (zC k) (GF k) (GH k)
theorem M5 {k:List Pc}(h:aX k):wq k=k:=Qs (rU k) (zA k) (zC k) (GF k) (GH k) h (fun s=>(jE h s).symm)
end Go.Proofs.YtaclhhkblbacgaaGreat
namespace Go.Proofs.YtaclhhkblbacgaaGreat
open Go.RowKit Go.Shelf Go.Proofs.Tryz
abbrev CA (l:List UInt8):ByteArray:=⟨l.toArray⟩
abbrev nM (s:ByteArray):List UInt8:=s.data.toList
theorem tH (s:ByteArray):CA (nM s)=s:=by cases s;rfl
def jo (l:List ByteArray):List ByteArray:=(Lib.compact (l.map nM)).map CA
section
variable {d:Array (List UInt8)}
theorem zD:∀(m:Nat)(x:List UInt8),x∈Lib.compactUpTo d m↔∃j,j<m∧d[j]! = x:=by
 intro m
 induction m with
 | zero=>intro x;simp[Lib.compactUpTo]
 | succ m ih=>
  intro x
  rw[Lib.compactUpTo_succ,Wz,ih]
  by_cases k:Lib.keeps d m=true
  ·rw[V6 k]
   constructor
   ·rintro(⟨j,h1,h2⟩|h)
    ·exact⟨j,ab,h2⟩
    ·exact⟨m,ab,by simpa using Eq.symm (Xl.1 h)⟩
   ·rintro⟨j,h1,h2⟩
    rcases Wm j m with q|q
    ·exact .inl ⟨j,q,h2⟩
    ·obtain rfl:j=m:=ab
     exact .inr (by rw[h2];exact Xl.2 rfl)
  ·rw[V3 k]
   constructor
   ·rintro(⟨j,h1,h2⟩|h)
    ·exact⟨j,ab,h2⟩
    ·cases h
   ·rintro⟨j,h1,h2⟩
    rcases Wm j m with q|q
    ·exact .inl ⟨j,q,h2⟩
    ·obtain rfl:j=m:=ab
     have:¬(j=0∨d[j]! ≠ d[j-1]!):=by
      intro z;exact k (by unfold Lib.keeps;exact Wb z)
     have h3:d[j]! = d[j-1]!:=XI fun z=>this (.inr z)
     exact .inl ⟨j-1,ab,by rw[←h3];exact h2⟩
theorem SP (h:∀i j,i<j→j<d.size→¬CA d[j]! < CA d[i]!):∀m,m≤d.size→((Lib.compactUpTo d m).map CA).Pairwise (·<·):=by
 intro m
 induction m with
 | zero=>intro _;simp[Lib.compactUpTo]
 | succ m ih=>
  intro hm
  have h1:=ih ab
  rw[Lib.compactUpTo_succ]
  by_cases k:Lib.keeps d m=true
  ·rw[V6 k,List.map_append,List.pairwise_append]
   refine⟨h1,au,fun x hx y hy=>?_⟩
   have hy:y=CA d[m]!:=by simpa using hy
   subst hy
   obtain⟨z,hz,rfl⟩:=List.mem_map.1 hx
   obtain⟨j,hj,rfl⟩:=(zD m z).1 hz
   have k':m=0∨d[m]! ≠ d[m-1]!:=by unfold Lib.keeps at k;exact of_decide_eq_true k
   have a:=h (m-1) m ab ab
   have ne:CA d[m]! ≠ CA d[m-1]!:=fun e=>by
    rcases k' with q|q
    ·omega
    ·exact q (by have:=Wx nM e;exact this)
   rcases Wm j (m-1)with q|q
   ·have b:=h j (m-1) q ab
    grind
   ·obtain rfl:j=m-1:=ab
    grind
  ·rw[V3 k,Wg]
   exact h1
end
theorem EW {l:List ByteArray}(h:l.Pairwise (fun x y=>¬y<x)):Aq (jo l)∧∀s,s∈jo l↔s∈l:=by
 have get:∀i (hi:i<l.length),(l.map nM).toArray[i]! = nM l[i]:=fun i hi=>by
  rw[getElem!_pos _ i (by simpa using hi)];simp
 unfold jo Lib.compact
 refine⟨SP (fun i j hij hj=>?_) _ au,fun s=>?_⟩
 ·have hj:j<l.length:=by simpa using hj
  rw[get i ab,get j hj,tH,tH]
  exact List.pairwise_iff_getElem.1 h i j ab hj hij
 ·rw[List.mem_map]
  constructor
  ·rintro⟨x,hx,rfl⟩
   obtain⟨j,hj,rfl⟩:=(zD _ _).1 hx
   have hj:j<l.length:=by simpa using hj
   rw[get j hj,tH]
   exact Wk hj
  ·intro hs
   obtain⟨i,hi,rfl⟩:=List.getElem_of_mem hs
   exact⟨nM l[i],(zD _ _).2 ⟨i,by simpa using hi,get i hi⟩,tH _⟩
theorem IQ (l:List ByteArray):(jo l).length≤l.length:=by
 unfold jo Lib.compact Lib.compactUpTo
 simp only[V7]
 have:=WT (Lib.keeps (List.map nM l).toArray) (List.range l.length)
 simpa using this
theorem M6 {l E:List ByteArray}(h:∀s∈l,s.size≤1000000000000)(hu:Aq E)(hm:∀s,s∈E↔s∈l):jo (pl l)=E:=by
 obtain⟨h1,h2⟩:=vj h
 obtain⟨h3,h4⟩:=EW h2
 exact MU h3 hu (fun s=>by rw[h4,h1.mem_iff,hm])
def coCompS_ren:Go.Shelf.Ren:=⟨fun|194=>228|n=>n,fun|0=>0|3=>3|4=>4|9=>9|31=>217|n=>n,fun n=>n⟩
theorem Qv (h:Tryz.f228=Body.n194 coCompS_ren):Lays.n194 prog coCompS_ren:={ mixed:=by kernel_rfl,f194:=func228.trans (Wx some h),t0:=underlying0,a0:=Tryz.isAgg0,z0:=Tryz.sizeOf0,v0:=Tryz.zeroValue0,t3:=underlying3,a3:=Tryz.isAgg3,z3:=Tryz.sizeOf3,v3:=Tryz.zeroValue3,t4:=underlying4,a4:=Tryz.isAgg4,z4:=Tryz.sizeOf4,v4:=Tryz.zeroValue4,t9:=underlying9,a9:=Tryz.isAgg9,z9:=Tryz.sizeOf9,v9:=Tryz.zeroValue9,t31:=underlying217,a31:=Tryz.isAgg217,z31:=Tryz.sizeOf217,v31:=Tryz.zeroValue217 }
theorem M7 (l:List ByteArray)(hl:l.length≤1000000000) :
 dh prog 228 [.row 2000 0] [(2000,.row 9 1 (l.map strP))] (.row 3000 0) [(3000,.row 9 1 ((jo l).map strP))]:=by
 refine⟨vm func228 (by kernel_rfl) (by kernel_rfl),?_⟩
 intro C w vs hW hN hO hvl hvs hb
 obtain⟨v0,rfl⟩:∃v0,vs=[v0]:=by match vs,hvl with|[a],_=>exact⟨a,rfl⟩
 have h0:=hvs 0 v0 _ rfl rfl
 have e0:v0=C.G0.rh 2000:=h0.2 rfl
 subst e0
 have hrow:=hb 2000
 have L:=Qv (by kernel_rfl)
 rcases hrow with⟨q1,q2⟩|⟨cap,cs,q1,q2,q3,q4,q5,q6,q7⟩
 ·have hl0:l=[]:=by simpa using q2
  rw[q1]
  refine(Any.slices_Compact_string_empty L none 0 w).mono ?_
  rintro e' w' ⟨rfl,rfl⟩
  refine⟨_,⟨C.G0.ow,C.G0.ph,fun i=>if i=3000 then .slice none 0 0 else C.G0.rh i⟩,rfl,⟨rfl,rfl,rfl,V8 _,fun _ _ _=>rfl,fun b id h=>⟨(hO b id h).1,.inr (hO b id h).2⟩,fun id hf=>⟨rfl,?_⟩⟩,⟨V8 _,fun _=>rfl⟩,fun id=>?_⟩
  ·by_cases q:id=3000
   ·subst q;cases hf
   ·exact V3 q
  ·by_cases hid:id=3000
   ·subst hid
    exact .inl ⟨rfl,by rw[hl0];rfl⟩
   ·rw[show eO id [(3000,Blk.row 9 1 ((jo l).map strP))]=.none by simp[eO,gB hid]];trivial
 ·rw[V7]at q1 q4
  obtain⟨b,hb0⟩:∃b,b=C.G0.ph 2000:=⟨_,rfl⟩
  rw[←hb0]at q1 q2 q3
  have hbl:=hO b 2000 q3
  have hH:Sort.Holds encStr w b 0 (l.map nM).toArray:=by
   intro t ht
   have ht':t<l.length:=by simpa using ht
   obtain⟨_,g⟩:=q7 t (strP l[t]) (by rw[List.getElem?_map,V4 ht'];rfl)
   obtain⟨y,y1,_,y3⟩:=g 0 _ rfl
   have y3:y=.string l[t]:=y3
   subst y3
   rw[Xr,WW]at y1
   rw[getElem!_pos _ t (by simpa using ht'),WF]
   refine⟨?_,by simp[World.frozen?,q2]⟩
   have e:encStr ((l.map nM).toArray[t]'(by simpa using ht'))=.string l[t]:=by simp[encStr]
   rw[e]
   simp[World.cell?,q2,y1]
  have:=Any.slices_Compact_string (P:=prog) (ρ:=coCompS_ren) L b 0 cap (l.map nM) w hH bn (by simpa using q4)
  rw[V7]at this
  rw[q1]
  refine this.mono ?_
  have hcl:=IQ l
  have hcE:(jo l).map nM=Lib.compact (l.map nM):=by
   unfold jo;rw[List.map_map];exact List.map_id' _
  have hcL:(Lib.compact (l.map nM)).length=(jo l).length:=by rw[←hcE,V7]
  rw[hcL]
  generalize Lib.compact (l.map nM)=Z at *
  rintro e' w' ⟨rfl,n,rfl⟩
  have hblock:∀(f:Array Value→Array Value) b',b'≠b→(Sort.mapBlock (Sort.ahead w n) b f).heap[b']?=w.heap[b']?:=fun f b' h'=>by
   show((w.heap.modify b (Sort.onCells f)))[b']?=_
   rw[Array.getElem?_modify,V3 (XJ h')]
  have hthis:∀(f:Array Value→Array Value),(Sort.mapBlock (Sort.ahead w n) b f).heap[b]?=some (.cells (f cs) 9 (0,0)):=fun f=>by
   show((w.heap.modify b (Sort.onCells f)))[b]?=_
   rw[Array.getElem?_modify,V6 rfl,q2]
   rfl
  have hsz:∀(f:Array Value→Array Value),w.heap.size=(Sort.mapBlock (Sort.ahead w n) b f).heap.size:=fun f=>by
   show _=(w.heap.modify b (Sort.onCells f)).size
   simp
  unfold Sort.putRow
  generalize hF:Sort.putCells encStr 0 (Z++List.replicate (l.length-(jo l).length) []).toArray=f
  refine⟨_,⟨fun i=>if C.G0.ow i=some 2000 then some 3000 else C.G0.ow i,fun i=>if i=3000 then b else C.G0.ph i,fun i=>if i=3000 then .slice (some ⟨b,0,none⟩) (jo l).length cap else C.G0.rh i⟩,rfl,
   ⟨rfl,rfl,rfl,Nat.le_of_eq (hsz f),fun b' _ h'=>hblock f b' (fun e=>h' (e▸hbl.2)),fun b' id h=>?_,fun id hf=>?_⟩,⟨V8 _,fun _=>rfl⟩,fun id=>?_⟩
  ·simp only at h
   have:C.G0.ow b'≠none:=by
    intro e;rw[V3 (by rw[e];simp),e]at h;cases h
   obtain⟨id',he⟩:=Option.ne_none_iff_exists'.1 this
   have:=hO b' id' he
   exact⟨by rw[←hsz f];exact this.1,.inr this.2⟩
  ·by_cases q:id=3000
   ·subst q;cases hf
   ·exact⟨V3 q,V3 q⟩
  ·by_cases hid:id=3000
   ·subst hid
    refine .inr ⟨cap,f cs,?_,?_,?_,?_,q5,?_,?_⟩
    ·simp only[Xq,V7]
    ·simp only[Xq];exact hthis f
    ·simp only[Xq];rw[q3];rfl
    ·rw[V7];omega
    ·rw[←hF,rP];exact q6
    ·intro i ps hi
     rw[List.getElem?_map]at hi
     obtain⟨x,hx,rfl⟩:=Option.map_eq_some_iff.1 hi
     refine⟨rfl,fun j A hj=>?_⟩
     obtain rfl:j=0:=by
      have h1:j<1:=(Ws.1 hj).1
      omega
     cases hj
     obtain⟨hi',hx'⟩:=Ws.1 hx
     have hzl:Z.length=(jo l).length:=by rw[←hcE,V7]
     rw[Xr,WW,←hF,put_get _ _ _ _ (by rw[q6];omega) bn]
     refine⟨_,rfl,rfl,?_⟩
     show Value.string _=Value.string x
     rw[getElem!_pos _ i bn]
     have e3:(Z++List.replicate (l.length-(jo l).length) []).toArray[i]'(bn)=nM x:=by
      have hiz:i<Z.length:=ab
      have e4:Z[i]'hiz=nM x:=by
       have:(jo l).map nM=Z:=hcE
       subst this
       rw[List.getElem_map,hx']
      rw[List.getElem_toArray,List.getElem_append_left hiz,e4]
     rw[e3]
   ·rw[show eO id [(3000,Blk.row 9 1 ((jo l).map strP))]=.none by simp[eO,gB hid]];trivial
end Go.Proofs.YtaclhhkblbacgaaGreat
