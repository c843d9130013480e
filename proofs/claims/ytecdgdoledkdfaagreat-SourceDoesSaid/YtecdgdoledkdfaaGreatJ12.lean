/- Lemmas, walks. -/
import Derived.Test.YtecdgdoledkdfaaGreatJ11
import Derived.Shelf.Slices.CompactS
set_option maxRecDepth 10000
set_option maxHeartbeats 8000000
namespace Go.Proofs.YtecdgdoledkdfaaGreat
open Go.RowKit Go.Proofs.Tryz
structure SwP (l:List Rn)(a:Int)(i:Nat):Prop where
 le:i<=l.length
 lo:∀j (h:j<l.length),j<i->l[j].to<a
 hi:∀j (h:j<l.length),i<=j->a<=l[j].to
def Z4 (l:List Rn)(i:Nat)(a:Int):Nat:=2*i+(if h:i<l.length then(if l[i].fr<=a then 1 else 0)else 0)
section
variable {l:List Rn} {a e:Int} {i:Nat}
theorem Qj (h:i<=l.length):Z4 l i a<=2*l.length:=by grind[Z4]
end
structure Z5 (keep:Bool->Bool->Bool)(A B:List Rn)(a:Int)(i k:Nat)(out:List Rn):Prop where
 pos:1<=a
 p:SwP A a i
 q:SwP B a k
 right:∀r∈out,jN r=true
 has:∀n,gw out n↔n<a/\C2 keep A B n=true
 few:out.length<=Z4 A i a+Z4 B k a
theorem Z5.done {keep:Bool->Bool->Bool}(hk:keep false false=false){A B:List Rn}{a:Int}{i k:Nat}{out:List Rn}(s:Z5 keep A B a i k out)(h:¬a<=1099511627776\/¬i<A.length/\¬k<B.length) :
 ofR out=UK (C2 keep A B) A B:=by
 refine(Qi hk (xL out) (λn=>?_)).symm
 rw[qj,s.has n]
 refine⟨λq=>q.2,λq=>⟨?_,q⟩⟩
 refine Classical.byContradiction λz=>?_
 have no:∀{l:List Rn} {i:Nat},SwP l a i->(¬a<=1099511627776\/¬i<l.length)->d8 l n=false:=λ{l i} p h=>by
  rw[<-aaB,kW]
  intro w
  have w':=EE w
  obtain⟨r,hr,_,w1⟩:=w
  obtain⟨j,hj,rfl⟩:=List.getElem_of_mem hr
  rcases h with h|h
  ·omega
  ·have:=p.lo j hj ae;omega
 rw[C2,no s.p (h.imp id (·.1)),no s.q (h.imp id (·.2)),hk]at q
 cases q
theorem Z5.len {keep:Bool->Bool->Bool}{A B:List Rn}{a:Int}{i k:Nat}{out:List Rn}(s:Z5 keep A B a i k out):out.length<=2*(A.length+B.length):=by
 have h1:=s.few
 have h2:=Qj (a:=a) s.p.le
 have h3:=Qj (a:=a) s.q.le
 omega
section
variable {P:Program} {n t:Nat} {ops:Array Oper} {o:Oper} {S:St}
end
def Za:Cnt->Bool
 | .per _=>true
 | .bor _ _=>true
 | _=>false
theorem Qk {C:Ctx}{w:World}{c:Cnt}(hc:Za c=true){v:Value}(h:crep C z0 C.G0 w v c):crep ⟨w,λb=>C.N0 b\/C.G0.ow b≠none,λ_=>False,g0⟩ (λ_=>0) g0 w v c:=by
 have hn:∀b,b<w.heap.size->Gh.N g0 ⟨w,λb=>C.N0 b\/C.G0.ow b≠none,λ_=>False,g0⟩ b->C.G0.N C b:=λb _ q=>by
  rcases q with q|q
  ·exact q
  ·exact absurd rfl q
 cases c with
 | per A=>exact A.mono (aaf _) (λ_ _ _=>rfl) hn h
 | bor k es=>exact eW.mono (aaf _) (λ_ _ _=>rfl) (λ_ _ _=>rfl) (λb _ q=>absurd rfl q) hn h
 | _=>cases hc
theorem Fn.toM {P:Program}{f:FuncId}{As:List Cnt}{A:PV}(h:Fn P f As (.per A))(hA:As.all Za=true:=by rfl):bZ P f As [] (.per A) []:=by
 refine⟨h.ent,?_⟩
 intro C w vs _ hN hO hl hvs _
 refine(h.run (λb=>C.N0 b\/C.G0.ow b≠none) w vs (λb q=>?_) ⟨hl,λi v c h1 h2=>Qk (aaH.1 hA c (aa3 h2)) (hvs i v c h1 h2)⟩).mono ?_
 ·rcases q with q|q
  ·exact(hN b q).1
  ·obtain⟨id,e⟩:=Option.ne_none_iff_exists'.1 q
   exact(hO b id e).1
 ·rintro e w' ⟨v,rfl,hx,hr⟩
  refine⟨v,C.G0,rfl,⟨hx.os,hx.tape,hx.output,hx.size,λb hb _=>hx.block b hb,λb id q=>⟨aa4 (hO b id q).1 hx.size,.inr (hO b id q).2⟩,λ_ _=>⟨rfl,rfl⟩⟩,?_,λid=>trivial⟩
  exact hr
abbrev sE (l:List Kn):Ret:=.own 127 2 (l.map BW)
theorem HU (s:List Kn)(hs:dJ s):∀l∈di s,l.length<=1000000000:=λl hl=>by
 obtain⟨r,_,rfl⟩:=List.mem_map.1 hl
 have:=i8 s r
 have:=hs.2
 omega
theorem UM (s:List Kn)(hs:dJ s):Fn prog 207 [fA s] (sE (gQ ofR s)):=
 Wp ofR s hs (λl hl=>P8 l (HU s hs l hl))
def xQ (s:List Kn):Prop:=s.length<=100000000/\(s.flatMap Kn.runs).length<=100000000
theorem xQ.tot {s:List Kn}(h:xQ s):dJ s:=⟨by have:=h.1;omega,by have:=h.2;omega⟩
structure vy {α:Type}(lt:α->α->Bool):Prop where
 irr:∀x,lt x x=false
 tr:∀x y z,lt x y=true->lt y z=true->lt x z=true
 ntr:∀x y z,lt x y=false->lt y z=false->lt x z=false
section
variable {α:Type} {lt:α->α->Bool}
def zb (lt:α->α->Bool)(x y:α):Bool:=!lt x y&&!lt y x
def lX (lt:α->α->Bool)(l:List α):Prop:=l.Pairwise λx y=>lt y x=false
def iH (lt:α->α->Bool)(M N:List α):Prop:=∀x,N.filter (zb lt x)=M.filter (zb lt x)
theorem vy.lt_of (h:vy lt){x y z:α}(h1:lt x y=true)(h2:lt z y=false):lt x z=true:=by
 cases hxz:lt x z with
 | true=>rfl
 | false=>have:=h.ntr x z y hxz h2;rw[h1]at this;cases this
theorem vy.lt_of' (h:vy lt){x y z:α}(h1:lt x y=true)(h2:lt x z=false):lt z y=true:=by
 cases hzy:lt z y with
 | true=>rfl
 | false=>have:=h.ntr x z y h2 hzy;rw[h1]at this;cases this
theorem vy.asym (h:vy lt){x y:α}(h1:lt x y=true):lt y x=false:=by
 cases hyx:lt y x with
 | false=>rfl
 | true=>have:=h.tr x y x h1 hyx;rw[h.irr]at this;cases this
theorem EM (h:vy lt)(x:α):zb lt x x=true:=by simp[zb,h.irr]
theorem ur (h:vy lt){x y z:α}(h1:zb lt x y=true):zb lt y z=zb lt x z:=by
 simp only[zb,aaC,abq]at h1
 unfold zb
 have e1:lt y z=lt x z:=by
  cases hb:lt y z with
  | true=>exact(h.lt_of' hb h1.2).symm
  | false=>exact(h.ntr x y z h1.1 hb).symm
 have e2:lt z y=lt z x:=by
  cases hb:lt z y with
  | true=>exact(h.lt_of hb h1.1).symm
  | false=>exact(h.ntr z y x hb h1.2).symm
 rw[e1,e2]
theorem iH.refl (M:List α):iH lt M M:=λ_=>rfl
theorem iH.trans {M N O:List α}(h1:iH lt M N)(h2:iH lt N O):iH lt M O:=λx=>(h2 x).trans (h1 x)
theorem iH.symm {M N:List α}(h1:iH lt M N):iH lt N M:=λx=>(h1 x).symm
theorem iH.app {M N M' N':List α}(h1:iH lt M N)(h2:iH lt M' N'):iH lt (M++M') (N++N'):=λx=>by rw[List.filter_append,List.filter_append,h1 x,h2 x]
theorem iH.mem (h:vy lt){M N:List α}(h1:iH lt M N){x:α}(hx:x∈N):x∈M:=by
 have:x∈N.filter (zb lt x):=abt.2 ⟨hx,EM h x⟩
 rw[h1 x]at this
 grind
theorem iH.mem' (h:vy lt){M N:List α}(h1:iH lt M N){x:α}(hx:x∈M):x∈N:=h1.symm.mem h hx
theorem lX.uniq (h:vy lt):∀{M N:List α},lX lt M->lX lt N->iH lt M N->M=N:=by
 intro M
 induction M with
 | nil=>
  intro N _ _ ha
  cases N with
  | nil=>rfl
  | cons y N=>exact absurd (ha.mem h aa1) aA
 | cons x M ih=>
  intro N hM hN ha
  cases N with
  | nil=>exact absurd (ha.mem' h (x:=x) aa1) aA
  | cons y N=>
   have hM':=List.pairwise_cons.1 hM
   have hN':=List.pairwise_cons.1 hN
   have hyM:=ha.mem h (x:=y) aa1
   have hxN:=ha.mem' h (x:=x) aa1
   have h1:lt y x=false:=by
    rcases aaU.1 hyM with e|e
    ·rw[e];exact h.irr x
    ·exact hM'.1 y e
   have h2:lt x y=false:=by grind
   have hE:zb lt x y=true:=by simp[zb,h1,h2]
   have hx:=ha x
   rw[List.filter_cons_of_pos hE,List.filter_cons_of_pos (EM h x)]at hx
   injection hx with e1 e2
   subst e1
   rw[ih hM'.2 hN'.2 (λz=>?_)]
   have hz:=ha z
   rw[List.filter_cons,List.filter_cons]at hz
   grind
def mw (lt:α->α->Bool)(x:α):List α->List α->List α
 | [],r=>x::r
 | y::l,r=>if lt x y then mw lt x l (y::r)else(y::l).reverse++x::r
def lq (lt:α->α->Bool)(p:List α)(x:α):List α:=mw lt x p.reverse []
def eC (lt:α->α->Bool)(l:List α):List α:=l.foldl (lq lt) []
theorem LF (h:vy lt)(x:α):∀(l r:List α),lX lt (l.reverse++r)->(∀y∈r,lt x y=true)->lX lt (mw lt x l r)/\iH lt (l.reverse++r++[x]) (mw lt x l r):=by
 intro l
 induction l with
 | nil=>
  intro r hs hr
  refine⟨List.pairwise_cons.2 ⟨λy hy=>h.asym (hr y hy),by simpa[lX]using hs⟩,λz=>?_⟩
  simp only[mw,List.reverse_nil,aaE,List.filter_append,List.filter_cons,List.filter_nil]
  split
  ·rename_i hz
   have:r.filter (zb lt z)=[]:=by
    rw[List.filter_eq_nil_iff]
    intro y hy he
    rw[ur h hz |>.symm]at he
    grind[zb]
   rw[this];rfl
  ·simp
 | cons y l ih=>
  intro r hs hr
  unfold mw
  split
  ·grind
  ·rename_i hxy
   have hxy:lt x y=false:=by simpa using hxy
   have hlr:∀z∈(y::l).reverse,lt x z=false:=by
    intro z hz
    have hz':z∈y::l:=List.mem_reverse.1 hz
    rcases aaU.1 hz' with e|e
    ·rw[e];exact hxy
    ·have hs1:lX lt (l.reverse++[y]):=by grind[lX]
     have hq:=(List.pairwise_append.1 hs1).2.2 z (by simpa using e) y aA
     exact h.ntr x y z hxy hq
   have hs':=List.pairwise_append.1 hs
   refine⟨List.pairwise_append.2 ⟨hs'.1,List.pairwise_cons.2 ⟨λz hz=>h.asym (hr z hz),hs'.2.1⟩,λa ha b hb=>?_⟩,λz=>?_⟩
   ·grind
   ·simp only[List.filter_append,List.filter_cons,List.filter_nil,aal]
    congr 1
    split
    ·rename_i hz
     have:r.filter (zb lt z)=[]:=by
      rw[List.filter_eq_nil_iff]
      intro y hy he
      rw[ur h hz |>.symm]at he
      grind[zb]
     rw[this];rfl
    ·simp
theorem LG (h:vy lt){p:List α}(hp:lX lt p)(x:α):lX lt (lq lt p x)/\iH lt (p++[x]) (lq lt p x):=by
 have:=LF h x p.reverse [] (by simpa using hp) (λy hy=>by simp at hy)
 simpa[lq]using this
theorem ec (h:vy lt)(l:List α):lX lt (eC lt l)/\iH lt l (eC lt l):=by
 have key:∀(l p:List α),lX lt p->lX lt (l.foldl (lq lt) p)/\iH lt (p++l) (l.foldl (lq lt) p):=by
  intro l
  induction l with
  | nil=>grind[iH.refl]
  | cons x l ih=>
   intro p hp
   obtain⟨h1,h2⟩:=LG h hp x
   obtain⟨h3,h4⟩:=ih _ h1
   refine⟨h3,iH.trans ?_ h4⟩
   have:=h2.app (iH.refl l)
   simpa using this
 simpa[eC]using key l [] abD
theorem sF (h:vy lt){M N:List α}(h1:lX lt N)(h2:iH lt M N):eC lt M=N:=
 (ec h M).1.uniq h h1 ((ec h M).2.symm.trans h2)
theorem Ql (h:vy lt){M N:List α}(h2:iH lt M N):eC lt M=eC lt N:=
 sF h (ec h N).1 (h2.trans (ec h N).2)
theorem j0 (h:vy lt){M:List α}(h1:lX lt M):eC lt M=M:=sF h h1 (iH.refl M)
theorem sG (h:vy lt){M:List α}{x:α}:x∈eC lt M↔x∈M:=⟨λq=>(ec h M).2.mem h q,λq=>(ec h M).2.mem' h q⟩
theorem Qm (x:α):∀(l r:List α),(mw lt x l r).length=l.length+1+r.length:=by
 intro l
 induction l<;>grind[mw]
theorem lu (l:List α):(eC lt l).length=l.length:=by
 have:∀(l p:List α),(l.foldl (lq lt) p).length=p.length+l.length:=by
  intro l
  induction l<;>grind[lq,Qm]
 grind[eC]
theorem Qn (h:vy lt){L1 L2 R1 R2:List α}(hL:lX lt (L1++L2))(hR:lX lt (R1++R2))(h1:∀x∈L1,∀y∈R2,lt y x=false)(h2:∀x∈R1,∀y∈L2,lt x y=true) :
 eC lt ((L1++L2)++(R1++R2))=eC lt (L1++R1)++eC lt (L2++R2):=by
 have hL':=List.pairwise_append.1 hL
 have hR':=List.pairwise_append.1 hR
 refine sF h (List.pairwise_append.2 ⟨(ec h _).1,(ec h _).1,λa ha b hb=>?_⟩) ?_
 ·rw[sG h]at ha hb
  rcases aaS.1 ha with ha|ha<;>rcases aaS.1 hb with hb|hb
  ·exact hL'.2.2 a ha b hb
  ·exact h1 a ha b hb
  ·exact h.asym (h2 a ha b hb)
  grind
 ·refine iH.trans (N:=(L1++R1)++(L2++R2)) (λx=>?_) ((ec h _).2.app (ec h _).2)
  simp only[List.filter_append,aal]
  congr 1
  rw[<-aal,<-aal]
  congr 1
  by_cases he:∃y∈R1,zb lt x y=true
  ·obtain⟨y,hy,he⟩:=he
   have:L2.filter (zb lt x)=[]:=by
    rw[List.filter_eq_nil_iff]
    intro z hz hz2
    rw[ur h he |>.symm]at hz2
    grind[zb]
   rw[this];simp
  grind[List.filter_eq_nil_iff]
theorem ja (h:vy lt){L1 L2 R1 R2:List α}(hL:lX lt (L1++L2))(hR:lX lt (R1++R2))(h1:∀x y,L1.getLast?=some x->R2.head?=some y->lt y x=false)(h2:∀x y,R1.getLast?=some x->L2.head?=some y->lt x y=true) :
 eC lt ((L1++L2)++(R1++R2))=eC lt (L1++R1)++eC lt (L2++R2):=by
 have hlast:∀{l:List α},lX lt l->∀x∈l,∃z,l.getLast?=some z/\lt z x=false:=by
  intro l hl x hx
  rcases List.eq_nil_or_concat l with e|⟨l',z,e⟩
  ·subst e;simp at hx
  ·rw[List.concat_eq_append]at e
   subst e
   refine⟨z,aA,?_⟩
   rcases aaS.1 hx with q|q
   ·exact(List.pairwise_append.1 hl).2.2 x q z aA
   ·simp at q;subst q;exact h.irr x
 have hhead:∀{l:List α},lX lt l->∀x∈l,∃z,l.head?=some z/\lt x z=false:=by
  intro l hl x hx
  cases l with
  | nil=>simp at hx
  | cons z l=>
   refine⟨z,rfl,?_⟩
   rcases aaU.1 hx with q|q
   ·subst q;exact h.irr x
   ·exact(List.pairwise_cons.1 hl).1 x q
 have hL':=List.pairwise_append.1 hL
 have hR':=List.pairwise_append.1 hR
 refine Qn h hL hR (λx hx y hy=>?_) (λx hx y hy=>?_)
 ·obtain⟨a,ha,ha2⟩:=hlast hL'.1 x hx
  obtain⟨b,hb,hb2⟩:=hhead hR'.2.1 y hy
  exact h.ntr y b x hb2 (h.ntr b a x (h1 a b ha hb) ha2)
 ·obtain⟨a,ha,ha2⟩:=hlast hR'.1 x hx
  obtain⟨b,hb,hb2⟩:=hhead hL'.2.1 y hy
  exact h.lt_of (h.lt_of' (h2 a b ha hb) ha2) hb2
end
def ca (r:Rg)(s:ByteArray):Bool:=gg r&&(decide (r.lo<=s)&&(r.op||decide (s<r.hi)))
def LH (a b:Rg):Int:=if a.op&&b.op then 0 else if a.op then 1 else if b.op then -1 else cG a.hi b.hi
def HV (out:List Rg)(r:Rg):List Rg:=match out.reverse with
 | []=>[r]
 | x::z=>if x.op=false/\cG x.hi r.lo<0 then out++[r]else if LH x r<0 then z.reverse++[⟨x.lo,r.hi,r.op⟩]else out
def ltR (x y:Rg):Bool:=decide (cG x.lo y.lo<0)
theorem jR {r:Rg}(h:gg r=true):r.op=true\/r.lo<r.hi:=by grind[cg,iP]
inductive JV:List Rg->Prop
 | nil:JV []
 | one {x}:gg x=true->JV [x]
 | cons {x y z}:gg x=true->y.op=false->y.hi<x.lo->JV (y::z)->JV (x::y::z)
theorem JV.head {x:Rg}{z:List Rg}(h:JV (x::z)):gg x=true:=by cases h<;>grind
theorem JV.ok:∀{l:List Rg},JV l->bT l.reverse:=by
 intro l h
 induction h with
 | nil=>intro i hi;simp at hi
 | one h=>
  intro i hi
  grind
 | @cons x y z hx ho hl hc ih=>
  have e:(x::y::z).reverse=(y::z).reverse++[x]:=aA
  rw[e]
  intro i hi
  rw[aai]at hi
  rcases aaF i (y::z).reverse.length with q|q
  ·have:=ih i q
   grind
  ·have hi':i=(y::z).reverse.length:=by grind
   simp_all[iP]
theorem JV.ahead:∀{x:Rg} {z:List Rg},JV (x::z)->∀y∈z,y.op=false/\y.hi<x.lo:=by
 intro x z h
 induction z generalizing x with
 | nil=>intro y hy;cases hy
 | cons w z ih=>
  cases h with
  | cons hx ho hl hc=>
   intro y hy
   rcases aaU.1 hy with e|e
   ·grind
   ·obtain⟨h1,h2⟩:=ih hc y e
    rcases jR hc.head with q|q
    all_goals grind
def cz (l:List Rg)(s:ByteArray):Bool:=l.any λr=>ca r s
theorem pi {r:Rg}(h:gg r=true)(s:ByteArray):ca r s=(decide (r.lo<=s)&&(r.op||decide (s<r.hi))):=by grind[ca]
theorem Qo (Z:List Rg)(r:Rg)(h:JV Z)(hr:gg r=true)(hs:∀x∈Z,x.lo<=r.lo) :
 JV (HV Z.reverse r).reverse/\(∀x∈(HV Z.reverse r).reverse,x.lo<=r.lo)/\∀s,cz (HV Z.reverse r).reverse s=(cz Z s||ca r s):=by
 unfold HV
 rw[aa6]
 cases Z with
 | nil=>
  refine⟨.one hr,λx hx=>?_,λs=>?_⟩
  all_goals grind[cz]
 | cons x z=>
  have hx:=h.head
  have hxl:=hs x aa1
  simp only
  split
  ·rename_i hc
   simp only[List.reverse_append,aa6,abE,List.reverse_nil,aaE,abv]
   refine⟨.cons hr hc.1 hc.2 h,λy hy=>?_,λs=>?_⟩
   all_goals grind[cz]
  ·rename_i hc
   have hE:LH x r=(if x.op&&r.op then 0 else if x.op then 1 else if r.op then -1 else cG x.hi r.hi):=rfl
   have hc':x.op=true\/r.lo<=x.hi:=by
    cases ho:x.op with
    | true=>exact .inl rfl
    | false=>
     refine .inr ?_
     rw[ho]at hc
     have:¬x.hi<r.lo:=λq=>hc ⟨rfl,q⟩
     grind
   have hxr:=jR hx
   have hrr:=jR hr
   split
   ·rename_i hd
    have hxo:x.op=false:=by grind
    have hro:r.op=true\/x.hi<r.hi:=by grind[iP]
    have hN:gg ⟨x.lo,r.hi,r.op⟩=true:=by
     rw[cg]
     obtain⟨a1,a2,a3⟩:=(cg x).1 hx
     obtain⟨b1,b2,b3⟩:=(cg r).1 hr
     refine⟨a1,b2,?_⟩
     simp only
     cases ho:r.op with
     | true=>rw[ho]at b3;simpa using b3
     | false=>
      rw[ho]at b3
      simp only[aaL,if_false]at b3 ⊢
      rw[iP]at b3 ⊢
      grind
    simp only[List.reverse_append,aa6,abE,List.reverse_nil,aaE,abv]
    refine⟨?_,λy hy=>?_,λs=>?_⟩
    ·cases h with
     | one _=>exact .one hN
     | cons _ ho hl hc=>exact .cons hN ho hl hc
    all_goals grind[cz,pi]
   ·rename_i hd
    have hxo:x.op=true\/(r.op=false/\r.hi<=x.hi):=by
     cases ho:x.op with
     | true=>exact .inl rfl
     | false=>
      rw[hE,ho]at hd
      cases hp:r.op with
      | true=>rw[hp]at hd;simp at hd
      | false=>rw[hp]at hd;refine .inr ⟨rfl,?_⟩;simp only[aa2,aaL,if_false]at hd;rw[iP]at hd;grind
    rw[aa6]
    grind[cz,pi]
theorem UN:∀(L Z:List Rg),JV Z->(∀r∈L,gg r=true)->L.Pairwise (λx y=>x.lo<=y.lo)->(∀x∈Z,∀r∈L,x.lo<=r.lo) ->
 JV (L.foldl HV Z.reverse).reverse/\∀s,cz (L.foldl HV Z.reverse).reverse s=(cz Z s||cz L s):=by
 intro L
 induction L with
 | nil=>grind[cz]
 | cons r L ih=>
  intro Z h hR hS hZ
  obtain⟨p1,p2⟩:=List.pairwise_cons.1 hS
  obtain⟨h1,h2,h3⟩:=Qo Z r h (hR r aa1) (λx hx=>hZ x hx r aa1)
  have h4:=ih (HV Z.reverse r).reverse h1 (λx hx=>hR x (aaY _ hx)) p2 (λx hx y hy=>by have:=h2 x hx;have:=p1 y hy;grind)
  rw[aa6]at h4
  grind[cz]
def jF (l:List Rg):List Rg:=l.foldl HV []
theorem xR {L:List Rg}(hR:∀r∈L,gg r=true)(hS:L.Pairwise (λx y=>x.lo<=y.lo)):bT (jF L)/\∀s,cz (jF L) s=cz L s:=by
 have h:=UN L [] .nil hR hS (λx hx=>by cases hx)
 refine⟨?_,λs=>?_⟩
 ·have:=h.1.ok;rw[aa6]at this;exact this
 grind[jF,cz]
theorem UO (out:List Rg)(r:Rg):(HV out r).length<=out.length+1:=by grind[HV,List.length_reverse]
theorem Qp:∀(L out:List Rg),(L.foldl HV out).length<=out.length+L.length:=by
 intro L
 induction L<;>grind[UO]
theorem UQ {l:List Rg}(h:bT l)(s:ByteArray):∃p,p<=l.length/\∀j (hj:j<l.length),((l[j].op=true\/s<l[j].hi)↔p<=j):=by
 have up:∀j (hj:j+1<l.length),(l[j].op=true\/s<l[j].hi)->(l[j+1].op=true\/s<l[j+1].hi):=by
  intro j hj hs
  have h1:=(h (j+1) hj).2 ae
  have h2:=jR (h (j+1) hj).1
  grind[iP]
 have hB:∀n,n<=l.length->∃p,p<=n/\∀j (hj:j<l.length),j<n->((l[j].op=true\/s<l[j].hi)↔p<=j):=by
  intro n
  induction n with
  | zero=>grind
  | succ n ih=>
   intro hn
   obtain⟨p,hp,hq⟩:=ih ae
   by_cases hb:l[n].op=true\/s<l[n].hi
   ·refine⟨p,ae,λj hj hjn=>?_⟩
    grind
   ·refine⟨n+1,ae,λj hj hjn=>?_⟩
    rcases aaF j n with q|q
    ·refine⟨λhx=>?_,λhx=>ae⟩
     exfalso
     have:∀d,j+d<=n->∃hd:j+d<l.length,(l[j+d].op=true\/s<l[j+d].hi):=by
      intro d
      induction d<;>grind
     obtain⟨h1,h2⟩:=this (n-j) ae
     grind
    grind
 obtain⟨p,h1,h2⟩:=hB l.length (aaf _)
 exact⟨p,h1,λj hj=>h2 j hj hj⟩
theorem XL {l:List Rg}(h:bT l){s:ByteArray}{p:Nat}(hp:∀j (hj:j<l.length),((l[j].op=true\/s<l[j].hi)↔p<=j)) :
 cz l s=(match l[p]? with|some r=>ca r s|none=>false):=by
 have ch:∀d j (hj:j+d+1<l.length),l[j].op=false/\l[j].hi<l[j+d+1].lo:=by
  intro d
  induction d with
  | zero=>intro j hj;have:=(h (j+1) hj).2 ae;simp only[aa8]at this;exact this
  | succ d ih=>
   intro j hj
   obtain⟨a,b⟩:=ih j ae
   have c:=(h (j+d+1+1) ae).2 ae
   have e:=jR (h (j+d+1) ae).1
   grind[iP]
 rw[aav]
 unfold cz
 rw[List.any_eq_true]
 constructor
 ·rintro⟨r,hr,hs⟩
  obtain⟨j,hj,rfl⟩:=List.getElem_of_mem hr
  have hjr:=(h j hj).1
  rw[pi hjr]at hs
  simp only[aaC,abm,aaI]at hs
  have hpj:=(hp j hj).1 hs.2
  rcases aaF p j with q|q
  ·exfalso
   have hpl:p<l.length:=ae
   have:=(hp p hpl).2 (aaf _)
   obtain⟨d,rfl⟩:∃d,j=p+d+1:=⟨j-p-1,ae⟩
   obtain⟨a,b⟩:=ch d p hj
   grind
  grind[pi]
 grind
theorem HW:vy ltR:=by refine⟨λx=>?_,λx y z h1 h2=>?_,λx y z h1 h2=>?_⟩<;>simp only[ltR,aaI,abb,iP]at *<;>grind
def mx (l:List Rg):List Rg:=jF (eC ltR (l.filter gg))
theorem mX (l:List Rg):bT (mx l)/\∀s,cz (mx l) s=cz l s:=by
 have hS:=(ec HW (l.filter gg)).1
 obtain⟨h1,h2⟩:=xR (L:=eC ltR (l.filter gg)) (λr hr=>(abt.1 ((sG HW).1 hr)).2)
  (hS.imp λ{x y} h=>by grind[ltR,iP])
 refine⟨h1,λs=>(h2 s).trans ?_⟩
 grind[cz,sG,HW,ca]
theorem Qq (l:List Rg):(mx l).length<=l.length:=by
 have h1:=Qp (eC ltR (l.filter gg)) []
 have h2:=List.length_filter_le gg l
 rw[lu]at h1
 grind[mx,jF]
def jS:List ByteArray->ByteArray->List ByteArray
 | [],n=>[n]
 | x::l,n=>if x<n then x::jS l n else if x=n then x::l else n::x::l
theorem xS:∀(l:List ByteArray)(n m:ByteArray),m∈jS l n↔m=n\/m∈l:=by
 intro l
 induction l<;>grind[jS]
abbrev Az (l:List ByteArray):Prop:=l.Pairwise (·<·)
theorem UR:∀(l:List ByteArray)(n:ByteArray),Az l->Az (jS l n):=by
 intro l
 induction l<;>grind[jS,List.pairwise_cons,xS]
theorem Qr:∀{l m:List ByteArray},Az l->Az m->(∀s,s∈l↔s∈m)->l=m:=by
 intro l
 induction l with
 | nil=>
  intro m _ _ h
  cases m with
  | nil=>rfl
  | cons y m=>have:=(h y).2 aA;simp at this
 | cons x l ih=>
  intro m hl hm h
  cases m with
  | nil=>have:=(h x).1 aA;simp at this
  | cons y m=>
   obtain⟨a1,a2⟩:=List.pairwise_cons.1 hl
   obtain⟨b1,b2⟩:=List.pairwise_cons.1 hm
   have e:x=y:=by
    rcases aaU.1 ((h x).1 aA)with q|q
    ·exact q
    ·rcases aaU.1 ((h y).2 aA)with z|z
     all_goals grind
   grind
def nZ (e:List ByteArray)(r:Rg):List ByteArray:=if gg r then(if r.op then jS e r.lo else jS (jS e r.lo) r.hi)else e
def js (e:List ByteArray)(l:List Rg):List ByteArray:=l.foldl nZ e
theorem Qs {e:List ByteArray}{r:Rg}(h:Az e):Az (nZ e r):=by grind[nZ,UR]
theorem Cb:∀(l:List Rg)(e:List ByteArray),Az e->Az (js e l):=by
 intro l
 induction l with
 | nil=>intro e h;exact h
 | cons r l ih=>intro e h;exact ih _ (Qs h)
def my (r:Rg)(m:ByteArray):Prop:=gg r=true/\(m=r.lo\/r.op=false/\m=r.hi)
theorem jt:∀(l:List Rg)(e:List ByteArray)(m:ByteArray),m∈js e l↔m∈e\/∃r∈l,my r m:=by
 intro l
 induction l with
 | nil=>intro e m;simp[js]
 | cons r l ih=>
  intro e m
  show m∈js (nZ e r) l↔_
  rw[ih]
  have h1:m∈nZ e r↔m∈e\/my r m:=by grind[nZ,my,xS]
  rw[h1]
  grind
theorem lw:∀(l:List Rg)(e:List ByteArray),(js e l).length<=e.length+2*l.length:=by
 have h1:∀(l:List ByteArray)(n:ByteArray),(jS l n).length<=l.length+1:=by
  intro l
  induction l<;>grind[jS]
 intro l
 induction l<;>grind[js,nZ]
abbrev emB:ByteArray:=⟨#[]⟩
theorem HZ (s:ByteArray):emB<=s:=by
 show cG emB s<=0
 unfold cG
 cases s.data.toList<;>grind[dZ]
def eI (k:List Pc)(s:ByteArray):List Kn:=match k with
 | []=>[]
 | p::l=>if ca p.rg s then p.set else eI l s
theorem sH (s:ByteArray):eI [] s=[]:=rfl
theorem lY {p:Pc}{l:List Pc}{s:ByteArray}(h:ca p.rg s=true):eI (p::l) s=p.set:=by rw[eI,aae h]
theorem gy {p:Pc}{l:List Pc}{s:ByteArray}(h:¬ca p.rg s=true):eI (p::l) s=eI l s:=by rw[eI,aab h]
theorem db {r:Rg}(h:gg r=true)(s:ByteArray):ca r s=true↔r.lo<=s/\(r.op=true\/s<r.hi):=by rw[pi h];simp
theorem Qt {r:Rg}(h:gg r=true):ca r r.lo=true:=by
 rw[db h]
 grind[jR]
def Zb (p:Pc):Prop:=gg p.rg=true/\p.set≠[]/\ck p.set
theorem ig:aY []:=λi hi=>by simp at hi
theorem dy (p:Pc)(l:List Pc):aY (p::l)↔Zb p/\(∀q,l.head?=some q->p.rg.op=false/\p.rg.hi<=q.rg.lo/\¬(p.rg.hi=q.rg.lo/\p.set=q.set))/\aY l:=by
 constructor
 ·intro h
  have h0:=h 0 aA aA
  refine⟨⟨h0.1,h0.2.1,h0.2.2.1⟩,λq hq=>?_,λi hi hi'=>?_⟩
  ·cases l with
   | nil=>cases hq
   | cons z l=>
    cases hq
    exact(h 1 aA aA).2.2.2 ae
  ·have h1:=h (i+1) (by simpa using hi) (by simpa using hi)
   grind
 ·rintro⟨⟨h1,h2,h2'⟩,h3,h4⟩ i hi hi'
  cases i with
  | zero=>grind
  | succ i=>
   have h5:=h4 i (by simpa using hi) (by simpa using hi)
   simp only[List.getElem_cons_succ,aa8]
   refine⟨h5.1,h5.2.1,h5.2.2.1,λ_=>?_⟩
   cases i with
   | zero=>
    cases l with
    | nil=>simp at hi
    | cons z l=>exact h3 z rfl
   | succ i=>
    grind
theorem mY {p:Pc}{l:List Pc}(h:aY (p::l)){s:ByteArray}(hs:eI l s≠[]):p.rg.op=false/\p.rg.hi<=s:=by
 induction l generalizing p with
 | nil=>exact absurd rfl hs
 | cons q l ih=>
  obtain⟨_,h2,h3⟩:=(dy _ _).1 h
  obtain⟨a,b,_⟩:=h2 q rfl
  obtain⟨⟨hq,_,_⟩,_,_⟩:=(dy _ _).1 h3
  grind[db,gy,jR]
theorem Cc {p:Pc}{l:List Pc}(h:aY (p::l)){s:ByteArray}(hs:eI (p::l) s≠[]):p.rg.lo<=s:=by
 obtain⟨⟨hp,_,_⟩,_,_⟩:=(dy _ _).1 h
 by_cases c:ca p.rg s=true
 ·grind[db]
 ·rw[gy c]at hs
  obtain⟨a,b⟩:=mY h hs
  grind[jR]
theorem jT {p:Pc}{l:List Pc}(h:aY (p::l)):eI (p::l) p.rg.lo=p.set/\p.set≠[]:=by
 obtain⟨⟨hp,h2,_⟩,_,_⟩:=(dy _ _).1 h
 grind[lY,Qt]
theorem Qu {p:Pc}{l:List Pc}(h:aY (p::l))(ho:p.rg.op=false):eI (p::l) p.rg.hi≠p.set:=by
 obtain⟨⟨hp,h2,_⟩,h3,h4⟩:=(dy _ _).1 h
 have c:¬ca p.rg p.rg.hi=true:=λq=>by grind[db]
 rw[gy c]
 cases l with
 | nil=>exact λe=>h2 e.symm
 | cons q l=>
  obtain⟨_,b,d⟩:=h3 q rfl
  intro e
  have hne:eI (q::l) p.rg.hi≠[]:=by rw[e];exact h2
  have:=Cc h4 hne
  grind[jT]
theorem nL:∀{l m:List Pc},aY l->aY m->(∀s,eI l s=eI m s)->l=m:=by
 intro l
 induction l with
 | nil=>
  intro m _ hm h
  cases m with
  | nil=>rfl
  | cons q m=>
   obtain⟨a,b⟩:=jT hm
   exact absurd ((h _).trans a).symm b
 | cons p l ih=>
  intro m hl hm h
  cases m with
  | nil=>
   obtain⟨a,b⟩:=jT hl
   exact absurd (a.symm.trans (h _)) b
  | cons q m=>
   obtain⟨a1,a2⟩:=jT hl
   obtain⟨b1,b2⟩:=jT hm
   obtain⟨⟨hp,_,_⟩,_,hl'⟩:=(dy _ _).1 hl
   obtain⟨⟨hq,_,_⟩,_,hm'⟩:=(dy _ _).1 hm
   have e1:p.rg.lo=q.rg.lo:=by
    have x:=Cc hm (s:=p.rg.lo) (by rw[<-h,a1];exact a2)
    have y:=Cc hl (s:=q.rg.lo) (by rw[h,b1];exact b2)
    grind
   have e2:p.set=q.set:=by rw[<-a1,<-b1,h,e1]
   have inn:∀{r r':Pc} {l l':List Pc},aY (r::l)->aY (r'::l')->gg r.rg=true->gg r'.rg=true->r.rg.lo=r'.rg.lo->r.set=r'.set->(∀s,eI (r::l) s=eI (r'::l') s)->r.rg.op=false->r'.rg.op=false/\r'.rg.hi<=r.rg.hi:=by grind[Qu,jR,lY,db]
   have e3:p.rg.op=q.rg.op:=by cases o:p.rg.op<;>grind
   have e4:p.rg.hi=q.rg.hi:=by grind[cg]
   have e:p=q:=by
    obtain⟨⟨lo,hi,op⟩,st⟩:=p
    simp_all
   subst e
   rw[ih hl' hm' (λs=>?_)]
   by_cases c:ca p.rg s=true
   ·have no:∀{t:List Pc},aY (p::t)->eI t s=[]:=λ{t} ht=>by
     refine Classical.byContradiction λz=>?_
     obtain⟨x,y⟩:=mY ht z
     grind[db]
    rw[no hl,no hm]
   ·have:=h s
    rwa [gy c,gy c]at this
def vz (p q:Pc):Bool:=!p.rg.op&&(decide (p.rg.hi=q.rg.lo)&&decide (p.set=q.set))
def vZ:Pc->List Pc->List Pc
 | c,[]=>[c]
 | c,p::l=>if vz c p then vZ ⟨⟨c.rg.lo,p.rg.hi,p.rg.op⟩,c.set⟩ l else c::vZ p l
def ju:List Pc->List Pc
 | []=>[]
 | p::l=>vZ p l
theorem Qv:∀(l:List Pc)(c:Pc),∃z t,vZ c l=z::t/\z.rg.lo=c.rg.lo/\z.set=c.set:=by
 intro l
 induction l with
 | nil=>intro c;exact⟨c,[],rfl,rfl,rfl⟩
 | cons p l ih=>
  intro c
  rw[vZ]
  split
  all_goals simp_all
def Beh (p q:Pc):Prop:=p.rg.op=false/\p.rg.hi<=q.rg.lo
theorem XM:∀(l:List Pc)(c:Pc),(c::l).Pairwise Beh->(∀p∈c::l,Zb p)->aY (vZ c l)/\∀s,eI (vZ c l) s=eI (c::l) s:=by
 intro l
 induction l with
 | nil=>
  intro c _ h
  exact⟨(dy c []).2 ⟨h c aA,λq hq=>by simp at hq,ig⟩,λ_=>rfl⟩
 | cons p l ih=>
  intro c hs h
  have hc:=h c aA
  have hp:=h p aA
  obtain⟨s1,s2⟩:=List.pairwise_cons.1 hs
  obtain⟨t1,t2⟩:=s1 p aA
  obtain⟨s4,s5⟩:=List.pairwise_cons.1 s2
  have clt:c.rg.lo<c.rg.hi:=by
   rcases jR hc.1 with q|q
   all_goals grind
  rw[vZ]
  by_cases g:vz c p=true
  ·rw[aae g]
   unfold vz at g
   simp only[aaC,abq,aaI]at g
   obtain⟨_,g2,g3⟩:=g
   have r1:=(cg _).1 hc.1
   have r2:=(cg _).1 hp.1
   have hm:gg ⟨c.rg.lo,p.rg.hi,p.rg.op⟩=true:=(cg _).2 ⟨r1.1,r2.2.1,by
    cases o:p.rg.op with
    | true=>
     rw[o]at r2
     simpa using r2.2.2
    | false=>
     rcases jR hp.1 with q|q
     ·rw[o]at q;cases q
     ·rw[aab aA,iP]
      simp only
      grind⟩
   have:=ih ⟨⟨c.rg.lo,p.rg.hi,p.rg.op⟩,c.set⟩ (List.pairwise_cons.2 ⟨λz hz=>s4 z hz,s5⟩) (λz hz=>by
    rcases aaU.1 hz with rfl|hz
    ·exact⟨hm,hc.2⟩
    grind)
   refine⟨this.1,λs=>?_⟩
   rw[this.2 s,eI,eI,eI]
   have e:ca ⟨c.rg.lo,p.rg.hi,p.rg.op⟩ s=(ca c.rg s||ca p.rg s):=by
    rw[aav,abm,db hm,db hc.1,db hp.1]
    simp only
    rcases jR hp.1 with q|q
    all_goals grind
   rw[e]
   grind
  ·rw[aab g]
   have:=ih p s2 (λz hz=>h z (aaY _ hz))
   obtain⟨z,t,e1,e2,e3⟩:=Qv l p
   grind[dy,vz,eI.eq_def]
theorem H3 {l:List Pc}(hs:l.Pairwise Beh)(h:∀p∈l,Zb p):aY (ju l)/\∀s,eI (ju l) s=eI l s:=by
 cases l with
 | nil=>exact⟨ig,λ_=>rfl⟩
 | cons x l=>exact XM l x hs h
def ip (s:ByteArray):List ByteArray->Rg
 | []=>⟨s,emB,true⟩
 | t::_=>⟨s,t,false⟩
def el (f:ByteArray->List Kn):List ByteArray->List Pc
 | []=>[]
 | e::E=>(if(f e).length=0 then []else [⟨ip e E,f e⟩])++el f E
def re (f:ByteArray->List Kn)(E:List ByteArray):List Pc:=ju (el f E)
def qG (E:List ByteArray):Prop:=∀m∈E,m.size<=17
theorem sI {e:ByteArray}{E:List ByteArray}(h:Az (e::E))(ho:qG (e::E)):gg (ip e E)=true:=by
 cases E with
 | nil=>exact(cg _).2 ⟨ho e aA,by show(0:Nat)<=17;decide,by simp[ip];rfl⟩
 | cons t E=>
  refine(cg _).2 ⟨ho e aA,ho t aA,?_⟩
  have:=(List.pairwise_cons.1 h).1 t aA
  simp only[ip]
  exact this
theorem xT (f:ByteArray->List Kn)(hf:∀s,ck (f s)):∀(E:List ByteArray),Az E->qG E->∀p∈el f E,Zb p/\p.rg.lo∈E:=by
 intro E
 induction E with
 | nil=>grind[el]
 | cons e E ih=>
  intro h ho p hp
  rw[el,aaS]at hp
  rcases hp with hp|hp
  ·split at hp
   ·simp at hp
   ·rename_i c
    have hp:p=⟨ip e E,f e⟩:=by simpa using hp
    subst hp
    refine⟨⟨sI h ho,λq=>c (by grind),hf e⟩,?_⟩
    have:(ip e E).lo=e:=by cases E<;>rfl
    simp[this]
  ·have:=ih (List.pairwise_cons.1 h).2 (λm hm=>ho m (aaY _ hm)) p hp
   grind
theorem Qw (f:ByteArray->List Kn)(hf:∀s,ck (f s)):∀(E:List ByteArray),Az E->qG E->(el f E).Pairwise Beh:=by
 intro E
 induction E with
 | nil=>intro _ _;exact abD
 | cons e E ih=>
  intro h ho
  have h2:=(List.pairwise_cons.1 h).2
  have ho2:qG E:=λm hm=>ho m (aaY _ hm)
  have h3:=ih h2 ho2
  rw[el]
  split
  ·exact h3
  ·refine List.pairwise_cons.2 ⟨λz hz=>?_,h3⟩
   have h4:=(xT f hf E h2 ho2 z hz).2
   cases E with
   | nil=>simp at h4
   | cons t E=>
    refine⟨rfl,?_⟩
    show t<=z.rg.lo
    grind[List.pairwise_cons]
def Qx (f:ByteArray->List Kn)(E:List ByteArray):Prop:=∀e n,e<=n->(∀m∈E,m<=e\/n<m)->f e=f n
theorem LI {l:List Pc}{s:ByteArray}(h:∀p∈l,Zb p/\s<p.rg.lo):eI l s=[]:=by
 induction l with
 | nil=>rfl
 | cons p l ih=>
  obtain⟨a,b⟩:=h p aA
  rw[gy (λc=>by have:=((db a.1 s).1 c).1;grind)]
  grind
theorem Qy {f:ByteArray->List Kn}{M:List ByteArray}(hf:∀s,ck (f s))(hc:Qx f M):∀(E:List ByteArray)(e:ByteArray),Az (e::E)->qG (e::E)->(∀m∈M,m<=e\/m∈E)->∀s,e<=s->eI (el f (e::E)) s=f s:=by
 intro E
 induction E with
 | nil=>
  intro e h ho hM s hs
  have he:f e=f s:=hc e s hs (λm hm=>by grind)
  rw[el,el,aan,<-he]
  split
  ·grind[sH]
  ·exact lY ((db (sI h ho) s).2 ⟨hs,.inl rfl⟩)
 | cons t E ih=>
  intro e h ho hM s hs
  obtain⟨h1,h2⟩:=List.pairwise_cons.1 h
  have h3:=h1 t aA
  have ho2:qG (t::E):=λm hm=>ho m (aaY _ hm)
  obtain⟨h4,_⟩:=List.pairwise_cons.1 h2
  by_cases c:s<t
  ·have he:f e=f s:=hc e s hs (λm hm=>by grind)
   have hno:eI (el f (t::E)) s=[]:=LI (λp hp=>by
    obtain⟨a,b⟩:=xT f hf _ h2 ho2 p hp
    grind)
   rw[el,<-he]
   split
   ·grind
   ·exact lY ((db (sI h ho) s).2 ⟨hs,.inr c⟩)
  ·have:=ih t h2 ho2 (λm hm=>by grind) s (by grind)
   rw[el]
   split
   ·exact this
   ·refine(gy (λq=>?_)).trans this
    rcases((db (sI h ho) s).1 q).2 with z|z
    ·cases z
    ·exact c z
theorem Cd {f:ByteArray->List Kn}(hf:∀s,ck (f s)){E:List ByteArray}(hup:Az E)(ho:qG E)(h0:emB∈E)(hc:Qx f E):aY (re f E)/\∀s,eI (re f E) s=f s:=by
 have h1:=H3 (Qw f hf E hup ho) (λp hp=>(xT f hf E hup ho p hp).1)
 refine⟨h1.1,λs=>(h1.2 s).trans ?_⟩
 cases E with
 | nil=>simp at h0
 | cons e E=>
  have he:e=emB:=by
   rcases aaU.1 h0 with q|q
   ·exact q.symm
   ·have:=(List.pairwise_cons.1 hup).1 _ q
    have:=HZ e
    grind
  grind[Qy,HZ]
theorem UT {f:ByteArray->List Kn}(hf:∀s,ck (f s)){E:List ByteArray}(hup:Az E)(ho:qG E)(h0:emB∈E)(hc:Qx f E){k:List Pc}(hk:aY k)(hg:∀s,eI k s=f s):re f E=k:=
 have h:=Cd hf hup ho h0 hc
 nL h.1 hk (λs=>(h.2 s).trans (hg s).symm)
theorem Qz (f:ByteArray->List Kn):∀E:List ByteArray,(el f E).length<=E.length:=by
 intro E
 induction E<;>grind[el]
theorem UU:∀(l:List Pc)(c:Pc),(vZ c l).length<=l.length+1:=by
 intro l
 induction l<;>grind[vZ]
theorem sJ (f:ByteArray->List Kn)(E:List ByteArray):(re f E).length<=E.length:=by
 have h1:=Qz f E
 unfold re
 cases h:el f E with
 | nil=>exact aag _
 | cons c l=>
  rw[h]at h1
  exact abk (UU l c) h1
theorem mZ:ck []:=λi hi=>by simp at hi
theorem xU (k:Kn)(l:List Kn):ck (k::l)↔(1<=k.rep/\k.rep<=16/\k.runs≠[]/\ef k.runs)/\(∀q,l.head?=some q->k.rep<q.rep)/\ck l:=by
 constructor
 ·intro h
  have h0:=h 0 aA aA
  refine⟨⟨h0.1,h0.2.1,h0.2.2.1,h0.2.2.2.1⟩,λq hq=>?_,λi hi hi'=>?_⟩
  ·cases l with
   | nil=>cases hq
   | cons z l=>
    cases hq
    exact(h 1 aA aA).2.2.2.2 ae
  ·have h1:=h (i+1) (by simpa using hi) (by simpa using hi)
   grind
 ·rintro⟨⟨h1,h2,h2',h2''⟩,h3,h4⟩ i hi hi'
  cases i with
  | zero=>grind
  | succ i=>
   have h5:=h4 i (by simpa using hi) (by simpa using hi)
   simp only[List.getElem_cons_succ,aa8]
   refine⟨h5.1,h5.2.1,h5.2.2.1,h5.2.2.2.1,λ_=>?_⟩
   cases i with
   | zero=>
    cases l<;>grind
   | succ i=>grind
theorem H4:∀(T:List (List Rn)) (i:Nat),i+T.length<=16->ck (bO ofR i T)/\∀q,(bO ofR i T).head?=some q->(i:Int)<q.rep:=by
 intro T
 induction T with
 | nil=>intro i _;exact⟨mZ,λq hq=>by cases hq⟩
 | cons l T ih=>
  intro i hi
  rw[aaD]at hi
  obtain⟨h1,h2⟩:=ih (i+1) ae
  rw[bO]
  by_cases c:(ofR l).length=0
  all_goals grind[xU,xL]
theorem JW (s:List Kn):ck (gQ ofR s):=(H4 _ 0 (by rw[dp];omega)).1
theorem H5:∀(T:List (List Rn)) (i:Nat),(∀l∈T,ef l)->bO ofR i T=bO id i T:=by
 intro T
 induction T<;>grind[bO,P3]
theorem nM {s:List Kn}(h:ck s):gQ ofR s=s:=by
 have:=xo s h
 grind[gQ,H5,Aj]
theorem H6:∀(T:List (List Rn)) (i r:Nat),bx (bO ofR i T) r=if h:i<=r/\r-i<T.length then ofR (T[r-i]'h.2)else []:=by
 intro T
 induction T with
 | nil=>intro i r;rw[dif_neg aA];rfl
 | cons l T ih=>
  intro i r
  rw[bO]
  have happ:∀a b:List Kn,bx (a++b) r=bx a r++bx b r:=λa b=>by grind[bx]
  rw[happ,ih]
  have hhead:bx (if(ofR l).length=0 then []else [⟨(i:Int)+1,ofR l⟩]) r=if i=r then ofR l else []:=by
   by_cases c:(ofR l).length=0
   all_goals grind[bx]
  rw[hhead]
  by_cases e:i=r
  ·subst e
   rw[aae rfl,dif_neg ae,aan,dif_pos ⟨aaf _,aA⟩]
   simp
  ·rw[aab e,aaE]
   by_cases c:i+1<=r/\r-(i+1)<T.length
   ·rw[dif_pos c,dif_pos ⟨ae,by rw[aaD];omega⟩]
    grind
   ·rw[dif_neg c,dif_neg (by rw[aaD];omega)]
theorem rf (s:List Kn):di (gQ ofR s)=(di s).map ofR:=by
 apply List.ext_getElem?
 grind[dp,ev,gQ,H6,aad]
def vf (g:List Rn->List Rn->List Rn)(a b:List Kn):List Kn:=bO id 0 (List.zipWith g (di a) (di b))
def Zc (a b:List Rn):List Rn:=UK (C2 (λx y=>x||y) a b) a b
theorem QA (a b:List Rn):Zc a b=ofR (a++b):=XK a b
theorem lZ:∀(T:List (List Rn)) (i:Nat),bO id i (T.map ofR)=bO ofR i T:=by
 intro T
 induction T<;>grind[bO]
theorem AA (a b:List Kn):di (a++b)=List.zipWith (·++·) (di a) (di b):=by
 apply List.ext_getElem?
 grind[ev,bx,dp]
theorem LJ {g h:List Rn->List Rn->List Rn}:∀(T U:List (List Rn)),(∀t u,t∈T->u∈U->g t u=h t u)->List.zipWith g T U=List.zipWith h T U:=by
 intro T
 induction T with
 | nil=>intro U _;rfl
 | cons t T ih=>
  intro U hh
  cases U with
  | nil=>rfl
  | cons u U=>
   rw[List.zipWith_cons_cons,List.zipWith_cons_cons,hh t u aA aA,ih U (λt u a b=>hh t u (aaY _ a) (aaY _ b))]
theorem EN (X Y:List Kn):vf Zc (gQ ofR X) (gQ ofR Y)=gQ ofR (X++Y):=by
 unfold vf
 rw[rf,rf,List.zipWith_map]
 unfold gQ
 rw[AA,<-lZ,List.map_zipWith]
 grind[QA,EI,sy,qj]
def mz (k:List Pc)(s:ByteArray):List Kn:=gQ ofR (k.flatMap λp=>if ca p.rg s then p.set else [])
theorem ut (k:List Pc)(s:ByteArray):ck (mz k s):=JW _
theorem UV (a b:List Pc)(s:ByteArray):vf Zc (mz a s) (mz b s)=mz (a++b) s:=by grind[mz,EN]
theorem LK {k:List Pc}(h:aY k)(s:ByteArray):(k.flatMap λp=>if ca p.rg s then p.set else [])=eI k s:=by
 induction k with
 | nil=>rfl
 | cons p k ih=>
  obtain⟨⟨hp,_,_⟩,_,hk⟩:=(dy _ _).1 h
  rw[List.flatMap_cons,ih hk]
  by_cases c:ca p.rg s=true
  ·rw[aae c,lY c]
   have:eI k s=[]:=by
    refine Classical.byContradiction λz=>?_
    obtain⟨x,y⟩:=mY h z
    grind[db]
   rw[this,aan]
  grind[gy]
theorem Ce {k:List Pc}(h:aY k)(s:ByteArray):ck (eI k s):=by
 induction k with
 | nil=>exact mZ
 | cons p k ih=>
  obtain⟨⟨_,_,h3⟩,_,hk⟩:=(dy _ _).1 h
  rw[eI]
  grind
theorem kN {k:List Pc}(h:aY k)(s:ByteArray):mz k s=eI k s:=by grind[mz,LK,nM,Ce]
def cV (k:List Pc):List Rg:=k.map Pc.rg
def m0 (k:List Pc):List ByteArray:=js [emB] (cV k)
theorem Cf (k:List Pc):Az (m0 k):=Cb _ _ aA
theorem JX (k:List Pc):emB∈m0 k:=(jt _ _ _).2 (.inl aA)
theorem Cg (k:List Pc):qG (m0 k):=λm hm=>by
 rcases(jt _ _ _).1 hm with h|⟨r,_,h1,h2⟩
 ·have h:m=emB:=by simpa using h
  rw[h];decide
 grind[cg]
theorem uu {r:Rg}{e n:ByteArray}(hen:e<=n)(h:∀m,my r m->m<=e\/n<m):ca r e=ca r n:=by
 cases c:gg r with
 | false=>grind[ca]
 | true=>
  rw[aav,db c,db c]
  have h1:=h r.lo ⟨c,.inl rfl⟩
  cases o:r.op with
  | true=>
   grind
  | false=>
   have h2:=h r.hi ⟨c,.inr ⟨o,rfl⟩⟩
   grind
theorem JY {k:List Pc}{e n:ByteArray}(hen:e<=n)(h:∀p∈k,∀m,my p.rg m->m<=e\/n<m):mz k e=mz k n:=by grind[mz,List.map_congr_left,uu]
theorem EO {k:List Pc}{p:Pc}(hp:p∈k){m:ByteArray}(h:my p.rg m):m∈m0 k:=(jt _ _ _).2 (.inr ⟨p.rg,List.mem_map_of_mem hp,h⟩)
def zo (k:List Pc):List Pc:=re (mz k) (m0 k)
theorem JZ (k:List Pc):Qx (mz k) (m0 k):=λ_ _ hen h=>JY hen (λ_ hp m hm=>h m (EO hp hm))
theorem ri (k:List Pc):aY (zo k)/\∀s,eI (zo k) s=mz k s:=Cd (ut k) (Cf k) (Cg k) (JX k) (JZ k)
theorem QB {k:List Pc}(h:aY k):zo k=k:=UT (ut k) (Cf k) (Cg k) (JX k) (JZ k) h (λs=>(kN h s).symm)
end Go.Proofs.YtecdgdoledkdfaaGreat
namespace Go.Proofs.YtecdgdoledkdfaaGreat
open Go.RowKit Go.Shelf Go.Proofs.Tryz
abbrev EP (l:List UInt8):ByteArray:=⟨l.toArray⟩
abbrev zp (s:ByteArray):List UInt8:=s.data.toList
theorem Ch (s:ByteArray):EP (zp s)=s:=by cases s;rfl
def kn (l:List ByteArray):List ByteArray:=(Lib.compact (l.map zp)).map EP
section
variable {d:Array (List UInt8)}
theorem Ci:∀(m:Nat)(x:List UInt8),x∈Lib.compactUpTo d m↔∃j,j<m/\d[j]! = x:=by
 intro m
 induction m<;>grind[Lib.compactUpTo,Lib.compactUpTo_succ,Lib.keeps]
theorem XN (h:∀i j,i<j->j<d.size->¬EP d[j]! < EP d[i]!):∀m,m<=d.size->((Lib.compactUpTo d m).map EP).Pairwise (·<·):=by
 intro m
 induction m with
 | zero=>intro _;simp[Lib.compactUpTo]
 | succ m ih=>
  intro hm
  have h1:=ih ae
  rw[Lib.compactUpTo_succ]
  by_cases k:Lib.keeps d m=true
  ·rw[aae k,List.map_append,List.pairwise_append]
   refine⟨h1,aA,λx hx y hy=>?_⟩
   have hy:y=EP d[m]!:=by simpa using hy
   subst hy
   obtain⟨z,hz,rfl⟩:=List.mem_map.1 hx
   obtain⟨j,hj,rfl⟩:=(Ci m z).1 hz
   have k':m=0\/d[m]! ≠ d[m-1]!:=by grind[Lib.keeps]
   have a:=h (m-1) m ae ae
   have ne:EP d[m]! ≠ EP d[m-1]!:=λe=>by grind
   rcases aaF j (m-1)with q|q
   all_goals grind
  grind
end
theorem H7 {l:List ByteArray}(h:l.Pairwise (λx y=>¬y<x)):Az (kn l)/\∀s,s∈kn l↔s∈l:=by
 have get:∀i (hi:i<l.length),(l.map zp).toArray[i]! = zp l[i]:=λi hi=>by rw[getElem!_pos _ i (by simpa using hi)];simp
 unfold kn Lib.compact
 refine⟨XN (λi j hij hj=>?_) _ aA,λs=>?_⟩
 ·have hj:j<l.length:=by simpa using hj
  rw[get i ae,get j hj,Ch,Ch]
  grind[List.pairwise_iff_getElem]
 ·rw[List.mem_map]
  constructor
  ·rintro⟨x,hx,rfl⟩
   obtain⟨j,hj,rfl⟩:=(Ci _ _).1 hx
   simp_all[Ch]
  grind[List.getElem_of_mem,Ci]
theorem LL (l:List ByteArray):(kn l).length<=l.length:=by grind[kn,Lib.compact,Lib.compactUpTo]
theorem QC {l E:List ByteArray}(h:∀s∈l,s.size<=1000000000000)(hu:Az E)(hm:∀s,s∈E↔s∈l):kn (qF l)=E:=by grind[xM,H7,Qr]
def coCompS_ren:Go.Shelf.Ren:=⟨fun|194=>216|n=>n,fun|0=>0|3=>3|4=>4|9=>9|31=>203|n=>n,λn=>n⟩
theorem UW (h:Tryz.f216=Body.n194 coCompS_ren):Lays.n194 prog coCompS_ren:={ mixed:=by kernel_rfl,f194:=func216.trans (aaA some h),t0:=underlying0,a0:=Tryz.isAgg0,z0:=Tryz.sizeOf0,v0:=Tryz.zeroValue0,t3:=underlying3,a3:=Tryz.isAgg3,z3:=Tryz.sizeOf3,v3:=Tryz.zeroValue3,t4:=underlying4,a4:=Tryz.isAgg4,z4:=Tryz.sizeOf4,v4:=Tryz.zeroValue4,t9:=underlying9,a9:=Tryz.isAgg9,z9:=Tryz.sizeOf9,v9:=Tryz.zeroValue9,t31:=underlying203,a31:=Tryz.isAgg203,z31:=Tryz.sizeOf203,v31:=Tryz.zeroValue203 }
theorem QD (l:List ByteArray)(hl:l.length<=1000000000) :
 bZ prog 216 [.row 2000 0] [(2000,.row 9 1 (l.map strP))] (.row 3000 0) [(3000,.row 9 1 ((kn l).map strP))]:=by
 refine⟨xO func216 (by kernel_rfl) (by kernel_rfl),?_⟩
 intro C w vs hW hN hO hvl hvs hb
 obtain⟨v0,rfl⟩:∃v0,vs=[v0]:=by match vs,hvl with|[a],_=>exact⟨a,rfl⟩
 have h0:=hvs 0 v0 _ rfl rfl
 have e0:v0=C.G0.rh 2000:=h0.2 rfl
 subst e0
 have hrow:=hb 2000
 have L:=UW (by kernel_rfl)
 rcases hrow with⟨q1,q2⟩|⟨cap,cs,q1,q2,q3,q4,q5,q6,q7⟩
 ·have hl0:l=[]:=by simpa using q2
  rw[q1]
  refine(Any.slices_Compact_string_empty L none 0 w).mono ?_
  rintro e' w' ⟨rfl,rfl⟩
  refine⟨_,⟨C.G0.ow,C.G0.ph,λi=>if i=3000 then .slice none 0 0 else C.G0.rh i⟩,rfl,⟨rfl,rfl,rfl,aaf _,λ_ _ _=>rfl,λb id h=>⟨(hO b id h).1,.inr (hO b id h).2⟩,λid hf=>⟨rfl,?_⟩⟩,⟨aaf _,λ_=>rfl⟩,λid=>?_⟩
  ·by_cases q:id=3000
   ·subst q;cases hf
   ·exact aab q
  ·by_cases hid:id=3000
   ·subst hid
    exact .inl ⟨rfl,by rw[hl0];rfl⟩
   ·rw[show fb id [(3000,Blk.row 9 1 ((kn l).map strP))]=.none by grind[fb,f8]];trivial
 ·rw[aad]at q1 q4
  obtain⟨b,hb0⟩:∃b,b=C.G0.ph 2000:=⟨_,rfl⟩
  rw[<-hb0]at q1 q2 q3
  have hbl:=hO b 2000 q3
  have hH:Sort.Holds encStr w b 0 (l.map zp).toArray:=by
   intro t ht
   have ht':t<l.length:=by simpa using ht
   obtain⟨_,g⟩:=q7 t (strP l[t]) (by rw[List.getElem?_map,aaa ht'];rfl)
   obtain⟨y,y1,_,y3⟩:=g 0 _ rfl
   have y3:y=.string l[t]:=y3
   simp_all[World.frozen?,World.cell?]
  have:=Any.slices_Compact_string (P:=prog) (ρ:=coCompS_ren) L b 0 cap (l.map zp) w hH bD (by simpa using q4)
  rw[aad]at this
  rw[q1]
  refine this.mono ?_
  have hcl:=LL l
  have hcE:(kn l).map zp=Lib.compact (l.map zp):=by unfold kn;rw[List.map_map];exact List.map_id' _
  have hcL:(Lib.compact (l.map zp)).length=(kn l).length:=by rw[<-hcE,aad]
  rw[hcL]
  generalize Lib.compact (l.map zp)=Z at *
  rintro e' w' ⟨rfl,n,rfl⟩
  have hblock:∀(f:Array Value->Array Value) b',b'≠b->(Sort.mapBlock (Sort.ahead w n) b f).heap[b']?=w.heap[b']?:=λf b' h'=>by
   show((w.heap.modify b (Sort.onCells f)))[b']?=_
   rw[Array.getElem?_modify,aab (Ne.symm h')]
  have hthis:∀(f:Array Value->Array Value),(Sort.mapBlock (Sort.ahead w n) b f).heap[b]?=some (.cells (f cs) 9 (0,0)):=λf=>by
   show((w.heap.modify b (Sort.onCells f)))[b]?=_
   rw[Array.getElem?_modify,aae rfl,q2]
   rfl
  have hsz:∀(f:Array Value->Array Value),w.heap.size=(Sort.mapBlock (Sort.ahead w n) b f).heap.size:=λf=>by
   show _=(w.heap.modify b (Sort.onCells f)).size
   simp
  unfold Sort.putRow
  generalize hF:Sort.putCells encStr 0 (Z++List.replicate (l.length-(kn l).length) []).toArray=f
  refine⟨_,⟨λi=>if C.G0.ow i=some 2000 then some 3000 else C.G0.ow i,λi=>if i=3000 then b else C.G0.ph i,λi=>if i=3000 then .slice (some ⟨b,0,none⟩) (kn l).length cap else C.G0.rh i⟩,rfl,
   ⟨rfl,rfl,rfl,Nat.le_of_eq (hsz f),λb' _ h'=>hblock f b' (λe=>h' (e▸hbl.2)),λb' id h=>?_,λid hf=>?_⟩,⟨aaf _,λ_=>rfl⟩,λid=>?_⟩
  ·grind
  ·by_cases q:id=3000
   ·subst q;cases hf
   grind
  ·by_cases hid:id=3000
   ·subst hid
    refine .inr ⟨cap,f cs,?_,?_,?_,?_,q5,?_,?_⟩
    ·grind
    ·grind
    ·grind
    ·rw[aad];omega
    ·rw[<-hF,uo];exact q6
    ·intro i ps hi
     rw[List.getElem?_map]at hi
     obtain⟨x,hx,rfl⟩:=Option.map_eq_some_iff.1 hi
     refine⟨rfl,λj A hj=>?_⟩
     obtain rfl:j=0:=by
      have h1:j<1:=(aaM.1 hj).1
      omega
     cases hj
     obtain⟨hi',hx'⟩:=aaM.1 hx
     have hzl:Z.length=(kn l).length:=by rw[<-hcE,aad]
     rw[abF,abo,<-hF,put_get _ _ _ _ (by rw[q6];omega) bD]
     refine⟨_,rfl,rfl,?_⟩
     show Value.string _=Value.string x
     rw[getElem!_pos _ i bD]
     grind[kn]
   ·rw[show fb id [(3000,Blk.row 9 1 ((kn l).map strP))]=.none by grind[fb,f8]];trivial
theorem xV (r:Rg)(s:ByteArray)(hs:s.size<=1000000000):Fn prog 135 [Ab r,sC s] (dE (ca r s)):=by
 have h1:=gW r
 obtain⟨lo,hi,op⟩:=r
 have hR:=cg ⟨lo,hi,op⟩
 have hH:ca ⟨lo,hi,op⟩ s=(gg ⟨lo,hi,op⟩&&(decide (lo<=s)&&(op||decide (s<hi)))):=rfl
 generalize ca ⟨lo,hi,op⟩ s=b at *
 generalize gg ⟨lo,hi,op⟩=q at *
 subst hH
 show Fn prog _ [.per (cu [ai (.string lo),ai (.string hi),ai (.bool op)]),sC s] (dE _)
 cases q with
 | false=>
  refine fi func135 ntmps135 ?_
  (refine au h1 ?_)
  exact dz
 | true=>
  have hlo:=(hR.1 rfl).1
  simp only at hlo
  clear hR
  have h2:=hY lo s ae
  have h3:=hY s hi ae
  by_cases q1:cG lo s<=0
  ·rw[aao (show lo<=s from q1)]
   cases op with
   | true=>
    refine fi func135 ntmps135 ?_
    (refine lc h1 h2 h3 ?_;refine ah λhc=>?_)
    exact dz
   | false=>
    refine fi func135 ntmps135 ?_
    (refine lc h1 h2 h3 ?_;refine ah λhc=>?_)
    exact dz
  ·rw[aap (show ¬lo<=s from q1)]
   refine fi func135 ntmps135 ?_
   (refine bt h1 h2 ?_;refine ah λhc=>?_)
   exact dz
theorem qk (r:Rg)(s:ByteArray)(hs:s.size<=1000000000):Fn prog 75 [Ab r,sC s] (dE (ca r s)):=by
 have h1:=kg r
 obtain⟨lo,hi,op⟩:=r
 have hR:=cg ⟨lo,hi,op⟩
 have hH:ca ⟨lo,hi,op⟩ s=(gg ⟨lo,hi,op⟩&&(decide (lo<=s)&&(op||decide (s<hi)))):=rfl
 generalize ca ⟨lo,hi,op⟩ s=b at *
 generalize gg ⟨lo,hi,op⟩=q at *
 subst hH
 show Fn prog _ [.per (cu [ai (.string lo),ai (.string hi),ai (.bool op)]),sC s] (dE _)
 cases q with
 | false=>
  refine fi func75 ntmps75 ?_
  (refine au h1 ?_)
  exact dz
 | true=>
  have hlo:=(hR.1 rfl).1
  simp only at hlo
  clear hR
  have h2:=kf s lo ae
  have h3:=kf s hi ae
  by_cases q1:cG s lo<0
  ·rw[aap (show ¬lo<=s by have:=(iP s lo).1 q1;grind)]
   rw[aao q1]at h2
   refine fi func75 ntmps75 ?_
   (refine bt h1 h2 ?_)
   exact dz
  ·rw[aao (show lo<=s by rw[iP]at q1;grind)]
   rw[aap q1]at h2
   cases op with
   | true=>
    refine fi func75 ntmps75 ?_
    (refine bt h1 h2 ?_)
    exact dz
   | false=>
    refine fi func75 ntmps75 ?_
    (refine lc h1 h2 h3 ?_)
    exact dz
theorem ly (l:List Rg)(s:ByteArray)(hl:l.length<=1000000000)(hs:s.size<=1000000000):Fn prog 30 [cU l,sC s] (dE (cz l s)):=by
 generalize hb:cz l s=b
 refine fi func30 ntmps30 ?_
 (refine w0 ?_)
 refine aj (X:=Nat) (λz=>z<=l.length/\cz (l.drop z) s=b)
  (λz=>aF [(0,cU l),(1,sC s),(5,iC .i64 (z:Nat))] []) (λz=>l.length-z) 0 ⟨aag _,by rw[abu];exact hb⟩ ?_
 rintro z ⟨h1,h2⟩
 by_cases hz:z<l.length
 ·have h3:=qk l[z] s hs
  rw[List.drop_eq_getElem_cons hz,cz,List.any_cons]at h2
  cases hr:ca l[z] s with
  | true=>
   rw[hr]at h3 h2
   rw[Bool.true_or]at h2
   subst h2
   clear hb
   (refine au h3 ?_;repeat' first|apply aw|refine ah λhc=>?_)
   exact dz
  | false=>
   rw[hr]at h3 h2
   rw[abl]at h2
   clear hb
   (refine au h3 ?_;repeat' first|apply aw|refine ah λhc=>?_)
   refine⟨z+1,⟨ae,h2⟩,ae,?_⟩
   exact ab
 ·obtain rfl:z=l.length:=ae
  rw[aba]at h2
  simp only[cz,List.any_nil]at h2
  subst h2
  clear hb
  (refine w0 ?_;refine ah λhc=>?_)
  exact dz
theorem LM (x y:Rg)(hx:gg x=true)(hy:gg y=true):Fn prog 214 [Ab x,Ab y] (eA (LH x y)):=by
 have h1:=gW x
 have h2:=gW y
 have hR:=(cg x).1 hx
 rw[hx]at h1
 rw[hy]at h2
 clear hx hy
 obtain⟨lo,hi,op⟩:=x
 obtain⟨lo',hi',op'⟩:=y
 have hhi:=hR.2.1
 simp only at hhi
 clear hR
 have h3:=hY hi hi' ae
 have hE:LH ⟨lo,hi,op⟩ ⟨lo',hi',op'⟩=(if op&&op' then 0 else if op then 1 else if op' then -1 else cG hi hi'):=rfl
 rw[hE]
 show Fn prog _ [.per (cu [ai (.string lo),ai (.string hi),ai (.bool op)]),.per (cu [ai (.string lo'),ai (.string hi'),ai (.bool op')])] (eA _)
 cases op<;>cases op'
 all_goals
  refine fi func214 ntmps214 ?_
  (refine lc h3 h1 h2 ?_;repeat' first|apply aw|refine ah λhc=>?_)
  exact uZ
