/- Texts joined: Swp CntS FtM VsE Stab RgO. -/
import Derived.Test.YtaclhhkblbacgaaGreatJ19
set_option maxRecDepth 10000
set_option maxHeartbeats 8000000
namespace Go.Proofs.YtaclhhkblbacgaaGreat
open Go.RowKit Go.Proofs.Tryz
structure Vk (l:List Rn)(a:Int)(i:Nat):Prop where
 le:i≤l.length
 lo:∀j (h:j<l.length),j<i→l[j].to<a
 hi:∀j (h:j<l.length),i≤j→a≤l[j].to
def U4 (l:List Rn)(i:Nat)(a:Int):Nat:=2*i+(if h:i<l.length then(if l[i].fr≤a then 1 else 0)else 0)
section
variable {l:List Rn} {a e:Int} {i:Nat}
theorem ML (h:i≤l.length):U4 l i a≤2*l.length:=by
 unfold U4;split
 ·split<;>omega
 ·omega
end
structure U5 (keep:Bool→Bool→Bool)(A B:List Rn)(a:Int)(i k:Nat)(out:List Rn):Prop where
 pos:1≤a
 p:Vk A a i
 q:Vk B a k
 right:∀r∈out,jk r=true
 has:∀n,gd out n↔n<a∧zv keep A B n=true
 few:out.length≤U4 A i a+U4 B k a
theorem U5.done {keep:Bool→Bool→Bool}(hk:keep false false=false){A B:List Rn}{a:Int}{i k:Nat}{out:List Rn}(s:U5 keep A B a i k out)(h:¬a≤1099511627776∨¬i<A.length∧¬k<B.length) :
 ofR out=Qm (zv keep A B) A B:=by
 refine(MK hk (vi out) (fun n=>?_)).symm
 rw[lf,s.has n]
 refine⟨fun q=>q.2,fun q=>⟨?_,q⟩⟩
 refine XI fun z=>?_
 have no:∀{l:List Rn} {i:Nat},Vk l a i→(¬a≤1099511627776∨¬i<l.length)→dR l n=false:=fun {l i} p h=>by
  rw[←Wy,jx]
  intro w
  have w':=vf w
  obtain⟨r,hr,_,w1⟩:=w
  obtain⟨j,hj,rfl⟩:=List.getElem_of_mem hr
  rcases h with h|h
  ·omega
  ·have:=p.lo j hj ab;omega
 rw[zv,no s.p (h.imp id (·.1)),no s.q (h.imp id (·.2)),hk]at q
 cases q
theorem U5.len {keep:Bool→Bool→Bool}{A B:List Rn}{a:Int}{i k:Nat}{out:List Rn}(s:U5 keep A B a i k out):out.length≤2*(A.length+B.length):=by
 have h1:=s.few
 have h2:=ML (a:=a) s.p.le
 have h3:=ML (a:=a) s.q.le
 omega
section
variable {P:Program} {n t:Nat} {ops:Array Oper} {o:Oper} {S:St}
end
def Ue:Cnt→Bool
 | .per _=>true
 | .bor _ _=>true
 | _=>false
theorem MM {C:Ctx}{w:World}{c:Cnt}(hc:Ue c=true){v:Value}(h:crep C z0 C.G0 w v c):crep ⟨w,fun b=>C.N0 b∨C.G0.ow b≠none,fun _=>False,g0⟩ (fun _=>0) g0 w v c:=by
 have hn:∀b,b<w.heap.size→Gh.N g0 ⟨w,fun b=>C.N0 b∨C.G0.ow b≠none,fun _=>False,g0⟩ b→C.G0.N C b:=fun b _ q=>by
  rcases q with q|q
  ·exact q
  ·exact absurd rfl q
 cases c with
 | per A=>exact A.mono (V8 _) (fun _ _ _=>rfl) hn h
 | bor k es=>exact eH.mono (V8 _) (fun _ _ _=>rfl) (fun _ _ _=>rfl) (fun b _ q=>absurd rfl q) hn h
 | _=>cases hc
theorem Fn.toM {P:Program}{f:FuncId}{As:List Cnt}{A:PV}(h:Fn P f As (.per A))(hA:As.all Ue=true:=by rfl):dh P f As [] (.per A) []:=by
 refine⟨h.ent,?_⟩
 intro C w vs _ hN hO hl hvs _
 refine(h.run (fun b=>C.N0 b∨C.G0.ow b≠none) w vs (fun b q=>?_) ⟨hl,fun i v c h1 h2=>MM (WJ.1 hA c (WK h2)) (hvs i v c h1 h2)⟩).mono ?_
 ·rcases q with q|q
  ·exact(hN b q).1
  ·obtain⟨id,e⟩:=Option.ne_none_iff_exists'.1 q
   exact(hO b id e).1
 ·rintro e w' ⟨v,rfl,hx,hr⟩
  refine⟨v,C.G0,rfl,⟨hx.os,hx.tape,hx.output,hx.size,fun b hb _=>hx.block b hb,fun b id q=>⟨WY (hO b id q).1 hx.size,.inr (hO b id q).2⟩,fun _ _=>⟨rfl,rfl⟩⟩,?_,fun id=>trivial⟩
  exact hr
abbrev qG (l:List Kn):Ret:=.own 142 2 (l.map zh)
theorem ER (s:List Kn)(hs:dx s):∀l∈cS s,l.length≤1000000000:=fun l hl=>by
 obtain⟨r,_,rfl⟩:=List.mem_map.1 hl
 have:=iG s r
 have:=hs.2
 omega
theorem Qp (s:List Kn)(hs:dx s):Fn prog 219 [fd s] (qG (gH ofR s)):=
 RE ofR s hs (fun l hl=>MF l (ER s hs l hl))
def vo (s:List Kn):Prop:=s.length≤100000000∧(s.flatMap Kn.runs).length≤100000000
theorem vo.tot {s:List Kn}(h:vo s):dx s:=⟨by have:=h.1;omega,by have:=h.2;omega⟩
structure sX {α:Type}(lt:α→α→Bool):Prop where
 irr:∀x,lt x x=false
 tr:∀x y z,lt x y=true→lt y z=true→lt x z=true
 ntr:∀x y z,lt x y=false→lt y z=false→lt x z=false
section
variable {α:Type} {lt:α→α→Bool}
def vp (lt:α→α→Bool)(x y:α):Bool:=!lt x y&&!lt y x
def lg (lt:α→α→Bool)(l:List α):Prop:=l.Pairwise fun x y=>lt y x=false
def im (lt:α→α→Bool)(M N:List α):Prop:=∀x,N.filter (vp lt x)=M.filter (vp lt x)
theorem sX.lt_of (h:sX lt){x y z:α}(h1:lt x y=true)(h2:lt z y=false):lt x z=true:=by
 cases hxz:lt x z with
 | true=>rfl
 | false=>have:=h.ntr x z y hxz h2;rw[h1]at this;cases this
theorem sX.lt_of' (h:sX lt){x y z:α}(h1:lt x y=true)(h2:lt x z=false):lt z y=true:=by
 cases hzy:lt z y with
 | true=>rfl
 | false=>have:=h.ntr x z y h2 hzy;rw[h1]at this;cases this
theorem sX.asym (h:sX lt){x y:α}(h1:lt x y=true):lt y x=false:=by
 cases hyx:lt y x with
 | false=>rfl
 | true=>have:=h.tr x y x h1 hyx;rw[h.irr]at this;cases this
theorem Cw (h:sX lt)(x:α):vp lt x x=true:=by simp[vp,h.irr]
theorem rR (h:sX lt){x y z:α}(h1:vp lt x y=true):vp lt y z=vp lt x z:=by
 simp only[vp,Wi,Xp]at h1
 unfold vp
 have e1:lt y z=lt x z:=by
  cases hb:lt y z with
  | true=>exact(h.lt_of' hb h1.2).symm
  | false=>exact(h.ntr x y z h1.1 hb).symm
 have e2:lt z y=lt z x:=by
  cases hb:lt z y with
  | true=>exact(h.lt_of hb h1.1).symm
  | false=>exact(h.ntr z y x hb h1.2).symm
 rw[e1,e2]
theorem im.refl (M:List α):im lt M M:=fun _=>rfl
theorem im.trans {M N O:List α}(h1:im lt M N)(h2:im lt N O):im lt M O:=fun x=>(h2 x).trans (h1 x)
theorem im.symm {M N:List α}(h1:im lt M N):im lt N M:=fun x=>(h1 x).symm
theorem im.app {M N M' N':List α}(h1:im lt M N)(h2:im lt M' N'):im lt (M++M') (N++N'):=fun x=>by
 rw[List.filter_append,List.filter_append,h1 x,h2 x]
theorem im.mem (h:sX lt){M N:List α}(h1:im lt M N){x:α}(hx:x∈N):x∈M:=by
 have:x∈N.filter (vp lt x):=WZ.2 ⟨hx,Cw h x⟩
 rw[h1 x]at this
 exact(WZ.1 this).1
theorem im.mem' (h:sX lt){M N:List α}(h1:im lt M N){x:α}(hx:x∈M):x∈N:=h1.symm.mem h hx
theorem lg.uniq (h:sX lt):∀{M N:List α},lg lt M→lg lt N→im lt M N→M=N:=by
 intro M
 induction M with
 | nil=>
  intro N _ _ ha
  cases N with
  | nil=>rfl
  | cons y N=>exact absurd (ha.mem h WG) au
 | cons x M ih=>
  intro N hM hN ha
  cases N with
  | nil=>exact absurd (ha.mem' h (x:=x) WG) au
  | cons y N=>
   have hM':=List.pairwise_cons.1 hM
   have hN':=List.pairwise_cons.1 hN
   have hyM:=ha.mem h (x:=y) WG
   have hxN:=ha.mem' h (x:=x) WG
   have h1:lt y x=false:=by
    rcases Wp.1 hyM with e|e
    ·rw[e];exact h.irr x
    ·exact hM'.1 y e
   have h2:lt x y=false:=by
    rcases Wp.1 hxN with e|e
    ·rw[e];exact h.irr y
    ·exact hN'.1 x e
   have hE:vp lt x y=true:=by simp[vp,h1,h2]
   have hx:=ha x
   rw[List.filter_cons_of_pos hE,List.filter_cons_of_pos (Cw h x)]at hx
   injection hx with e1 e2
   subst e1
   rw[ih hM'.2 hN'.2 (fun z=>?_)]
   have hz:=ha z
   rw[List.filter_cons,List.filter_cons]at hz
   split at hz
   ·injection hz
   ·exact hz
def kq (lt:α→α→Bool)(x:α):List α→List α→List α
 | [],r=>x::r
 | y::l,r=>if lt x y then kq lt x l (y::r)else(y::l).reverse++x::r
def i8 (lt:α→α→Bool)(p:List α)(x:α):List α:=kq lt x p.reverse []
def dI (lt:α→α→Bool)(l:List α):List α:=l.foldl (i8 lt) []
theorem IK (h:sX lt)(x:α):∀(l r:List α),lg lt (l.reverse++r)→(∀y∈r,lt x y=true)→lg lt (kq lt x l r)∧im lt (l.reverse++r++[x]) (kq lt x l r):=by
 intro l
 induction l with
 | nil=>
  intro r hs hr
  refine⟨List.pairwise_cons.2 ⟨fun y hy=>h.asym (hr y hy),by simpa[lg]using hs⟩,fun z=>?_⟩
  simp only[kq,List.reverse_nil,Wu,List.filter_append,List.filter_cons,List.filter_nil]
  split
  ·rename_i hz
   have:r.filter (vp lt z)=[]:=by
    rw[List.filter_eq_nil_iff]
    intro y hy he
    rw[rR h hz |>.symm]at he
    simp[vp,hr y hy]at he
   rw[this];rfl
  ·simp
 | cons y l ih=>
  intro r hs hr
  unfold kq
  split
  ·rename_i hxy
   have:=ih (y::r) (by simpa using hs) (fun z hz=>by
    rcases Wp.1 hz with e|e
    ·rw[e];exact hxy
    ·exact hr z e)
   simpa using this
  ·rename_i hxy
   have hxy:lt x y=false:=by simpa using hxy
   have hlr:∀z∈(y::l).reverse,lt x z=false:=by
    intro z hz
    have hz':z∈y::l:=List.mem_reverse.1 hz
    rcases Wp.1 hz' with e|e
    ·rw[e];exact hxy
    ·have hs1:lg lt (l.reverse++[y]):=by
      have:lg lt ((l.reverse++[y])++r):=by simpa using hs
      exact(List.pairwise_append.1 this).1
     have hq:=(List.pairwise_append.1 hs1).2.2 z (by simpa using e) y au
     exact h.ntr x y z hxy hq
   have hs':=List.pairwise_append.1 hs
   refine⟨List.pairwise_append.2 ⟨hs'.1,List.pairwise_cons.2 ⟨fun z hz=>h.asym (hr z hz),hs'.2.1⟩,fun a ha b hb=>?_⟩,fun z=>?_⟩
   ·rcases Wp.1 hb with e|e
    ·rw[e];exact hlr a ha
    ·exact hs'.2.2 a ha b e
   ·simp only[List.filter_append,List.filter_cons,List.filter_nil,V9]
    congr 1
    split
    ·rename_i hz
     have:r.filter (vp lt z)=[]:=by
      rw[List.filter_eq_nil_iff]
      intro y hy he
      rw[rR h hz |>.symm]at he
      simp[vp,hr y hy]at he
     rw[this];rfl
    ·simp
theorem IL (h:sX lt){p:List α}(hp:lg lt p)(x:α):lg lt (i8 lt p x)∧im lt (p++[x]) (i8 lt p x):=by
 have:=IK h x p.reverse [] (by simpa using hp) (fun y hy=>by simp at hy)
 simpa[i8]using this
theorem dD (h:sX lt)(l:List α):lg lt (dI lt l)∧im lt l (dI lt l):=by
 have key:∀(l p:List α),lg lt p→lg lt (l.foldl (i8 lt) p)∧im lt (p++l) (l.foldl (i8 lt) p):=by
  intro l
  induction l with
  | nil=>intro p hp;exact⟨hp,by simpa using im.refl p⟩
  | cons x l ih=>
   intro p hp
   obtain⟨h1,h2⟩:=IL h hp x
   obtain⟨h3,h4⟩:=ih _ h1
   refine⟨h3,im.trans ?_ h4⟩
   have:=h2.app (im.refl l)
   simpa using this
 simpa[dI]using key l [] XF
theorem qH (h:sX lt){M N:List α}(h1:lg lt N)(h2:im lt M N):dI lt M=N:=
 (dD h M).1.uniq h h1 ((dD h M).2.symm.trans h2)
theorem MN (h:sX lt){M N:List α}(h2:im lt M N):dI lt M=dI lt N:=
 qH h (dD h N).1 (h2.trans (dD h N).2)
theorem jD (h:sX lt){M:List α}(h1:lg lt M):dI lt M=M:=qH h h1 (im.refl M)
theorem lX (h:sX lt){M:List α}{x:α}:x∈dI lt M↔x∈M:=⟨fun q=>(dD h M).2.mem h q,fun q=>(dD h M).2.mem' h q⟩
theorem MO (x:α):∀(l r:List α),(kq lt x l r).length=l.length+1+r.length:=by
 intro l
 induction l with
 | nil=>intro r;simp[kq];omega
 | cons y l ih=>
  intro r
  unfold kq
  split
  ·rw[ih];simp;omega
  ·simp;omega
theorem jY (l:List α):(dI lt l).length=l.length:=by
 have:∀(l p:List α),(l.foldl (i8 lt) p).length=p.length+l.length:=by
  intro l
  induction l with
  | nil=>intro p;rfl
  | cons x l ih=>
   intro p
   rw[List.foldl_cons,ih]
   unfold i8
   rw[MO];simp;omega
 simpa[dI]using this l []
theorem MP (h:sX lt){L1 L2 R1 R2:List α}(hL:lg lt (L1++L2))(hR:lg lt (R1++R2))(h1:∀x∈L1,∀y∈R2,lt y x=false)(h2:∀x∈R1,∀y∈L2,lt x y=true) :
 dI lt ((L1++L2)++(R1++R2))=dI lt (L1++R1)++dI lt (L2++R2):=by
 have hL':=List.pairwise_append.1 hL
 have hR':=List.pairwise_append.1 hR
 refine qH h (List.pairwise_append.2 ⟨(dD h _).1,(dD h _).1,fun a ha b hb=>?_⟩) ?_
 ·rw[lX h]at ha hb
  rcases Wz.1 ha with ha|ha<;>rcases Wz.1 hb with hb|hb
  ·exact hL'.2.2 a ha b hb
  ·exact h1 a ha b hb
  ·exact h.asym (h2 a ha b hb)
  ·exact hR'.2.2 a ha b hb
 ·refine im.trans (N:=(L1++R1)++(L2++R2)) (fun x=>?_) ((dD h _).2.app (dD h _).2)
  simp only[List.filter_append,V9]
  congr 1
  rw[←V9,←V9]
  congr 1
  by_cases he:∃y∈R1,vp lt x y=true
  ·obtain⟨y,hy,he⟩:=he
   have:L2.filter (vp lt x)=[]:=by
    rw[List.filter_eq_nil_iff]
    intro z hz hz2
    rw[rR h he |>.symm]at hz2
    simp[vp,h2 y hy z hz]at hz2
   rw[this];simp
  ·have:R1.filter (vp lt x)=[]:=by
    rw[List.filter_eq_nil_iff]
    exact fun z hz hz2=>he ⟨z,hz,hz2⟩
   rw[this];simp
theorem iH (h:sX lt){L1 L2 R1 R2:List α}(hL:lg lt (L1++L2))(hR:lg lt (R1++R2))(h1:∀x y,L1.getLast?=some x→R2.head?=some y→lt y x=false)(h2:∀x y,R1.getLast?=some x→L2.head?=some y→lt x y=true) :
 dI lt ((L1++L2)++(R1++R2))=dI lt (L1++R1)++dI lt (L2++R2):=by
 have hlast:∀{l:List α},lg lt l→∀x∈l,∃z,l.getLast?=some z∧lt z x=false:=by
  intro l hl x hx
  rcases List.eq_nil_or_concat l with e|⟨l',z,e⟩
  ·subst e;simp at hx
  ·rw[List.concat_eq_append]at e
   subst e
   refine⟨z,au,?_⟩
   rcases Wz.1 hx with q|q
   ·exact(List.pairwise_append.1 hl).2.2 x q z au
   ·simp at q;subst q;exact h.irr x
 have hhead:∀{l:List α},lg lt l→∀x∈l,∃z,l.head?=some z∧lt x z=false:=by
  intro l hl x hx
  cases l with
  | nil=>simp at hx
  | cons z l=>
   refine⟨z,rfl,?_⟩
   rcases Wp.1 hx with q|q
   ·subst q;exact h.irr x
   ·exact(List.pairwise_cons.1 hl).1 x q
 have hL':=List.pairwise_append.1 hL
 have hR':=List.pairwise_append.1 hR
 refine MP h hL hR (fun x hx y hy=>?_) (fun x hx y hy=>?_)
 ·obtain⟨a,ha,ha2⟩:=hlast hL'.1 x hx
  obtain⟨b,hb,hb2⟩:=hhead hR'.2.1 y hy
  exact h.ntr y b x hb2 (h.ntr b a x (h1 a b ha hb) ha2)
 ·obtain⟨a,ha,ha2⟩:=hlast hR'.1 x hx
  obtain⟨b,hb,hb2⟩:=hhead hL'.2.1 y hy
  exact h.lt_of (h.lt_of' (h2 a b ha hb) ha2) hb2
end
def cO (r:Rg)(s:ByteArray):Bool:=fX r&&(decide (r.lo≤s)&&(r.op||decide (s<r.hi)))
def IM (a b:Rg):Int:=if a.op&&b.op then 0 else if a.op then 1 else if b.op then -1 else cP a.hi b.hi
def Dz (out:List Rg)(r:Rg):List Rg:=match out.reverse with
 | []=>[r]
 | x::z=>if x.op=false∧cP x.hi r.lo<0 then out++[r]else if IM x r<0 then z.reverse++[⟨x.lo,r.hi,r.op⟩]else out
def ltR (x y:Rg):Bool:=decide (cP x.lo y.lo<0)
theorem jy {r:Rg}(h:fX r=true):r.op=true∨r.lo<r.hi:=by
 obtain⟨_,_,h⟩:=(b0 r).1 h
 cases ho:r.op with
 | true=>exact .inl rfl
 | false=>rw[ho]at h;exact .inr ((i7 _ _).1 (by simpa using h))
inductive GA:List Rg→Prop
 | nil:GA []
 | one {x}:fX x=true→GA [x]
 | cons {x y z}:fX x=true→y.op=false→y.hi<x.lo→GA (y::z)→GA (x::y::z)
theorem GA.head {x:Rg}{z:List Rg}(h:GA (x::z)):fX x=true:=by
 cases h with
 | one h=>exact h
 | cons h _ _ _=>exact h
theorem GA.ok:∀{l:List Rg},GA l→cb l.reverse:=by
 intro l h
 induction h with
 | nil=>intro i hi;simp at hi
 | one h=>
  intro i hi
  have:i=0:=by simp at hi;omega
  subst this
  exact⟨h,fun h=>absurd h ab⟩
 | @cons x y z hx ho hl hc ih=>
  have e:(x::y::z).reverse=(y::z).reverse++[x]:=au
  rw[e]
  intro i hi
  rw[V5]at hi
  rcases Wm i (y::z).reverse.length with q|q
  ·have:=ih i q
   refine⟨?_,fun h0=>?_⟩
   ·rw[List.getElem_append_left q];exact this.1
   ·rw[List.getElem_append_left q,List.getElem_append_left ab];exact this.2 h0
  ·have hi':i=(y::z).reverse.length:=by simp at hi ⊢;simp at q;omega
   subst hi'
   refine⟨?_,fun h0=>?_⟩
   ·rw[List.getElem_append_right (V8 _)];simpa using hx
   ·rw[List.getElem_append_right (V8 _),List.getElem_append_left ab]
    simp only[List.length_reverse,Wh,List.getElem_reverse,XB,Xf]
    exact⟨by simpa using ho,(i7 _ _).2 (by simpa using hl)⟩
theorem GA.ahead:∀{x:Rg} {z:List Rg},GA (x::z)→∀y∈z,y.op=false∧y.hi<x.lo:=by
 intro x z h
 induction z generalizing x with
 | nil=>intro y hy;cases hy
 | cons w z ih=>
  cases h with
  | cons hx ho hl hc=>
   intro y hy
   rcases Wp.1 hy with e|e
   ·subst e;exact⟨ho,hl⟩
   ·obtain⟨h1,h2⟩:=ih hc y e
    rcases jy hc.head with q|q
    ·rw[ho]at q;cases q
    ·exact⟨h1,by grind⟩
def cQ (l:List Rg)(s:ByteArray):Bool:=l.any fun r=>cO r s
theorem jZ {r:Rg}(h:fX r=true)(s:ByteArray):cO r s=(decide (r.lo≤s)&&(r.op||decide (s<r.hi))):=by
 unfold cO;rw[h];rfl
theorem MQ (Z:List Rg)(r:Rg)(h:GA Z)(hr:fX r=true)(hs:∀x∈Z,x.lo≤r.lo) :
 GA (Dz Z.reverse r).reverse∧(∀x∈(Dz Z.reverse r).reverse,x.lo≤r.lo)∧∀s,cQ (Dz Z.reverse r).reverse s=(cQ Z s||cO r s):=by
 unfold Dz
 rw[Xa]
 cases Z with
 | nil=>
  refine⟨.one hr,fun x hx=>?_,fun s=>?_⟩
  ·simp at hx;subst hx;grind
  ·simp[cQ]
 | cons x z=>
  have hx:=h.head
  have hxl:=hs x WG
  simp only
  split
  ·rename_i hc
   simp only[List.reverse_append,Xa,List.reverse_cons,List.reverse_nil,Wu,Xx]
   refine⟨.cons hr hc.1 hc.2 h,fun y hy=>?_,fun s=>?_⟩
   ·rcases Wp.1 hy with e|e
    ·subst e;grind
    ·exact hs y e
   ·simp only[cQ,List.any_cons];rw[Bool.or_comm]
  ·rename_i hc
   have hE:IM x r=(if x.op&&r.op then 0 else if x.op then 1 else if r.op then -1 else cP x.hi r.hi):=rfl
   have hc':x.op=true∨r.lo≤x.hi:=by
    cases ho:x.op with
    | true=>exact .inl rfl
    | false=>
     refine .inr ?_
     rw[ho]at hc
     have:¬x.hi<r.lo:=fun q=>hc ⟨rfl,q⟩
     grind
   have hxr:=jy hx
   have hrr:=jy hr
   split
   ·rename_i hd
    have hxo:x.op=false:=by
     cases ho:x.op with
     | false=>rfl
     | true=>rw[hE,ho]at hd;simp at hd;split at hd<;>omega
    have hro:r.op=true∨x.hi<r.hi:=by
     cases ho:r.op with
     | true=>exact .inl rfl
     | false=>rw[hE,hxo,ho]at hd;exact .inr ((i7 _ _).1 (by simpa using hd))
    have hN:fX ⟨x.lo,r.hi,r.op⟩=true:=by
     rw[b0]
     obtain⟨a1,a2,a3⟩:=(b0 x).1 hx
     obtain⟨b1,b2,b3⟩:=(b0 r).1 hr
     refine⟨a1,b2,?_⟩
     simp only
     cases ho:r.op with
     | true=>rw[ho]at b3;simpa using b3
     | false=>
      rw[ho]at b3
      simp only[WH,XC]at b3 ⊢
      rw[i7]at b3 ⊢
      grind
    simp only[List.reverse_append,Xa,List.reverse_cons,List.reverse_nil,Wu,Xx]
    refine⟨?_,fun y hy=>?_,fun s=>?_⟩
    ·cases h with
     | one _=>exact .one hN
     | cons _ ho hl hc=>exact .cons hN ho hl hc
    ·rcases Wp.1 hy with e|e
     ·subst e;exact hxl
     ·exact hs y (Ww _ e)
    ·simp only[cQ,List.any_cons]
     rw[jZ hN,jZ hx,jZ hr]
     simp only
     rw[Wo]
     simp only[WN,Wi,Wn,hxo,WH,false_or]
     grind
   ·rename_i hd
    have hxo:x.op=true∨(r.op=false∧r.hi≤x.hi):=by
     cases ho:x.op with
     | true=>exact .inl rfl
     | false=>
      rw[hE,ho]at hd
      cases hp:r.op with
      | true=>rw[hp]at hd;simp at hd
      | false=>rw[hp]at hd;refine .inr ⟨rfl,?_⟩;simp only[WV,WH,XC]at hd;rw[i7]at hd;grind
    rw[Xa]
    refine⟨h,hs,fun s=>?_⟩
    simp only[cQ,List.any_cons]
    rw[jZ hx,jZ hr,Wo]
    simp only[WN,Wi,Wn]
    grind
theorem Qq:∀(L Z:List Rg),GA Z→(∀r∈L,fX r=true)→L.Pairwise (fun x y=>x.lo≤y.lo)→(∀x∈Z,∀r∈L,x.lo≤r.lo) →
 GA (L.foldl Dz Z.reverse).reverse∧∀s,cQ (L.foldl Dz Z.reverse).reverse s=(cQ Z s||cQ L s):=by
 intro L
 induction L with
 | nil=>intro Z h _ _ _;simp[h,cQ]
 | cons r L ih=>
  intro Z h hR hS hZ
  obtain⟨p1,p2⟩:=List.pairwise_cons.1 hS
  obtain⟨h1,h2,h3⟩:=MQ Z r h (hR r WG) (fun x hx=>hZ x hx r WG)
  have h4:=ih (Dz Z.reverse r).reverse h1 (fun x hx=>hR x (Ww _ hx)) p2 (fun x hx y hy=>by have:=h2 x hx;have:=p1 y hy;grind)
  rw[Xa]at h4
  refine⟨h4.1,fun s=>?_⟩
  rw[List.foldl_cons,h4.2 s,h3 s]
  simp only[cQ,List.any_cons,Bool.or_assoc]
theorem MR (l:List Rg)(s:ByteArray):cQ l.reverse s=cQ l s:=by unfold cQ;rw[List.any_reverse]
def jn (l:List Rg):List Rg:=l.foldl Dz []
theorem Cx {L:List Rg}(hR:∀r∈L,fX r=true)(hS:L.Pairwise (fun x y=>x.lo≤y.lo)):cb (jn L)∧∀s,cQ (jn L) s=cQ L s:=by
 have h:=Qq L [] .nil hR hS (fun x hx=>by cases hx)
 refine⟨?_,fun s=>?_⟩
 ·have:=h.1.ok;rw[Xa]at this;exact this
 ·have:=h.2 s;rw[MR]at this;rw[jn];exact this.trans (by simp[cQ])
theorem Qr (out:List Rg)(r:Rg):(Dz out r).length≤out.length+1:=by
 unfold Dz
 split
 ·simp
 ·rename_i x z h
  have e:out.length=z.length+1:=by rw[←List.length_reverse,h];rfl
  split
  ·simp
  ·split
   ·simp;omega
   ·omega
theorem MS:∀(L out:List Rg),(L.foldl Dz out).length≤out.length+L.length:=by
 intro L
 induction L with
 | nil=>intro out;simp
 | cons r L ih=>intro out;rw[List.foldl_cons,Wh];have:=ih (Dz out r);have:=Qr out r;omega
theorem GB {l:List Rg}(h:cb l)(s:ByteArray):∃p,p≤l.length∧∀j (hj:j<l.length),((l[j].op=true∨s<l[j].hi)↔p≤j):=by
 have up:∀j (hj:j+1<l.length),(l[j].op=true∨s<l[j].hi)→(l[j+1].op=true∨s<l[j+1].hi):=by
  intro j hj hs
  have h1:=(h (j+1) hj).2 ab
  have h2:=jy (h (j+1) hj).1
  simp only[WD]at h1
  rw[i7]at h1
  grind
 have hB:∀n,n≤l.length→∃p,p≤n∧∀j (hj:j<l.length),j<n→((l[j].op=true∨s<l[j].hi)↔p≤j):=by
  intro n
  induction n with
  | zero=>intro _;exact⟨0,V8 _,fun j _ h=>absurd h (W4 _)⟩
  | succ n ih=>
   intro hn
   obtain⟨p,hp,hq⟩:=ih ab
   by_cases hb:l[n].op=true∨s<l[n].hi
   ·refine⟨p,ab,fun j hj hjn=>?_⟩
    rcases Wm j n with q|q
    ·exact hq j hj q
    ·obtain rfl:j=n:=ab
     exact⟨fun _=>ab,fun _=>hb⟩
   ·refine⟨n+1,ab,fun j hj hjn=>?_⟩
    rcases Wm j n with q|q
    ·refine⟨fun hx=>?_,fun hx=>ab⟩
     exfalso
     have:∀d,j+d≤n→∃hd:j+d<l.length,(l[j+d].op=true∨s<l[j+d].hi):=by
      intro d
      induction d with
      | zero=>intro _;exact⟨hj,hx⟩
      | succ d ihd=>
       intro hd
       obtain⟨h1,h2⟩:=ihd ab
       exact⟨ab,up (j+d) ab h2⟩
     obtain⟨h1,h2⟩:=this (n-j) ab
     have e:j+(n-j)=n:=ab
     simp only[e]at h2
     exact hb h2
    ·obtain rfl:j=n:=ab
     exact⟨fun hx=>absurd hx hb,fun hx=>ab⟩
 obtain⟨p,h1,h2⟩:=hB l.length (V8 _)
 exact⟨p,h1,fun j hj=>h2 j hj hj⟩
theorem MT {l:List Rg}(h:cb l){s:ByteArray}{p:Nat}(hp:∀j (hj:j<l.length),((l[j].op=true∨s<l[j].hi)↔p≤j)) :
 cQ l s=(match l[p]? with|some r=>cO r s|none=>false):=by
 have ch:∀d j (hj:j+d+1<l.length),l[j].op=false∧l[j].hi<l[j+d+1].lo:=by
  intro d
  induction d with
  | zero=>intro j hj;have:=(h (j+1) hj).2 ab;simp only[WD]at this;exact this
  | succ d ih=>
   intro j hj
   obtain⟨a,b⟩:=ih j ab
   have c:=(h (j+d+1+1) ab).2 ab
   have e:=jy (h (j+d+1) ab).1
   simp only[WD]at c
   rw[i7]at c
   refine⟨a,?_⟩
   show l[j].hi<l[j+d+1+1].lo
   grind
 rw[Wo]
 unfold cQ
 rw[Xc]
 constructor
 ·rintro⟨r,hr,hs⟩
  obtain⟨j,hj,rfl⟩:=List.getElem_of_mem hr
  have hjr:=(h j hj).1
  rw[jZ hjr]at hs
  simp only[Wi,WN,Wn]at hs
  have hpj:=(hp j hj).1 hs.2
  rcases Wm p j with q|q
  ·exfalso
   have hpl:p<l.length:=ab
   have:=(hp p hpl).2 (V8 _)
   obtain⟨d,rfl⟩:∃d,j=p+d+1:=⟨j-p-1,ab⟩
   obtain⟨a,b⟩:=ch d p hj
   grind
  ·obtain rfl:p=j:=ab
   rw[V4 hj]
   simp only
   rw[jZ hjr]
   simp only[Wi,WN,Wn]
   exact hs
 ·intro hs
  rcases Wm p l.length with q|q
  ·rw[V4 q]at hs
   exact⟨l[p],Wk q,hs⟩
  ·rw[Wq q]at hs;cases hs
theorem rS:sX ltR:=by
 refine⟨fun x=>?_,fun x y z h1 h2=>?_,fun x y z h1 h2=>?_⟩<;>simp only[ltR,Wn,Wt,i7]at *<;>grind
def qI (l:List Rg):List Rg:=jn (dI ltR (l.filter fX))
theorem rT (l:List Rg):cb (qI l)∧∀s,cQ (qI l) s=cQ l s:=by
 have hS:=(dD rS (l.filter fX)).1
 obtain⟨h1,h2⟩:=Cx (L:=dI ltR (l.filter fX)) (fun r hr=>(WZ.1 ((lX rS).1 hr)).2)
  (hS.imp fun {x y} h=>by simp only[ltR,Wt,i7]at h;grind)
 refine⟨h1,fun s=>(h2 s).trans ?_⟩
 unfold cQ
 rw[Wo,Xc,Xc]
 constructor
 ·rintro⟨r,hr,hs⟩
  exact⟨r,(WZ.1 ((lX rS).1 hr)).1,hs⟩
 ·rintro⟨r,hr,hs⟩
  refine⟨r,(lX rS).2 (WZ.2 ⟨hr,?_⟩),hs⟩
  unfold cO at hs
  exact(Wi _ _▸hs).1
theorem vq (l:List Rg):(qI l).length≤l.length:=by
 have h1:=MS (dI ltR (l.filter fX)) []
 have h2:=WT fX l
 rw[jY]at h1
 simp only[List.length_nil]at h1
 unfold qI jn
 omega
end Go.Proofs.YtaclhhkblbacgaaGreat
