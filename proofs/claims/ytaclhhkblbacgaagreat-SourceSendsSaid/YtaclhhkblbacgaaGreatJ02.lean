/- Texts joined: Abs. -/
import Derived.Test.YtaclhhkblbacgaaGreatJ01
import Derived.Orders
namespace Go.Proofs.YtaclhhkblbacgaaGreat
open Go.RowKit
variable {id:Nat} {a:Act} {d:Option Nat} {v:Value} {E:Nat→Bool} {t:Nat}
abbrev BP:=Nat→Prop
structure PV where
 p:BP→World→Value→Prop
 mono:∀{N N':BP} {w w':World} {v:Value},w.heap.size≤w'.heap.size→(∀b,b<w.heap.size→¬N b→w'.heap[b]?=w.heap[b]?) →
  (∀b,b<w.heap.size→N' b→N b)→p N w v→p N' w' v
def ak (v:Value):PV:=⟨fun _ _ u=>u=v,fun _ _ _ h=>h⟩
def eH (top N:BP)(k:Nat)(es:List (List PV))(w:World)(u:Value):Prop:=
 ∃a c b o,u=.slice a es.length c∧es.length≤c∧c≤maxLen∧(a=none→c=0)∧(0<es.length→a=some ⟨b,o,none⟩∧b<w.heap.size∧¬top b) ∧
  ∀(i:Nat)(cs:List PV),es[i]?=some cs→cs.length=k∧∀(j:Nat)(A:PV),cs[j]?=some A →
   ∃y,w.cell? ⟨b,o+i*k+j,none⟩=some y∧y.oneCell'=true∧A.p N w y
theorem rp {w w':World}{b o:Nat}(h:w'.heap[b]?=w.heap[b]?):w'.cell? ⟨b,o,none⟩=w.cell? ⟨b,o,none⟩:=by
 simp[World.cell?,h]
theorem eH.mono {top top' N N':BP}{k:Nat}{es:List (List PV)}{w w':World}{u:Value}(hs:w.heap.size≤w'.heap.size)
 (ht:∀b,b<w.heap.size→¬top b→w'.heap[b]?=w.heap[b]?) (hn:∀b,b<w.heap.size→¬N b→w'.heap[b]?=w.heap[b]?)
 (htt:∀b,b<w.heap.size→top' b→top b) (hnn:∀b,b<w.heap.size→N' b→N b) (h:eH top N k es w u):eH top' N' k es w' u:=by
 obtain⟨a,c,b,o,h1,h2,h3,h4,h5,h6⟩:=h
 refine⟨a,c,b,o,h1,h2,h3,h4,fun h0=>?_,fun i cs hi=>?_⟩
 ·obtain⟨g1,g2,g3⟩:=h5 h0
  exact⟨g1,ab,fun hb=>g3 (htt b g2 hb)⟩
 ·obtain⟨g1,g2⟩:=h6 i cs hi
  refine⟨g1,fun j A hj=>?_⟩
  obtain⟨y,hy,h1y,hp⟩:=g2 j A hj
  have h0:0<es.length:=by
   rcases W6 es.length with h|h
   ·rw[Wf h]at hi;simp at hi
   ·exact h
  obtain⟨_,q2,q3⟩:=h5 h0
  exact⟨y,by rw[rp (ht b q2 q3)];exact hy,h1y,A.mono hs hn hnn hp⟩
def cA (k:Nat)(es:List (List PV)):PV:=⟨fun N w u=>eH N N k es w u,fun h1 h2 h3 h=>eH.mono h1 h2 h2 h3 h3 h⟩
def gW (N:BP)(w:World)(vs:Array Value)(cs:List PV):Prop:=
 vs.size=cs.length∧∀(j:Nat)(A:PV),cs[j]?=some A→∃y,vs[j]?=some y∧y.oneCell'=true∧A.p N w y
theorem gW.mono {N N':BP}{w w':World}{vs:Array Value}{cs:List PV}(h1:w.heap.size≤w'.heap.size)(h2:∀b,b<w.heap.size→¬N b→w'.heap[b]?=w.heap[b]?)
 (h3:∀b,b<w.heap.size→N' b→N b) (h:gW N w vs cs):gW N' w' vs cs:=
 ⟨h.1,fun j A hj=>let⟨y,g1,g2,g3⟩:=h.2 j A hj;⟨y,g1,g2,A.mono h1 h2 h3 g3⟩⟩
def cB (cs:List PV):PV:=⟨fun N w u=>∃vs:Array Value,u=.agg vs∧gW N w vs cs,
 fun h1 h2 h3 ⟨vs,h,h'⟩=>⟨vs,h,h'.mono h1 h2 h3⟩⟩
def fM (cs:List PV):PV:=⟨fun N w u=>∃b o,u=.pointer (some ⟨b,o,none⟩)∧b<w.heap.size∧¬N b ∧
 ∀(j:Nat)(A:PV),cs[j]?=some A→∃y,w.cell? ⟨b,o+j,none⟩=some y∧y.oneCell'=true∧A.p N w y,
 fun h1 h2 h3 ⟨b,o,e,hb,hn,h⟩=>⟨b,o,e,ab,fun x=>hn (h3 b hb x),fun j A hj=>let⟨y,g1,g2,g3⟩:=h j A hj;⟨y,by rw[rp (h2 b hb hn)];exact g1,g2,A.mono h1 h2 h3 g3⟩⟩⟩
inductive Cnt where
 | any
 | per (A:PV)
 | bor (k:Nat) (es:List (List PV))
 | bpt (cs:List PV)
 | row (id vr:Nat)
 | ptr (id vr off:Nat)
 | ept (id vr k i j:Nat)
 | vw (id vr k lo len:Nat)
 | grd (g:Bool) (c:Cnt)
 | tup2 (c d:Cnt)
 | tup3 (c d e:Cnt)
 | clo1 (f:FuncId) (c:Cnt)
 | clo2 (f:FuncId) (c d:Cnt)
 | clo3 (f:FuncId) (c d e:Cnt)
 | aggN
 | aggK (c r:Cnt)
abbrev iC (k:IntKind)(n:Int):Cnt:=.per (ak (.int k n))
abbrev bC (b:Bool):Cnt:=.per (ak (.bool b))
abbrev sC (s:ByteArray):Cnt:=.per (ak (.string s))
structure OV where
 p:BP→BP→World→Value→Prop
 mono:∀{F F' N N':BP} {w w':World} {v:Value},(∀b,F b→F' b)→(∀b,F b→b<w.heap.size)→w.heap.size≤w'.heap.size→(∀b,b<w.heap.size→F b→w'.heap[b]?=w.heap[b]?) →
  (∀b,b<w.heap.size→¬N b→w'.heap[b]?=w.heap[b]?)→(∀b,b<w.heap.size→N' b→N b)→p F N w v→p F' N' w' v
 one:∀{F N:BP} {w:World} {v:Value},p F N w v→v.oneCell'=true∧v.cells=#[v]
inductive Blk where
 | none
 | box (e:TypeId) (cells:List Cnt)
 | row (e k:Nat) (es:List (List PV))
 | mix (e:Nat) (es:List PV) (c:Cnt)
 | obj (A:OV)
structure St where
 get:Nat→Cnt
 blk:Nat→Blk
 ver:Nat→Nat
structure Gh where
 ow:Nat→Option Nat
 ph:Nat→Nat
 rh:Nat→Value
structure Ctx where
 W0:World
 N0:BP
 L:BP
 G0:Gh
def fq (i:Nat):Bool:=Nat.ble 1000 i&&Nat.blt i 2000
theorem Ke {i:Nat}(h:i<1000):fq i=false:=by
 unfold fq
 rw[Bool.and_eq_false_iff]
 refine .inl ?_
 cases hb:Nat.ble 1000 i
 ·rfl
 ·have:=Wc hb;omega
def Gh.M (g:Gh):BP:=fun b=>g.ow b≠none
def Gh.N (g:Gh)(C:Ctx):BP:=fun b=>C.N0 b∨g.ow b≠none
def crep (C:Ctx)(vr:Nat→Nat)(g:Gh)(w:World)(v:Value):Cnt→Prop
 | .any=>True
 | .per A=>A.p (g.N C) w v
 | .bor k es=>eH g.M (g.N C) k es w v
 | .bpt cs=>∃b o,v=.pointer (some ⟨b,o,none⟩)∧b<w.heap.size∧¬g.M b∧∀(j:Nat)(A:PV),cs[j]?=some A→∃y,w.cell? ⟨b,o+j,none⟩=some y∧y.oneCell'=true∧A.p (g.N C) w y
 | .row id r=>r≤vr id∧(r=vr id→v=g.rh id)
 | .ptr id r off=>r≤vr id∧(r=vr id→v=.pointer (some ⟨g.ph id,off,none⟩))
 | .ept id r k i j=>r≤vr id∧(r=vr id→v=.pointer (some ⟨g.ph id,i*k+j,none⟩))
 | .vw id r k lo len=>r≤vr id∧(r=vr id→∃c,v=.slice (some ⟨g.ph id,lo*k,none⟩) len c∧len≤c)
 | .grd b c=>b=true→crep C vr g w v c
 | .tup2 c d=>∃x y,v=.tuple #[x,y]∧crep C vr g w x c∧crep C vr g w y d
 | .tup3 c d e=>∃x y z,v=.tuple #[x,y,z]∧crep C vr g w x c∧crep C vr g w y d∧crep C vr g w z e
 | .aggN=>v=.agg #[]
 | .aggK c r=>∃(x:Value)(vs:List Value),v=.agg (x::vs).toArray∧x.oneCell'=true∧crep C vr g w x c∧crep C vr g w (.agg vs.toArray) r
 | .clo1 f c=>∃x,v=.func (.func f) #[] #[x]∧crep C vr g w x c
 | .clo2 f c d=>∃x y,v=.func (.func f) #[] #[x,y]∧crep C vr g w x c∧crep C vr g w y d
 | .clo3 f c d e=>∃x y z,v=.func (.func f) #[] #[x,y,z]∧crep C vr g w x c∧crep C vr g w y d∧crep C vr g w z e
def brep (C:Ctx)(vr:Nat→Nat)(g:Gh)(w:World)(id:Nat):Blk→Prop
 | .none=>True
 | .box e cells=>∃cs:Array Value,w.heap[g.ph id]?=some (.cells cs e (0,0))∧g.ow (g.ph id)=some id∧cs.size=cells.length ∧
  ∀(j:Nat)(c:Cnt),cells[j]?=some c→∃y,cs[j]?=some y∧y.oneCell'=true∧crep C vr g w y c
 | .row e k es=>(g.rh id=.slice none 0 0∧es=[])∨∃(cap:Nat)(cs:Array Value),g.rh id=.slice (some ⟨g.ph id,0,none⟩) es.length cap ∧
  w.heap[g.ph id]?=some (.cells cs e (0,0))∧g.ow (g.ph id)=some id∧es.length≤cap∧cap≤maxLen∧cs.size=cap*k ∧
  ∀(i:Nat)(ps:List PV),es[i]?=some ps→ps.length=k∧∀(j:Nat)(A:PV),ps[j]?=some A→∃y,cs[i*k+j]?=some y∧y.oneCell'=true∧A.p (g.N C) w y
 | .mix e es c=>∃(cap:Nat)(cs:Array Value),g.rh id=.slice (some ⟨g.ph id,0,none⟩) (es.length+1) cap ∧
  w.heap[g.ph id]?=some (.cells cs e (0,0))∧g.ow (g.ph id)=some id∧es.length+1≤cap∧cap≤maxLen∧cs.size=cap ∧
  (∀(i:Nat)(A:PV),es[i]?=some A→∃y,cs[i]?=some y∧y.oneCell'=true∧A.p (g.N C) w y)∧∃y,cs[es.length]?=some y∧y.oneCell'=true∧crep C vr g w y c
 | .obj A=>A.p (fun b=>g.ow b=some id) (g.N C) w (g.rh id)
structure RG (C:Ctx)(n:Nat)(S:St)(g:Gh)(a:Act)(w:World):Prop where
 defers:a.defers=[]
 tsz:a.tmps.size=n
 nle:n≤1000
 keep:∀id,fq id=true→g.ph id=C.G0.ph id∧g.rh id=C.G0.rh id
 os:w.os=C.W0.os
 tape:w.tape=C.W0.tape
 output:w.output=C.W0.output
 size:C.W0.heap.size≤w.heap.size
 old:∀b,b<C.W0.heap.size→¬C.L b→w.heap[b]?=C.W0.heap[b]?
 n0:∀b,C.N0 b→b<C.W0.heap.size
 n0l:∀b,C.N0 b→¬C.L b
 dom:∀b id,g.ow b=some id→b<w.heap.size∧(C.W0.heap.size≤b∨C.L b)
 slots:∀t,crep C S.ver g w (a.tmps.getD t undef) (S.get t)
 blks:∀id,brep C S.ver g w id (S.blk id)
def R (C:Ctx)(n:Nat)(S:St)(a:Act)(w:World):Prop:=∃g,RG C n S g a w
structure pa (C:Ctx)(I:Nat→Prop)(vr vr':Nat→Nat)(g g':Gh)(w w':World):Prop where
 sz:w.heap.size≤w'.heap.size
 heap:∀b,b<w.heap.size→(∀i,I i→g.ow b≠some i)→w'.heap[b]?=w.heap[b]?
 ow:∀b,b<w.heap.size→(∀i,I i→g.ow b≠some i)→g'.ow b=g.ow b
 ow':∀b,b<w.heap.size→g'.ow b≠none→g.ow b≠none
 dom:∀b id,g'.ow b=some id→b<w'.heap.size∧(C.W0.heap.size≤b∨C.L b)
 ver:∀id,vr' id=vr id∨(I id∧vr id<vr' id)
 gh:∀id,vr' id=vr id→g'.ph id=g.ph id∧g'.rh id=g.rh id
 fix:∀id,fq id=true→g'.ph id=g.ph id∧g'.rh id=g.rh id
 os:w'.os=w.os
 tape:w'.tape=w.tape
 output:w'.output=w.output
section
variable {C:Ctx} {I:Nat→Prop} {vr vr':Nat→Nat} {g g':Gh} {w w':World}
theorem pa.n (h:pa C I vr vr' g g' w w'):∀b,b<w.heap.size→g'.N C b→g.N C b:=fun b hb hn=>by
 rcases hn with hn|hn
 ·exact .inl hn
 ·exact .inr (h.ow' b hb hn)
theorem pa.keep (h:pa C I vr vr' g g' w w'):∀b,b<w.heap.size→¬g.M b→w'.heap[b]?=w.heap[b]?:=fun b hb hn=>
 h.heap b hb (fun i _ e=>hn (by unfold Gh.M;rw[e];simp))
theorem pa.keepN (h:pa C I vr vr' g g' w w'):∀b,b<w.heap.size→¬g.N C b→w'.heap[b]?=w.heap[b]?:=fun b hb hn=>
 h.keep b hb (fun e=>hn (.inr e))
theorem pa.crep (h:pa C I vr vr' g g' w w'):∀{c:Cnt} {v:Value},crep C vr g w v c→crep C vr' g' w' v c:=by
 intro c
 induction c with
 | any=>intro v _;trivial
 | per A=>intro v hc;exact A.mono h.sz h.keepN h.n hc
 | bor k es=>intro v hc;exact eH.mono h.sz h.keep h.keepN h.ow' h.n hc
 | bpt cs=>
  rintro v ⟨b,o,e,hb,hn,hc⟩
  refine⟨b,o,e,by have:=h.sz;omega,fun x=>hn (h.ow' b hb x),fun j A hj=>?_⟩
  obtain⟨y,g1,g2,g3⟩:=hc j A hj
  exact⟨y,by rw[rp (h.keep b hb hn)];exact g1,g2,A.mono h.sz h.keepN h.n g3⟩
 | row id r=>
  rintro v ⟨h1,h2⟩
  rcases h.ver id with e|⟨_,e⟩
  ·exact⟨ab,fun e'=>by rw[(h.gh id e).2];exact h2 ab⟩
  ·exact⟨ab,fun e'=>ab⟩
 | ptr id r off=>
  rintro v ⟨h1,h2⟩
  rcases h.ver id with e|⟨_,e⟩
  ·exact⟨ab,fun e'=>by rw[(h.gh id e).1];exact h2 ab⟩
  ·exact⟨ab,fun e'=>ab⟩
 | ept id r k i j=>
  rintro v ⟨h1,h2⟩
  rcases h.ver id with e|⟨_,e⟩
  ·exact⟨ab,fun e'=>by rw[(h.gh id e).1];exact h2 ab⟩
  ·exact⟨ab,fun e'=>ab⟩
 | vw id r k lo len=>
  rintro v ⟨h1,h2⟩
  rcases h.ver id with e|⟨_,e⟩
  ·exact⟨ab,fun e'=>by rw[(h.gh id e).1];exact h2 ab⟩
  ·exact⟨ab,fun e'=>ab⟩
 | grd b c ih=>intro v hc hb;exact ih (hc hb)
 | tup2 c d ih1 ih2=>rintro v ⟨x,y,e,h1,h2⟩;exact⟨x,y,e,ih1 h1,ih2 h2⟩
 | tup3 c d e ih1 ih2 ih3=>rintro v ⟨x,y,z,e,h1,h2,h3⟩;exact⟨x,y,z,e,ih1 h1,ih2 h2,ih3 h3⟩
 | clo1 f c ih=>rintro v ⟨x,e,h1⟩;exact⟨x,e,ih h1⟩
 | clo2 f c d ih1 ih2=>rintro v ⟨x,y,e,h1,h2⟩;exact⟨x,y,e,ih1 h1,ih2 h2⟩
 | clo3 f c d e ih1 ih2 ih3=>rintro v ⟨x,y,z,e,h1,h2,h3⟩;exact⟨x,y,z,e,ih1 h1,ih2 h2,ih3 h3⟩
 | aggN=>exact fun h=>h
 | aggK c r ih1 ih2=>rintro v ⟨x,vs,e,o,h1,h2⟩;exact⟨x,vs,e,o,ih1 h1,ih2 h2⟩
theorem pa.cong {I':Nat→Prop}(h:pa C I vr vr' g g' w w')(hi:∀i,I i→I' i):pa C I' vr vr' g g' w w':=
 ⟨h.sz,fun b hb hn=>h.heap b hb (fun i hI=>hn i (hi i hI)),fun b hb hn=>h.ow b hb (fun i hI=>hn i (hi i hI)),h.ow',h.dom,fun id=>(h.ver id).imp (fun q=>q) (fun q=>⟨hi _ q.1,q.2⟩),h.gh,h.fix,h.os,h.tape,h.output⟩
theorem pa.brep (h:pa C I vr vr' g g' w w')(hdom:∀b id,g.ow b=some id→b<w.heap.size)(hid:¬I id):∀{B:Blk},brep C vr g w id B→brep C vr' g' w' id B:=by
 have hv:vr' id=vr id:=by
  rcases h.ver id with e|⟨e,_⟩
  ·exact e
  ·exact absurd e hid
 obtain⟨hph,hrh⟩:=h.gh id hv
 have hne:∀{b:Nat},g.ow b=some id→∀i,I i→g.ow b≠some i:=fun e i hi e'=>by
  rw[e]at e';cases e';exact hid hi
 intro B
 cases B with
 | none=>intro _;trivial
 | box e cells=>
  rintro⟨cs,h1,h2,h3,h4⟩
  have hb:=hdom _ _ h2
  refine⟨cs,by rw[hph,h.heap _ hb (hne h2)];exact h1,by rw[hph,h.ow _ hb (hne h2)];exact h2,h3,fun j c hj=>?_⟩
  obtain⟨y,g1,g2,g3⟩:=h4 j c hj
  exact⟨y,g1,g2,h.crep g3⟩
 | row e k es=>
  rintro(⟨h1,h2⟩|⟨cap,cs,h1,h2,h3,h4,h5,h6,h7⟩)
  ·exact .inl ⟨by rw[hrh];exact h1,h2⟩
  ·have hb:=hdom _ _ h3
   refine .inr ⟨cap,cs,by rw[hrh,hph];exact h1,by rw[hph,h.heap _ hb (hne h3)];exact h2,by rw[hph,h.ow _ hb (hne h3)];exact h3,h4,h5,h6,fun i ps hi=>?_⟩
   obtain⟨g1,g2⟩:=h7 i ps hi
   refine⟨g1,fun j A hj=>?_⟩
   obtain⟨y,q1,q2,q3⟩:=g2 j A hj
   exact⟨y,q1,q2,A.mono h.sz h.keepN h.n q3⟩
 | mix e es c=>
  rintro⟨cap,cs,h1,h2,h3,h4,h5,h6,h7,y,q1,q2,q3⟩
  have hb:=hdom _ _ h3
  refine⟨cap,cs,by rw[hrh,hph];exact h1,by rw[hph,h.heap _ hb (hne h3)];exact h2,by rw[hph,h.ow _ hb (hne h3)];exact h3,h4,h5,h6,fun i A hi=>?_,y,q1,q2,h.crep q3⟩
  obtain⟨y,r1,r2,r3⟩:=h7 i A hi
  exact⟨y,r1,r2,A.mono h.sz h.keepN h.n r3⟩
 | obj A=>
  intro hA
  show A.p (fun b=>g'.ow b=some id) (g'.N C) w' (g'.rh id)
  rw[hrh]
  exact A.mono (F:=fun b=>g.ow b=some id) (fun b e=>by rw[h.ow b (hdom b id e) (hne e)];exact e) (fun b e=>hdom b id e) h.sz (fun b hb e=>h.heap b hb (hne e)) h.keepN h.n hA
end
def St.put (S:St)(d:Option Nat)(c:Cnt):St:=match d with
 | none=>S
 | some d=>{ S with get:=fun t=>bif Nat.beq t d then c else S.get t }
abbrev Upd:=List (Nat×Nat×Blk)
def St.putB (S:St):Upd→St
 | []=>S
 | (id,v,B)::r=>{ S.putB r with blk:=fun i=>bif Nat.beq i id then B else(S.putB r).blk i,ver:=fun i=>bif Nat.beq i id then v else(S.putB r).ver i }
def ub:Upd→Nat→Option (Nat×Blk)
 | [],_=>none
 | (id,v,B)::r,i=>bif Nat.beq i id then some (v,B)else ub r i
abbrev St.app (S:St)(d:Option Nat)(c:Cnt)(b:Upd):St:=(S.put d c).putB b
theorem bq {a b:Nat}:Nat.beq a b=true↔a=b:=⟨Nat.eq_of_beq_eq_true,fun h=>by subst h;exact Nat.beq_refl a⟩
theorem gB {a b:Nat}(h:a≠b):Nat.beq a b=false:=by
 cases hb:Nat.beq a b
 ·rfl
 ·exact absurd (bq.1 hb) h
theorem St.put_get (S:St)(d:Nat)(c:Cnt)(t:Nat):(S.put (some d) c).get t=if t=d then c else S.get t:=by
 by_cases h:t=d
 ·simp[St.put,h]
 ·simp[St.put,h,gB h]
theorem St.putB_get (S:St)(bs:Upd)(t:Nat):(S.putB bs).get t=S.get t:=by
 induction bs with
 | nil=>rfl
 | cons x r ih=>exact ih
theorem St.putB_bv (S:St)(bs:Upd)(i:Nat):(S.putB bs).blk i=((ub bs i).map (·.2)).getD (S.blk i)∧(S.putB bs).ver i=((ub bs i).map (·.1)).getD (S.ver i):=by
 induction bs with
 | nil=>exact⟨rfl,rfl⟩
 | cons x r ih=>
  obtain⟨id,v,B⟩:=x
  simp only[St.putB,ub]
  cases hb:Nat.beq i id with
  | true=>exact⟨rfl,rfl⟩
  | false=>exact ih
theorem St.app_get (S:St)(d:Option Nat)(c:Cnt)(b:Upd)(t:Nat):(S.app d c b).get t=(S.put d c).get t:=St.putB_get _ _ _
theorem St.put_blk (S:St)(d:Option Nat)(c:Cnt):(S.put d c).blk=S.blk:=by cases d<;>rfl
theorem St.put_ver (S:St)(d:Option Nat)(c:Cnt):(S.put d c).ver=S.ver:=by cases d<;>rfl
theorem St.app_blk (S:St)(d:Option Nat)(c:Cnt)(b:Upd)(i:Nat):(S.app d c b).blk i=((ub b i).map (·.2)).getD (S.blk i):=by
 unfold St.app;rw[(St.putB_bv _ _ _).1,St.put_blk]
theorem St.app_ver (S:St)(d:Option Nat)(c:Cnt)(b:Upd)(i:Nat):(S.app d c b).ver i=((ub b i).map (·.1)).getD (S.ver i):=by
 unfold St.app;rw[(St.putB_bv _ _ _).2,St.put_ver]
theorem pB (id v:Nat)(B:Blk)(i:Nat):ub [(id,v,B)] i=if i=id then some (v,B)else none:=by
 by_cases h:i=id
 ·simp[ub,h]
 ·simp[ub,h,gB h]
theorem St.putB_blk (S:St)(id v:Nat)(B:Blk)(i:Nat):(S.putB [(id,v,B)]).blk i=if i=id then B else S.blk i:=by
 rw[(St.putB_bv _ _ _).1,pB];split<;>rfl
theorem St.putB_ver (S:St)(id v:Nat)(B:Blk)(i:Nat):(S.putB [(id,v,B)]).ver i=if i=id then v else S.ver i:=by
 rw[(St.putB_bv _ _ _).2,pB];split<;>rfl
theorem St.app_none_blk (S:St)(d:Option Nat)(c:Cnt):(S.app d c []).blk=S.blk:=St.put_blk S d c
theorem St.app_none_ver (S:St)(d:Option Nat)(c:Cnt):(S.app d c []).ver=S.ver:=St.put_ver S d c
theorem St.app_some_blk (S:St)(d:Option Nat)(c:Cnt)(id v:Nat)(B:Blk)(i:Nat):(S.app d c [(id,v,B)]).blk i=if i=id then B else S.blk i:=by
 unfold St.app;rw[St.putB_blk,St.put_blk]
theorem St.app_some_ver (S:St)(d:Option Nat)(c:Cnt)(id v:Nat)(B:Blk)(i:Nat):(S.app d c [(id,v,B)]).ver i=if i=id then v else S.ver i:=by
 unfold St.app;rw[St.putB_ver,St.put_ver]
theorem Kf (a:Act)(d:Nat)(v:Value)(t:Nat)(hd:d<a.tmps.size):(a.put (some d) v).tmps.getD t undef=if t=d then v else a.tmps.getD t undef:=by
 by_cases h:t=d
 ·subst h;simp[Act.put,Array.getD,hd]
 ·simp[Act.put,Array.getElem?_setIfInBounds_ne (XJ h),h]
def dOk (n:Nat)(d:Option Nat):Prop:=∀t,d=some t→t<n
theorem wR {C:Ctx}{vr:Nat→Nat}{g:Gh}{w:World}{S:St}{n:Nat}{c:Cnt}(hsz:a.tmps.size=n)(hd:dOk n d)
 (hs:∀t,crep C vr g w (a.tmps.getD t undef) (S.get t)) (hc:crep C vr g w v c):∀t,crep C vr g w ((a.put d v).tmps.getD t undef) ((S.put d c).get t):=by
 intro t
 cases d with
 | none=>exact hs t
 | some d=>
  rw[Kf a d v t (by rw[hsz];exact hd d rfl),St.put_get]
  split
  ·exact hc
  ·exact hs t
theorem Aw (a:Act)(d:Option Nat)(v:Value):(a.put d v).tmps.size=a.tmps.size:=by cases d<;>simp[Act.put]
theorem tX (a:Act)(d:Option Nat)(v:Value):(a.put d v).defers=a.defers:=by cases d<;>rfl
theorem RG.app0 {C:Ctx}{n:Nat}{S:St}{g:Gh}{w w':World}(h:RG C n S g a w)(hx:eX w w')(hd:dOk n d){c:Cnt} 
 (hc:crep C S.ver g w' v c):RG C n (S.app d c []) g (a.put d v) w':=by
 have hst:pa C (fun _=>False) S.ver S.ver g g w w':=⟨hx.size,fun b hb _=>hx.block b hb,fun _ _ _=>rfl,fun _ _ h=>h,fun b id e=>⟨WY (h.dom b id e).1 hx.size,(h.dom b id e).2⟩,
  fun _=>.inl rfl,fun _ _=>⟨rfl,rfl⟩,fun _ _=>⟨rfl,rfl⟩,hx.os,hx.tape,hx.output⟩
 refine⟨by rw[tX];exact h.defers,by rw[Aw];exact h.tsz,h.nle,h.keep,hx.os.trans h.os,hx.tape.trans h.tape,hx.output.trans h.output,W7 h.size hx.size,
  fun b hb hl=>(hx.block b (WY hb h.size)).trans (h.old b hb hl),h.n0,h.n0l,hst.dom,fun t=>?_,fun id=>?_⟩
 ·rw[St.app_none_ver,St.app_get]
  exact wR h.tsz hd (fun t=>hst.crep (h.slots t)) hc t
 ·rw[St.app_none_ver,St.app_none_blk]
  exact hst.brep (fun b id e=>(h.dom b id e).1) (fun h=>h) (h.blks id)
theorem RG.appL {C:Ctx}{n:Nat}{S:St}{g g':Gh}{w w':World}(h:RG C n S g a w){bs:Upd}(hd:dOk n d){c:Cnt} 
 (hst:pa C (fun i=>ub bs i≠none) S.ver (S.app d c bs).ver g g' w w')
 (hc:crep C (S.app d c bs).ver g' w' v c) (hb:∀i v B,ub bs i=some (v,B)→brep C (S.app d c bs).ver g' w' i B):RG C n (S.app d c bs) g' (a.put d v) w':=by
 refine⟨by rw[tX];exact h.defers,by rw[Aw];exact h.tsz,h.nle,fun id hf=>?_,hst.os.trans h.os,hst.tape.trans h.tape,hst.output.trans h.output,W7 h.size hst.sz,
  fun b hb' hl=>?_,h.n0,h.n0l,hst.dom,fun t=>?_,fun id=>?_⟩
 ·exact⟨(hst.fix id hf).1.trans (h.keep id hf).1,(hst.fix id hf).2.trans (h.keep id hf).2⟩
 ·have hlt:=WY hb' h.size
  rw[hst.heap b hlt (fun i _ e=>by
   rcases(h.dom b i e).2 with q|q
   ·omega
   ·exact hl q)]
  exact h.old b hb' hl
 ·rw[St.app_get]
  exact wR h.tsz hd (fun t=>hst.crep (h.slots t)) hc t
 ·rw[St.app_blk]
  cases hu:ub bs id with
  | some x=>exact hb id x.1 x.2 hu
  | none=>exact hst.brep (fun b id e=>(h.dom b id e).1) (fun hn=>hn hu) (h.blks id)
theorem RG.app1 {C:Ctx}{n:Nat}{S:St}{g g':Gh}{w w':World}(h:RG C n S g a w){i0 vr:Nat}{B:Blk}(hd:dOk n d){c:Cnt} 
 (hst:pa C (fun i=>i=i0) S.ver (S.app d c [(i0,vr,B)]).ver g g' w w')
 (hc:crep C (S.app d c [(i0,vr,B)]).ver g' w' v c) (hb:brep C (S.app d c [(i0,vr,B)]).ver g' w' i0 B):RG C n (S.app d c [(i0,vr,B)]) g' (a.put d v) w':=by
 refine h.appL hd (hst.cong (fun i hi=>by rw[pB,V6 hi];simp)) hc (fun i v B' hu=>?_)
 rw[pB]at hu
 split at hu
 ·rename_i e;cases hu;subst e;exact hb
 ·cases hu
def dV (F:List Nat)(T S:St):Prop:=(∀t,2*t∈F→T.get t=S.get t)∧(∀id,2*id+1∈F→T.blk id=S.blk id∧T.ver id=S.ver id)
theorem dV.refl (F:List Nat)(S:St):dV F S S:=⟨fun _ _=>rfl,fun _ _=>⟨rfl,rfl⟩⟩
def iM (P:Program)(ops:Array Oper)(o:Oper)(a:Act)(w:World)(K:Act→World→Prop):Prop:=
 if Region.wanted o (yielded ops a.tmps)=true then o.wp P a w K (fun _ _ _=>False)else K (a.put o.dst undef) w
structure aw (n:Nat)(P:Program)(ops:Array Oper)(o:Oper)(F:List Nat)(c:Cnt)(b:Upd)(S:St):Prop where
 run:∀(C:Ctx)(T:St),dV F T S→∀a w,R C n T a w→iM P ops o a w (R C n (T.app o.dst c b))
theorem Oper.wp_monoQ {P:Program}{o:Oper}{w:World}{K K':Act→World→Prop}{Q Q':Exit→Act→World→Prop}(hK:∀a w,K a w→K' a w)(hQ:∀e a w,Q e a w→Q' e a w)
 (h:o.wp P a w K Q):o.wp P a w K' Q':=by
 unfold Oper.wp at *
 generalize (execOp a.eval o).run P w=r at *
 cases r with
 | ok x w'=>
  cases x<;>simp only[Oper.upon]at h ⊢ <;>
   first
    | exact hK _ _ h
    | exact Calls.mono h (fun e w'' he=>by cases e<;>first|exact hK _ _ he|exact hQ _ _ _ he|(obtain⟨a0,w0,hq⟩:=he;exact⟨a0,w0,hQ _ _ _ hq⟩))
    | exact Rows.mono h (fun _ _ he=>hK _ _ he)
 | halt x w'=>cases x<;>simp only[Oper.upon]at h ⊢<;>first|exact hQ _ _ _ h|exact h
structure AL (P:Program)(n:Nat)(ops:Array Oper)(Q:St→Prop)(l:List Oper)(S:St):Prop where
 run:∀(C:Ctx) a w,R C n S a w→wpList P ops (fun e a w=>e=.normal∧∃S',Q S'∧R C n S' a w) l a w
theorem ci {P:Program}{n:Nat}{ops:Array Oper}{Q:St→Prop}{S:St}(h:Q S):AL P n ops Q [] S:=⟨fun _ _ _ hr=>⟨rfl,S,h,hr⟩⟩
theorem FT {P:Program}{n:Nat}{ops:Array Oper}{Q:St→Prop}{l:List Oper}{S:St}{o:Oper}{F:List Nat}{c:Cnt}{b:Upd}
 (h:aw n P ops o F c b S) (k:AL P n ops Q l (S.app o.dst c b)):AL P n ops Q (o::l) S:=by
 refine⟨?_⟩
 intro C a w hr
 have h1:=h.run C S (dV.refl F S) a w hr
 unfold wpList
 unfold iM at h1
 split
 ·rename_i hw
  rw[V6 hw]at h1
  exact .inl (Oper.wp_monoQ (fun a w h=>k.run C a w h) (fun _ _ _ h=>h.elim) h1)
 ·rename_i hw
  rw[V3 hw]at h1
  exact k.run C _ _ h1
structure p9 where
 F:List Nat
 d:Option Nat
 c:Cnt
 b:Upd
def Kg (d:Option Nat)(b:Upd):List Nat:=(match d with|none=>[]|some d=>[2*d])++b.map fun x=>2*x.1+1
def Hp (xs ys:List Nat):Bool:=xs.any fun x=>ys.any fun y=>Nat.beq x y
theorem FV {xs ys:List Nat}{x:Nat}(h1:x∈xs)(h2:x∈ys):Hp xs ys=true:=by
 unfold Hp
 exact Xc.2 ⟨x,h1,Xc.2 ⟨x,h2,Nat.beq_refl x⟩⟩
def wt (r s:List Nat×List Nat):Bool:=Hp r.2 (s.1++s.2)||Hp r.1 s.2
inductive TR (n:Nat)(P:Program)(ops:Array Oper):List Oper→St→List p9→Prop
 | nil {S:St}:TR n P ops [] S []
 | cons {o:Oper} {l:List Oper} {S:St} {F:List Nat} {c:Cnt} {b:Upd} {rs:List p9} (h:aw n P ops o F c b S) (t:TR n P ops l (S.app o.dst c b) rs) :
  TR n P ops (o::l) S (⟨F,o.dst,c,b⟩::rs)
def yJ (S:St)(rs:List p9):St:=rs.foldl (fun S r=>S.app r.d r.c r.b) S
def nh (acc:List Nat):List Edge→Nat
 | []=>0
 | e::l=>(if Region.binds .any e then 2 ^ e.on ||| acc.getD e.on 0 else 0) ||| nh acc l
def Ax:List Oper→List Nat→List Nat
 | [],acc=>acc
 | o::l,acc=>Ax l (acc++[nh acc o.after.toList])
def yK (m:Nat)(s:List Nat×List Nat):Nat→List (List Nat×List Nat)→Bool
 | _,[]=>true
 | i,r::l=>(!wt r s||m.testBit i)&&yK m s (i+1) l
def yL (ms:List Nat):List (List Nat×List Nat)→List (List Nat×List Nat)→Nat→Bool
 | _,[],_=>true
 | prev,s::l,j=>yK (ms.getD j 0) s 0 prev&&yL ms (prev++[s]) l (j+1)
def tf:Nat→List Oper→Bool
 | _,[]=>true
 | i,o::l=>o.after.toList.all (fun e=>!Region.binds .any e||Nat.blt e.on i)&&tf (i+1) l
def UW (l:List Oper)(fs:List (List Nat×List Nat)):Bool:=tf 0 l&&yL (Ax l []) [] fs 0
theorem Ay {m:Nat}{s:List Nat×List Nat}:∀{l:List (List Nat×List Nat)} {i:Nat},yK m s i l=true→∀k r,l[k]?=some r→wt r s=true→m.testBit (i+k)=true:=by
 intro l
 induction l with
 | nil=>intro i _ k r hk;simp at hk
 | cons x l ih=>
  intro i h k r hk hc
  simp only[yK,Wi,WN,Xp]at h
  cases k with
  | zero=>
   simp at hk;subst hk
   rcases h.1 with q|q
   ·rw[hc]at q;cases q
   ·exact q
  | succ k=>
   simp at hk
   have:=ih h.2 k r hk hc
   rw[show i+(k+1)=i+1+k by omega];exact this
theorem Az {ms:List Nat}:∀{l prev:List (List Nat×List Nat)} {j:Nat},yL ms prev l j=true→prev.length=j →
 ∀i k r s,(prev++l)[i]?=some r→(prev++l)[k]?=some s→i<k→j≤k→wt r s=true→(ms.getD k 0).testBit i=true:=by
 intro l
 induction l with
 | nil=>
  intro prev j _ hp i k r s _ hk _ hjk
  rw[Wg,Wq ab]at hk;cases hk
 | cons x l ih=>
  intro prev j h hp i k r s hi hk hik hjk hc
  simp only[yL,Wi]at h
  rcases Wm j k with hlt|hge
  ·refine ih h.2 (by simp[hp]) i k r s ?_ ?_ hik hlt hc
   ·rw[V9];exact hi
   ·rw[V9];exact hk
  ·obtain rfl:k=j:=ab
   rw[List.getElem?_append_right ab,hp,XB]at hk
   simp at hk;subst hk
   rw[Wl ab]at hi
   have:=Ay h.1 i r hi hc
   simpa using this
theorem yN:∀{l:List Oper} {i:Nat},tf i l=true→∀k o,l[k]?=some o→∀e∈o.after,Region.binds .any e=true→e.on<i+k:=by
 intro l
 induction l with
 | nil=>intro i _ k o hk;simp at hk
 | cons x l ih=>
  intro i h k o hk e he hb
  simp only[tf,Wi,WJ]at h
  cases k with
  | zero=>
   simp at hk;subst hk
   have:=h.1 e (by simpa using he)
   simp only[hb,Xz,Xo]at this
   exact Wc this
  | succ k=>
   simp at hk
   have:=ih h.2 k o hk e he hb
   omega
theorem wu {acc:List Nat}{i:Nat}:∀{l:List Edge},(nh acc l).testBit i=true→∃e∈l,Region.binds .any e=true∧(i=e.on∨(acc.getD e.on 0).testBit i=true):=by
 intro l
 induction l with
 | nil=>intro h;simp[nh]at h
 | cons e l ih=>
  intro h
  simp only[nh,Nat.testBit_or,WN]at h
  rcases h with h|h
  ·split at h
   ·rename_i hb
    rw[Nat.testBit_or,WN]at h
    refine⟨e,au,hb,?_⟩
    rcases h with h|h
    ·rw[Nat.testBit_two_pow]at h;exact .inl (of_decide_eq_true h).symm
    ·exact .inr h
   ·simp at h
  ·obtain⟨e',h1,h2⟩:=ih h
   exact⟨e',by simp[h1],h2⟩
theorem DD {E:Nat→Prop}:∀{l:List Oper} {acc:List Nat},(∀k o,l[k]?=some o→E (acc.length+k)→∀e∈o.after,Region.binds .any e=true→E e.on) →
 (∀j i,(acc.getD j 0).testBit i=true→E j→E i)→∀j i,((Ax l acc).getD j 0).testBit i=true→E j→E i:=by
 intro l
 induction l with
 | nil=>intro acc _ h;exact h
 | cons o l ih=>
  intro acc hc h
  refine ih (fun k o' hk hE=>?_) (fun j i hb hE=>?_)
  ·rw[V5,List.length_singleton,Nat.add_assoc,Nat.add_comm 1 k]at hE
   exact hc (k+1) o' (by simpa using hk) hE
  ·rcases XA j acc.length with hj|hj|hj
   ·refine h j i ?_ hE
    rw[Xg,Wl hj]at hb
    rw[Xg];exact hb
   ·subst hj
    rw[Xg,List.getElem?_append_right (V8 _)]at hb
    simp at hb
    obtain⟨e,he,h2,h3⟩:=wu hb
    have hEe:=hc 0 o au (by simpa using hE) e (by simpa using he) h2
    rcases h3 with rfl|h3
    ·exact hEe
    ·exact h e.on i h3 hEe
   ·rw[Xg,Wq bn]at hb
    simp at hb
def mr (E:Nat→Bool):Nat→St→List p9→St
 | _,S,[]=>S
 | i,S,r::l=>mr E (i+1) (if E i then S.app r.d r.c r.b else S) l
def ni (E:Nat→Bool)(t:Nat):Nat→List p9→Option Cnt
 | _,[]=>none
 | i,r::l=>match ni E t (i+1) l with
  | some c=>some c
  | none=>if E i=true∧r.d=some t then some r.c else none
def kY (E:Nat→Bool)(id:Nat):Nat→List p9→Option (Nat×Blk)
 | _,[]=>none
 | i,r::l=>match kY E id (i+1) l with
  | some c=>some c
  | none=>if E i=true then ub r.b id else none
theorem nj (E:Nat→Bool)(t:Nat):∀(l:List p9)(i:Nat)(S:St),(mr E i S l).get t=(ni E t i l).getD (S.get t):=by
 intro l
 induction l with
 | nil=>intro i S;rfl
 | cons r l ih=>
  intro i S
  simp only[mr,ni]
  rw[ih]
  cases ni E t (i+1) l with
  | some c=>rfl
  | none=>
   simp only[Option.getD_none]
   by_cases hE:E i=true
   ·simp only[hE,Xq,true_and]
    rw[St.app_get]
    cases hd:r.d with
    | none=>simp[St.put]
    | some d=>
     rw[St.put_get]
     by_cases h:t=d
     ·subst h;simp
     ·simp[h,XJ h]
   ·simp[hE]
theorem jJ (E:Nat→Bool)(id:Nat):∀(l:List p9)(i:Nat)(S:St),(mr E i S l).blk id=((kY E id i l).map (·.2)).getD (S.blk id)∧(mr E i S l).ver id=((kY E id i l).map (·.1)).getD (S.ver id):=by
 intro l
 induction l with
 | nil=>intro i S;exact⟨rfl,rfl⟩
 | cons r l ih=>
  intro i S
  simp only[mr,kY]
  rw[(ih _ _).1,(ih _ _).2]
  cases kY E id (i+1) l with
  | some c=>exact⟨rfl,rfl⟩
  | none=>
   simp only[W8,Option.getD_none]
   by_cases hE:E i=true
   ·simp only[hE,Xq]
    exact⟨St.app_blk _ _ _ _ _,St.app_ver _ _ _ _ _⟩
   ·simp[hE]
theorem nk {E':Nat→Bool}:∀{l:List p9} {i:Nat},(∀k r,l[k]?=some r→r.d=some t→E (i+k)=E' (i+k))→ni E t i l=ni E' t i l:=by
 intro l
 induction l with
 | nil=>intro i _;rfl
 | cons r l ih=>
  intro i h
  simp only[ni]
  rw[ih (i:=i+1) (fun k r' hk hd=>by have:=h (k+1) r' (by simpa using hk) hd;rw[show i+1+k=i+(k+1)by omega];exact this)]
  by_cases hd:r.d=some t
  ·have:=h 0 r au hd
   simp only[WW]at this
   rw[this]
  ·simp[hd]
theorem nl {E':Nat→Bool}:∀{l:List p9} {i:Nat},(∀k r,l[k]?=some r→(∃x,ub r.b id=some x)→E (i+k)=E' (i+k))→kY E id i l=kY E' id i l:=by
 intro l
 induction l with
 | nil=>intro i _;rfl
 | cons r l ih=>
  intro i h
  simp only[kY]
  rw[ih (i:=i+1) (fun k r' hk hd=>by have:=h (k+1) r' (by simpa using hk) hd;rw[show i+1+k=i+(k+1)by omega];exact this)]
  cases hb:ub r.b id with
  | none=>simp
  | some x=>
   have:=h 0 r au ⟨x,hb⟩
   simp only[WW]at this
   simp only[this]
theorem DE:∀{l:List p9} {i:Nat},(∀k r,l[k]?=some r→r.d=some t→E (i+k)=false)→ni E t i l=none:=by
 intro l i h
 rw[nk (E':=fun _=>false) h]
 clear h
 induction l generalizing i with
 | nil=>rfl
 | cons r l ih=>simp[ni,ih]
theorem DF:∀{l:List p9} {i:Nat},(∀k r,l[k]?=some r→(∃x,ub r.b id=some x)→E (i+k)=false)→kY E id i l=none:=by
 intro l i h
 rw[nl (E':=fun _=>false) h]
 clear h
 induction l generalizing i with
 | nil=>rfl
 | cons r l ih=>simp[kY,ih]
theorem Kh:∀{l:List p9} {i j:Nat} {r:p9},l[j]?=some r→r.d=some t→E (i+j)=true→(∀k r',l[k]?=some r'→r'.d=some t→j<k→E (i+k)=false)→ni E t i l=some r.c:=by
 intro l
 induction l with
 | nil=>intro i j r hj;simp at hj
 | cons x l ih=>
  intro i j r hj hd hE hno
  simp only[ni]
  cases j with
  | zero=>
   simp at hj;subst hj
   rw[DE (fun k r' hk hd'=>by have:=hno (k+1) r' (by simpa using hk) hd' ab;rw[show i+1+k=i+(k+1)by omega];exact this)]
   simp only[WW]at hE
   simp[hE,hd]
  | succ j=>
   simp at hj
   rw[ih (i:=i+1) hj hd (by rw[show i+1+j=i+(j+1)by omega];exact hE) (fun k r' hk hd' hlt=>by have:=hno (k+1) r' (by simpa using hk) hd' ab;rw[show i+1+k=i+(k+1)by omega];exact this)]
theorem Ki {x:Nat×Blk}:∀{l:List p9} {i j:Nat} {r:p9},l[j]?=some r→ub r.b id=some x→E (i+j)=true→(∀k r',l[k]?=some r'→(∃x,ub r'.b id=some x)→j<k→E (i+k)=false)→kY E id i l=some x:=by
 intro l
 induction l with
 | nil=>intro i j r hj;simp at hj
 | cons y l ih=>
  intro i j r hj hd hE hno
  simp only[kY]
  cases j with
  | zero=>
   simp at hj;subst hj
   rw[DF (fun k r' hk hd'=>by have:=hno (k+1) r' (by simpa using hk) hd' ab;rw[show i+1+k=i+(k+1)by omega];exact this)]
   simp only[WW]at hE
   simp[hE,hd]
  | succ j=>
   simp at hj
   rw[ih (i:=i+1) hj hd (by rw[show i+1+j=i+(j+1)by omega];exact hE) (fun k r' hk hd' hlt=>by have:=hno (k+1) r' (by simpa using hk) hd' ab;rw[show i+1+k=i+(k+1)by omega];exact this)]
theorem St.ext' {S T:St}(h1:∀t,S.get t=T.get t)(h2:∀i,S.blk i=T.blk i∧S.ver i=T.ver i):S=T:=by
 cases S;cases T
 simp only[St.mk.injEq]
 exact⟨funext h1,funext fun i=>(h2 i).1,funext fun i=>(h2 i).2⟩
theorem nV {d:Nat}{b:Upd}:2*d∈Kg (some d) b:=by simp[Kg]
theorem nW {bs:Upd}{x:Nat×Blk}(h:ub bs id=some x):2*id+1∈Kg d bs:=by
 have:∃y∈bs,y.1=id:=by
  induction bs with
  | nil=>cases h
  | cons y r ih=>
   obtain⟨i,v,B⟩:=y
   unfold ub at h
   cases hb:Nat.beq id i with
   | true=>exact⟨_,WG,(bq.1 hb).symm⟩
   | false=>
    rw[hb]at h
    obtain⟨y,h1,h2⟩:=ih h
    exact⟨y,Ww _ h1,h2⟩
 obtain⟨y,h1,h2⟩:=this
 unfold Kg
 refine List.mem_append_right _ (List.mem_map.2 ⟨y,h1,by rw[h2]⟩)
def p9.fp (r:p9):List Nat×List Nat:=(r.F,Kg r.d r.b)
section
variable {n:Nat} {P:Program} {ops:Array Oper} {C:Ctx} {S:St} {rs:List p9}
theorem TR.get {l:List Oper}{S:St}{rs:List p9}(h:TR n P ops l S rs):l.length=rs.length∧∀j o r,l[j]?=some o→rs[j]?=some r→r.d=o.dst∧aw n P ops o r.F r.c r.b (yJ S (rs.take j)):=by
 induction h with
 | nil=>exact⟨rfl,fun j o r hj=>by simp at hj⟩
 | cons h t ih=>
  refine⟨by simp[ih.1],fun j o r hj hr=>?_⟩
  cases j with
  | zero=>simp at hj hr;subst hj;subst hr;exact⟨rfl,h⟩
  | succ j=>
   simp at hj hr
   exact ih.2 j o r hj hr
theorem Kj:∀(rs:List p9)(S:St)(i:Nat)(E:Nat→Bool),(∀k,k<rs.length→E (i+k)=true)→mr E i S rs=yJ S rs:=by
 intro rs
 induction rs with
 | nil=>intro S i E _;rfl
 | cons r l ih=>
  intro S i E h
  have h0:=h 0 au
  simp only[WW]at h0
  simp only[mr,yJ,List.foldl_cons,h0,Xq]
  exact ih _ _ _ (fun k hk=>by rw[show i+1+k=i+(k+1)by omega];exact h (k+1) bn)
theorem wT:∀(rs:List p9)(S:St)(i:Nat)(E:Nat→Bool),(∀k,k<rs.length→E (i+k)=false)→mr E i S rs=S:=by
 intro rs
 induction rs with
 | nil=>intro S i E _;rfl
 | cons r l ih=>
  intro S i E h
  have h0:=h 0 au
  simp only[WW]at h0
  simp only[mr,h0]
  exact ih _ _ _ (fun k hk=>by rw[show i+1+k=i+(k+1)by omega];exact h (k+1) bn)
theorem Hq:∀(rs:List p9)(S:St)(i j:Nat),mr (fun k=>decide (k<i+j)) i S rs=yJ S (rs.take j):=by
 intro rs
 induction rs with
 | nil=>intro S i j;simp[mr,yJ]
 | cons r l ih=>
  intro S i j
  cases j with
  | zero=>
   rw[List.take_zero]
   exact wT _ _ _ _ (fun k _=>au)
  | succ j=>
   simp only[mr,List.take_succ_cons,yJ,List.foldl_cons]
   rw[V6 au]
   have:=ih (S.app r.d r.c r.b) (i+1) j
   rw[show i+1+j=i+(j+1)by omega]at this
   exact this
theorem nX {r s:p9}{x:Nat}(h1:x∈Kg r.d r.b)(h2:x∈s.F∨x∈Kg s.d s.b):wt r.fp s.fp=true:=by
 unfold wt
 rw[WN]
 exact .inl (FV h1 (by simpa[p9.fp]using h2))
theorem wU {r s:p9}{x:Nat}(h1:x∈r.F)(h2:x∈Kg s.d s.b):wt r.fp s.fp=true:=by
 unfold wt
 rw[WN]
 exact .inr (FV h1 h2)
theorem Kk (hT:TR n P ops ops.toList S rs)(hc:UW ops.toList (rs.map p9.fp)=true)(K:Exit→Act→World→Prop)(hK:∀a w,R C n (yJ S rs) a w→K .normal a w) :
 ∀(fuel:Nat)(E:Array Bool),E.size=ops.size→(∀i o,ops[i]?=some o→E.getD i true=true→∀e∈o.after,Region.binds .any e=true→E.getD e.on false=true) →
  (fuel+((List.range ops.size).filter fun i=>E.getD i true).length≥ops.size) →
  ∀a w,R C n (mr (fun i=>E.getD i true) 0 S rs) a w→wpAny P .any ops K fuel E a w:=by
 obtain⟨hlen,hget⟩:=hT.get
 simp only[UW,Wi]at hc
 have hedge:=yN hc.1
 have hconf:∀i k r s,rs[i]?=some r→rs[k]?=some s→i<k→wt r.fp s.fp=true→((Ax ops.toList []).getD k 0).testBit i=true:=by
  intro i k r s hi hk hik hcf
  refine Az hc.2 rfl i k r.fp s.fp ?_ ?_ hik (Wa _) hcf
  ·simp[hi]
  ·simp[hk]
 have hanc:∀(E:Array Bool),(∀i o,ops[i]?=some o→E.getD i true=true→∀e∈o.after,Region.binds .any e=true→E.getD e.on false=true) →
  ∀j i,((Ax ops.toList []).getD j 0).testBit i=true→E.getD j false=true→E.getD i false=true:=by
  intro E hE j i hb hj
  refine DD (E:=fun i=>E.getD i false=true) (fun k o hk hk' e he hbb=>?_) (fun j i hb=>by simp at hb) j i hb hj
  refine hE k o (by simpa using hk) ?_ e he hbb
  simp only[List.length_nil,WF]at hk'
  by_cases hks:k<E.size
  ·simpa[Array.getD,hks]using hk'
  ·simp[Array.getD,hks]
 have hsz:rs.length=ops.size:=by rw[←hlen];simp
 have done:∀(E:Array Bool),E.size=ops.size→(∀i o,ops[i]?=some o→E.getD i true=true→∀e∈o.after,Region.binds .any e=true→E.getD e.on false=true) →
  Region.ready .any ops E=[]→∀k,k<ops.size→E.getD k true=true:=by
  intro E hsE _ hready
  intro k
  induction k using Nat.strongRecOn with
  | _ k ih=>
   intro hk
   cases hEk:E.getD k true with
   | true=>rfl
   | false=>
    exfalso
    have:k∈Region.ready .any ops E:=by
     unfold Region.ready
     rw[WZ]
     refine⟨by simp[hk],?_⟩
     simp only[hEk,Bool.not_false,WP]
     rw[WS hk]
     simp only[W5,Option.getD_some,Array.all_eq_true_iff_forall_mem]
     intro e he
     by_cases hb:Region.binds .any e=true
     ·have h1:=hedge k ops[k] (by simp[hk]) e he hb
      have h2:=ih e.on ab ab
      have h3:e.on<E.size:=ab
      simp only[hb,Xz,Xo]
      simpa[Array.getD,h3]using h2
     ·simp[hb]
    rw[hready]at this;simp at this
 have fin:∀(E:Array Bool),E.size=ops.size→(∀i o,ops[i]?=some o→E.getD i true=true→∀e∈o.after,Region.binds .any e=true→E.getD e.on false=true) →
  Region.ready .any ops E=[]→∀a w,R C n (mr (fun i=>E.getD i true) 0 S rs) a w→K .normal a w:=by
  intro E h1 h2 h3 a w hr
  refine hK a w ?_
  rw[←Kj rs S 0 (fun i=>E.getD i true) (fun k hk=>by rw[WF];exact done E h1 h2 h3 k ab)]
  exact hr
 intro fuel
 induction fuel with
 | zero=>
  intro E h1 h2 h3 a w hr
  have hall:∀k,k<ops.size→E.getD k true=true:=by
   intro k hk
   have hle:=WT (fun i=>E.getD i true) (List.range ops.size)
   rw[List.length_range]at hle
   have heq:((List.range ops.size).filter fun i=>E.getD i true).length=(List.range ops.size).length:=by rw[List.length_range];omega
   have:=List.length_filter_eq_length_iff.1 heq k (by simp[hk])
   exact this
  have hready:Region.ready .any ops E=[]:=by
   unfold Region.ready
   rw[List.filter_eq_nil_iff]
   intro i hi
   have hi':i<ops.size:=by simpa using hi
   have:=hall i hi'
   simp[this]
  exact⟨hready,fin E h1 h2 hready a w hr⟩
 | succ fuel ih=>
  intro E h1 h2 h3 a w hr
  refine⟨fun hready=>fin E h1 h2 hready a w hr,fun i hi=>?_⟩
  unfold Region.ready at hi
  rw[WZ]at hi
  obtain⟨hi1,hi2⟩:=hi
  have his:i<ops.size:=by simpa using hi1
  simp only[Wi,Xp,WS his,W5,Option.getD_some,Array.all_eq_true_iff_forall_mem]at hi2
  obtain⟨hEi,hin⟩:=hi2
  have hEif:E.getD i false=false:=by
   have:i<E.size:=ab
   simpa[Array.getD,this]using hEi
  obtain⟨r,hrr⟩:∃r,rs[i]?=some r:=⟨rs[i]'(ab),V4 _⟩
  obtain⟨hd,hop⟩:=hget i ops[i] r (by simp[his]) hrr
  have hsE:∀k,k<rs.length→E.getD k true=E.getD k false:=fun k hk=>by
   have:k<E.size:=ab
   simp[Array.getD,this]
  have hlt:∀k r',rs[k]?=some r'→k<rs.length:=fun k r' h=>by
   rcases Wm k rs.length with q|q
   ·exact q
   ·rw[Wq q]at h;cases h
  -- what stands before
  have hbefore:∀k r',rs[k]?=some r'→wt r'.fp r.fp=true→k<i→E.getD k true=true:=by
   intro k r' hk hcf hki
   have hb:=hconf k i r' r hk hrr hki hcf
   have hE':∀j o,ops[j]?=some o→(E.setIfInBounds i true).getD j true=true→∀e∈o.after,Region.binds .any e=true→(E.setIfInBounds i true).getD e.on false=true:=by
    intro j o hj hjE e he hbb
    by_cases hji:j=i
    ·subst hji
     rw[WS his]at hj;cases hj
     have:=hin e he
     simp only[hbb,Xz,Xo]at this
     by_cases hei:e.on=j
     ·rw[hei];simp[h1,his]
     ·simp only[XE,Array.getElem?_setIfInBounds_ne (XJ hei)]
      simpa using this
    ·have:=h2 j o hj (by simpa[Array.getElem?_setIfInBounds_ne (XJ hji)]using hjE) e he hbb
     by_cases hei:e.on=i
     ·rw[hei,hEif]at this;cases this
     ·simpa[Array.getElem?_setIfInBounds_ne (XJ hei)]using this
   have:=hanc _ hE' i k hb (by simp[h1,his])
   have hki':k≠i:=ab
   rw[hsE k (hlt k r' hk)]
   simpa[Array.getElem?_setIfInBounds_ne (XJ hki')]using this
  have hafter:∀k r',rs[k]?=some r'→wt r.fp r'.fp=true→i<k→E.getD k true=false:=by
   intro k r' hk hcf hik
   cases hEk:E.getD k true with
   | false=>rfl
   | true=>
    have hb:=hconf i k r r' hrr hk hik hcf
    have:=hanc E h2 k i hb (by rw[←hsE k (hlt k r' hk)];exact hEk)
    rw[hEif]at this;cases this
  have hagree:dV r.F (mr (fun i=>E.getD i true) 0 S rs) (yJ S (rs.take i)):=by
   rw[←Hq rs S 0 i]
   refine⟨fun t ht=>?_,fun id hid=>?_⟩
   ·rw[nj,nj]
    congr 1
    refine nk (fun k r' hk hd'=>?_)
    simp only[WF]
    rcases XA k i with q|q|q
    ·rw[hbefore k r' hk (nX (x:=2*t) (by rw[hd'];exact nV) (.inl ht)) q];simp[q]
    ·subst q;rw[hEi];simp
    ·rw[hafter k r' hk (wU (x:=2*t) ht (by rw[hd'];exact nV)) q];simp;omega
   ·rw[(jJ _ id rs 0 S).1,(jJ _ id rs 0 S).2,(jJ _ id rs 0 S).1,(jJ _ id rs 0 S).2]
    have hEq:kY (fun i=>E.getD i true) id 0 rs=kY (fun k=>decide (k<0+i)) id 0 rs:=by
     refine nl (fun k r' hk hd'=>?_)
     obtain⟨x,hd'⟩:=hd'
     simp only[WF]
     rcases XA k i with q|q|q
     ·rw[hbefore k r' hk (nX (x:=2*id+1) (nW hd') (.inl hid)) q];simp[q]
     ·subst q;rw[hEi];simp
     ·rw[hafter k r' hk (wU (x:=2*id+1) hid (nW hd')) q];simp;omega
    rw[hEq];exact⟨rfl,rfl⟩
  have hstate:mr (fun j=>(E.setIfInBounds i true).getD j true) 0 S rs=(mr (fun i=>E.getD i true) 0 S rs).app ops[i].dst r.c r.b:=by
   have hnew:∀k,(E.setIfInBounds i true).getD k true=if k=i then true else E.getD k true:=by
    intro k
    by_cases hk:k=i
    ·subst hk;simp[h1,his]
    ·simp[Array.getElem?_setIfInBounds_ne (XJ hk),hk]
   rw[←hd]
   refine St.ext' (fun t=>?_) (fun id=>?_)
   ·rw[nj,St.app_get]
    by_cases ht:r.d=some t
    ·rw[Kh (j:=i) hrr ht (by simp only[WF];rw[hnew];simp) (fun k r' hk hd' hik=>by
      simp only[WF]
      rw[hnew,V3 ab]
      exact hafter k r' hk (nX (x:=2*t) (by rw[ht];exact nV) (.inr (by rw[hd'];exact nV))) hik)]
     rw[ht,St.put_get];simp
    ·rw[nk (E':=fun i=>E.getD i true) (fun k r' hk hd'=>by
      simp only[WF]
      rw[hnew,V3 (fun e=>by subst e;rw[hrr]at hk;cases hk;exact ht hd')])]
     cases hdd:r.d with
     | none=>simp only[St.put];rw[nj]
     | some d=>
      rw[St.put_get,V3 (fun e=>ht (by rw[hdd,e])),nj]
   ·rw[(jJ _ id rs 0 S).1,(jJ _ id rs 0 S).2,St.app_blk,St.app_ver]
    cases hb:ub r.b id with
    | some x=>
     rw[Ki (j:=i) hrr hb (by simp only[WF];rw[hnew];simp) (fun k r' hk hd' hik=>by
      simp only[WF]
      rw[hnew,V3 ab]
      obtain⟨x',hd'⟩:=hd'
      exact hafter k r' hk (nX (x:=2*id+1) (nW hb) (.inr (nW hd'))) hik)]
     exact⟨rfl,rfl⟩
    | none=>
     rw[nl (E':=fun i=>E.getD i true) (fun k r' hk hd'=>by
      simp only[WF]
      rw[hnew,V3 (fun e=>by subst e;rw[hrr]at hk;cases hk;obtain⟨x,hx⟩:=hd';rw[hb]at hx;cases hx)]),(jJ _ id rs 0 S).1,(jJ _ id rs 0 S).2]
     exact⟨rfl,rfl⟩
  have hex:=hop.run C _ hagree a w hr
  rw[←hstate]at hex
  have hnext:∀a w,R C n (mr (fun j=>(E.setIfInBounds i true).getD j true) 0 S rs) a w→wpAny P .any ops K fuel (E.setIfInBounds i true) a w:=by
   refine ih _ (by simp[h1]) ?_ ?_
   ·intro j o hj hjE e he hbb
    by_cases hji:j=i
    ·subst hji
     rw[WS his]at hj;cases hj
     have:=hin e he
     simp only[hbb,Xz,Xo]at this
     by_cases hei:e.on=j
     ·rw[hei];simp[h1,his]
     ·simp only[XE,Array.getElem?_setIfInBounds_ne (XJ hei)]
      simpa using this
    ·have:=h2 j o hj (by simpa[Array.getElem?_setIfInBounds_ne (XJ hji)]using hjE) e he hbb
     by_cases hei:e.on=i
     ·rw[hei];simp[h1,his]
     ·simpa[Array.getElem?_setIfInBounds_ne (XJ hei)]using this
   ·have hcount:((List.range ops.size).filter fun k=>E.getD k true).length<((List.range ops.size).filter fun k=>(E.setIfInBounds i true).getD k true).length:=by
     rw[←List.countP_eq_length_filter,←List.countP_eq_length_filter]
     have key:∀(l:List Nat),i∈l→l.Nodup→List.countP (fun k=>E.getD k true) l<List.countP (fun k=>(E.setIfInBounds i true).getD k true) l:=by
      intro l hm _
      induction l with
      | nil=>simp at hm
      | cons x l ihl=>
       have hx:∀k,(E.setIfInBounds i true).getD k true=if k=i then true else E.getD k true:=by
        intro k
        by_cases hk:k=i
        ·subst hk;simp[h1,his]
        ·simp[Array.getElem?_setIfInBounds_ne (XJ hk),hk]
       have hle:∀(m:List Nat),List.countP (fun k=>E.getD k true) m≤List.countP (fun k=>(E.setIfInBounds i true).getD k true) m:=by
        intro m
        refine List.countP_mono_left (fun k _ hk=>?_)
        rw[hx];split
        ·rfl
        ·exact hk
       rw[List.countP_cons,List.countP_cons]
       by_cases hxi:x=i
       ·subst hxi
        have:=hle l
        rw[hEi,hx x,V6 rfl]
        simp only[Xq,WH,XC]
        omega
       ·have hm':i∈l:=by
         rcases Wp.1 hm with q|q
         ·exact absurd q.symm hxi
         ·exact q
        have:=ihl hm' (by rename_i hnd;exact(List.nodup_cons.1 hnd).2)
        rw[hx x,V3 hxi];omega
     exact key _ hi1 List.nodup_range
    omega
  unfold wpOp
  rw[WS his]
  unfold iM at hex
  simp only
  split
  ·rename_i hw
   rw[V6 hw]at hex
   exact .inl (Oper.wp_monoQ hnext (fun _ _ _ h=>h.elim) hex)
  ·rename_i hw
   rw[V3 hw]at hex
   exact hnext _ _ hex
end
structure AD (P:Program)(n:Nat)(ops:Array Oper)(Q:St→Prop)(done:List (List Nat×List Nat))(l:List Oper)(S:St):Prop where
 ex:∃rs,TR n P ops l S rs∧UW ops.toList (done++rs.map p9.fp)=true∧Q (yJ S rs)
section
variable {P:Program} {n:Nat} {ops:Array Oper} {Q:St→Prop} {done:List (List Nat×List Nat)} {l:List Oper} {S:St}
theorem cj (hc:UW ops.toList done=true)(h:Q S):AD P n ops Q done [] S:=⟨[],.nil,by simpa using hc,h⟩
theorem FW {o:Oper}{F:List Nat}{c:Cnt}{b:Upd}(h:aw n P ops o F c b S)(k:AD P n ops Q (done++[(F,Kg o.dst b)]) l (S.app o.dst c b)) :
 AD P n ops Q done (o::l) S:=by
 obtain⟨rs,h1,h2,h3⟩:=k.ex
 exact⟨⟨F,o.dst,c,b⟩::rs,.cons h h1,by simpa[p9.fp]using h2,h3⟩
end
theorem R.drew {C:Ctx}{n:Nat}{S:St}{w:World}(h:R C n S a w):R C n S a { w with drawn:=w.drawn+1 }:=by
 obtain⟨g,h⟩:=h
 have hx:eX w { w with drawn:=w.drawn+1 }:=⟨rfl,rfl,rfl,V8 _,fun _ _=>rfl⟩
 exact⟨g,h.app0 (d:=none) (c:=.any) (v:=undef) hx (fun _ h=>by cases h) trivial⟩
theorem AA {p:Nat→Prop}(h:∃k,p k):∃k,p k∧∀m,p m→k≤m:=by
 obtain⟨k,hk⟩:=h
 induction k using Nat.strongRecOn with
 | _ k ih=>
  by_cases h:∃m,m<k∧p m
  ·obtain⟨m,h1,h2⟩:=h
   exact ih m h1 h2
  ·exact⟨k,hk,fun m hm=>Nat.le_of_not_lt (fun hlt=>h ⟨m,hlt,hm⟩)⟩
def sw (next:St→Prop)(Q:Exit→St→Prop):Exit→St→Prop
 | .normal,S=>next S
 | e,S=>Q e S
def jK (id:Nat)(Q:Exit→St→Prop):Exit→St→Prop
 | .exit id',S=>if id'=id then Q .normal S else Q (.exit id') S
 | e,S=>Q e S
structure AW (P:Program)(n:Nat)(c:Code)(Q:Exit→St→Prop)(S:St):Prop where
 run:∀(C:Ctx) a w,R C n S a w→c.wp P (fun e a w=>∃S',Q e S'∧R C n S' a w) a w
def Le (n:Nat)(S S':St):Prop:=∀(C:Ctx) a w,R C n S a w→R C n S' a w
section
variable {P:Program} {n:Nat} {Q:Exit→St→Prop} {S:St}
theorem bQ {c:Code}{S':St}(h:Le n S S')(k:AW P n c Q S'):AW P n c Q S:=⟨fun C a w hr=>k.run C a w (h C a w hr)⟩
theorem ck {x y:Code}(h:AW P n x (sw (AW P n y Q) Q) S):AW P n (.seq x y) Q S:=⟨fun C a w hr=>
 wp_seq (wp_mono (h.run C a w hr) (fun e a w hq=>by
  obtain⟨S',hq,hr⟩:=hq
  cases e<;>first|exact AW.run hq C a w hr|exact⟨S',hq,hr⟩))⟩
theorem bi {c:Code}(h:AW P n c (jK id Q) S):AW P n (.block id c) Q S:=⟨fun C a w hr=>
 wp_block (wp_mono (h.run C a w hr) (fun e a w hq=>by
  obtain⟨S',hq,hr⟩:=hq
  cases e with
  | exit id'=>
   simp only[Exit.inBlock,jK]at hq ⊢
   split
   ·rename_i h;rw[V6 h]at hq;exact⟨S',hq,hr⟩
   ·rename_i h;rw[V3 h]at hq;exact⟨S',hq,hr⟩
  | _=>exact⟨S',hq,hr⟩))⟩
theorem bA (h:Q .normal S):AW P n .skip Q S:=⟨fun _ _ _ hr=>wp_skip ⟨S,h,hr⟩⟩
theorem cn (h:Q .ret S):AW P n .ret Q S:=⟨fun _ _ _ hr=>wp_ret ⟨S,h,hr⟩⟩
theorem bB (h:Q (.exit id) S):AW P n (.exit id) Q S:=⟨fun _ _ _ hr=>wp_exit ⟨S,h,hr⟩⟩
theorem aU {l:List Oper}(h:AL P n l.toArray (Q .normal) l S):AW P n (.region id l.toArray false) Q S:=⟨fun C a w hr=>
 wp_region_lit (by
  have:=h.run C a w hr
  have key:∀(l':List Oper) a w,wpList P l.toArray (fun e a w=>e=.normal∧∃S',Q .normal S'∧R C n S' a w) l' a w→wpList P l.toArray (fun e a w=>∃S',Q e S'∧R C n S' a w) l' a w:=by
   intro l'
   induction l' with
   | nil=>rintro a w ⟨_,h⟩;exact h
   | cons o l' ih=>
    intro a w h
    unfold wpList at h ⊢
    split
    ·rename_i hw
     rw[V6 hw]at h
     rcases h with h|⟨h,a0,w0,hq,_⟩
     ·exact .inl (Oper.wp_monoQ ih (fun e a w ⟨he,S',h1,h2⟩=>⟨S',by rw[he];exact h1,h2⟩) h)
     ·cases hq
    ·rename_i hw
     rw[V3 hw]at h
     exact ih _ _ h
  exact key l a w this)⟩
theorem bV {l:List Oper}(hm:P.follows .mixedOrders=true)(h:AD P n l.toArray (Q .normal) [] l S):AW P n (.region id l.toArray true) Q S:=⟨fun C a w hr=>by
 obtain⟨rs,h1,h2,h3⟩:=h.ex
 refine wp_region_any hm (Kk (ops:=l.toArray) h1 (by simpa using h2) _ (fun a w hr=>⟨_,h3,hr⟩) l.toArray.size (Array.replicate l.toArray.size false) au ?_ ?_ a _ ?_)
 ·intro i o hi hE
  have:i<l.toArray.size:=(Array.getElem?_eq_some_iff.1 hi).1
  rw[XE,Array.getElem?_replicate,V6 this]at hE
  simp at hE
 ·omega
 ·have hlen:=h1.get.1
  rw[wT rs S 0 _ (fun k hk=>by
   have:k<l.toArray.size:=by simp at hlen ⊢;omega
   rw[WF,XE,Array.getElem?_replicate,V6 this];rfl)]
  exact hr.drew⟩
theorem FX {c:Code}{X:Type}(I:X→St)(mu:X→Nat)(x0:X)(h0:Le n S (I x0))
 (round:∀x,AW P n c (sw (fun S'=>∃x',mu x'<mu x∧Le n S' (I x')) Q) (I x)):AW P n (.loop c) Q S:=by
 refine⟨?_⟩
 intro C a w hr
 let J:Act→World→Nat→Prop:=fun a w m=>∃x,mu x=m∧R C n (I x) a w
 have key:∀m,∀a w,J a w m→(Code.loop c).wp P (fun e a w=>∃S',Q e S'∧R C n S' a w) a w:=by
  intro m a w hJ
  classical
  let mm:Act→World→Nat:=fun a w=>if h:∃k,J a w k then Classical.choose (AA h)else 0
  have hex:∃k,J a w k:=⟨m,hJ⟩
  refine wp_loop (fun a w=>∃k,J a w k) mm hex ?_
  intro a w hk
  have hmm:mm a w=Classical.choose (AA hk):=dif_pos hk
  obtain⟨x,hx,hR⟩:=(Classical.choose_spec (AA hk)).1
  refine wp_mono ((round x).run C a w hR) (fun e a' w' ⟨S',hq,hr'⟩=>?_)
  cases e with
  | normal=>
   obtain⟨x',hlt,hle⟩:=hq
   have hJ':J a' w' (mu x'):=⟨x',rfl,hle C a' w' hr'⟩
   have hex':∃k,J a' w' k:=⟨mu x',hJ'⟩
   refine⟨hex',?_⟩
   have h2:mm a' w'=Classical.choose (AA hex'):=dif_pos hex'
   have h3:=(Classical.choose_spec (AA hex')).2 _ hJ'
   omega
  | _=>exact⟨S',hq,hr'⟩
 exact key (mu x0) a w ⟨x0,rfl,h0 C a w hr⟩
end
theorem jL {P:Program}{n:Nat}{Q:Exit→St→Prop}{S:St}{c:Operand}{x y:Code}{b:Bool}(hc:c=.tmp t)(hb:S.get t=bC b)
 (h1:b=true→AW P n x Q S) (h2:b=false→AW P n y Q S):AW P n (.cond c x y) Q S:=⟨fun C a w hr=>by
 obtain⟨g,hg⟩:=hr
 have:=hg.slots t
 rw[hb]at this
 subst hc
 exact wp_cond_split (t:=b) this (fun h=>(h1 h).run C a w ⟨g,hg⟩) (fun h=>(h2 h).run C a w ⟨g,hg⟩)⟩
def g0:Gh:=⟨fun _=>none,fun _=>0,fun _=>undef⟩
inductive Ret where
 | per (A:PV)
 | own (e k:Nat) (es:List (List PV))
 | tup2 (c d:Ret)
 | tup3 (c d e:Ret)
def Ret.rep (N0:BP)(w w':World)(v:Value):Ret→Prop
 | .per A=>A.p N0 w' v
 | .own e k es=>(v=.slice none 0 0∧es=[])∨∃(q cap:Nat)(cs:Array Value),v=.slice (some ⟨q,0,none⟩) es.length cap∧w.heap.size≤q ∧
  w'.heap[q]?=some (.cells cs e (0,0))∧es.length≤cap∧cap≤maxLen∧cs.size=cap*k ∧
  ∀(i:Nat)(ps:List PV),es[i]?=some ps→ps.length=k∧∀(j:Nat)(A:PV),ps[j]?=some A→∃y,cs[i*k+j]?=some y∧y.oneCell'=true∧A.p (fun b=>N0 b∨b=q) w' y
 | .tup2 c d=>∃x y,v=.tuple #[x,y]∧c.rep N0 w w' x∧d.rep N0 w w' y
 | .tup3 c d e=>∃x y z,v=.tuple #[x,y,z]∧c.rep N0 w w' x∧d.rep N0 w w' y∧e.rep N0 w w' z
def qa (N0:BP)(w:World)(vs:List Value)(As:List Cnt):Prop:=
 vs.length=As.length∧∀(i:Nat)(v:Value)(c:Cnt),vs[i]?=some v→As[i]?=some c→crep ⟨w,N0,fun _=>False,g0⟩ (fun _=>0) g0 w v c
def Rr (P : Program) (f : FuncId) : Prop := ∃ fn, P.funcs[f]? = some fn ∧ (fn.name == "runtime.NumGoroutine") = false ∧ fn.body.isNone = false
structure Fn (P:Program)(f:FuncId)(As:List Cnt)(r:Ret):Prop where
 ent:Rr P f
 run:∀(N0:BP)(w:World)(vs:List Value),(∀b,N0 b→b<w.heap.size)→qa N0 w vs As →
  Calls P f vs.toArray w (fun e w'=>∃v,e=.returned v∧eX w w'∧r.rep N0 w w' v)
def Kl (As:List Cnt):St:=⟨fun t=>(As[t]?).getD .any,fun _=>.none,fun _=>0⟩
def nm (P:Program)(n:Nat)(fn:Func)(S:St)(r:Ret):Prop:=
 ∀(C:Ctx) a w,(∀b,¬C.L b)→R C n S a w→∃v,(results fn a.tmps).run P w=.ok v w∧r.rep C.N0 C.W0 w v
theorem Km {P : Program} {f : FuncId} {fn : Func} {body : Code} {As : List Cnt} {r : Ret} {n : Nat} (hf : P.funcs[f]? = some fn) (hb : fn.body = some body) (hm : (fn.name == "runtime.NumGoroutine") = false) (hn : fn.ntmps = n) (hl : As.length ≤ n)
 (h:AW P n body (fun e S=>(e=.ret∨e=.normal)∧nm P n fn S r) (Kl As)) (hn1:Nat.ble n 1000=true:=by rfl):Fn P f As r:=by
 refine⟨⟨fn,hf,hm,by rw[hb];rfl⟩,?_⟩
 intro N0 w vs hN hargs
 refine calls_of_wp hf hb ?_
 have hsz:(vs.toArray++Array.replicate (fn.ntmps-vs.toArray.size) undef).size=n:=by
  have:=hargs.1;simp;omega
 have hR:R ⟨w,N0,fun _=>False,g0⟩ n (Kl As) { tmps:=vs.toArray++Array.replicate (fn.ntmps-vs.toArray.size) undef,defers:=[] } w:=by
  refine⟨g0,rfl,hsz,Wc hn1,fun _ _=>⟨rfl,rfl⟩,rfl,rfl,rfl,V8 _,fun _ _ _=>rfl,hN,fun _ _ h=>h,fun b id e=>by simp[g0]at e,fun t=>?_,fun id=>trivial⟩
  show crep _ (fun _=>0) g0 w _ ((As[t]?).getD .any)
  cases hA:As[t]? with
  | none=>trivial
  | some c=>
   have ht:t<As.length:=by
    rcases Wm t As.length with h|h
    ·exact h
    ·rw[Wq h]at hA;cases hA
   have hv:t<vs.length:=by have:=hargs.1;omega
   refine hargs.2 t _ c ?_ hA
   rw[XE,Array.getElem?_append_left (by simpa using hv)]
   simp[hv]
 refine wp_mono (h.run _ _ _ hR) ?_
 rintro e a' w' ⟨S',⟨he,hres⟩,hr⟩
 obtain⟨v,h1,h2⟩:=hres _ a' w' (fun _ h=>h) hr
 obtain⟨g,hg⟩:=hr
 have hE:eX w w':=⟨hg.os,hg.tape,hg.output,hg.size,fun k hk=>hg.old k hk (fun h=>h)⟩
 rcases he with rfl|rfl<;>exact⟨hg.defers,v,h1,v,rfl,hE,h2⟩
end Go.Proofs.YtaclhhkblbacgaaGreat
