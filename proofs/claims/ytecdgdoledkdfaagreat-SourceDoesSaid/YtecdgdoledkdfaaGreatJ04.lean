/- Lemmas, walks. -/
import Derived.Test.YtecdgdoledkdfaaGreatJ02
import Derived.Laws.StructEq
import Derived.Laws.Pointers
namespace Go.Proofs.YtecdgdoledkdfaaGreat
open Go.RowKit
variable {off k:Nat} {e ty ty':TypeId} {y:Operand} {id:Nat} {old:Nat->Nat} {i j:Nat} {f:FuncId} {fn:Func} {As:List Cnt} {r:Cnt} {post:List (Nat×Blk)} {z:Int} {A:PV} {es:List (List PV)} {xs:List Operand} {cs:List Cnt} {d:Cnt} {cells:List Cnt}
section
def DJ (xs:List Value)(off k:Nat):List Value:=(xs.drop off).take k
def Xa (a b:Option Bool):Option Bool:=match a,b with
 | some x,some y=>some (x&&y)
 | _,_=>none
def Jt (P:Program):Nat->TypeId->List Value->List Value->Option Bool
 | 0,_,_,_=>none
 | d+1,t,xs,ys=>match P.underlying t with
  | some .bool=>match xs,ys with
   | [.bool a],[.bool b]=>some (a==b)
   | _,_=>none
  | some (.int _)=>match xs,ys with
   | [.int k a],[.int k' b]=>if k=k' then some (a==b)else none
   | _,_=>none
  | some .string=>match xs,ys with
   | [.string a],[.string b]=>some (a==b)
   | _,_=>none
  | some (.struct fs)=>
   if P.stoodInHeld t then none else
   if fs.all (·.name != "_") then fs.toList.foldr (λf r => Xa (Jt P d f.type (DJ xs f.offset (P.cellsOf f.type)) (DJ ys f.offset (P.cellsOf f.type))) r) (some true) else none
  | _=>none
def oL (P:Program)(t:TypeId)(xs:List Value)(x:Value):Prop:=match P.underlying t with
 | some (.struct _)=>x=.agg xs.toArray
 | _=>xs=[x]
theorem KW {a b:Option Bool}{r:Bool}(h:Xa a b=some r):∃x y,a=some x/\b=some y/\r=(x&&y):=by
 cases a<;>cases b<;>simp[Xa]at h
 grind
theorem NT {xs:List Value}{x:Value}(h:DJ xs off k=[x]):xs[off]?=some x:=by
 have h1:(DJ xs off k)[0]?=some x:=by rw[h];rfl
 rw[DJ,aaW]at h1
 grind
theorem DK {P:Program}{w:World}{xs:List Value}(h:(∃x,DJ xs off (P.cellsOf e)=[x]/\∃k,P.underlying e=some k/\(k=.bool\/(∃q,k=.int q)\/k=.string))\/∃fs,P.underlying e=some (.struct fs)) :
 ∃a,(part e xs.toArray off).run P w=.ok a w/\oL P e (DJ xs off (P.cellsOf e)) a:=by
 rcases h with⟨x,h,k,hk,hh⟩|⟨fs,hk⟩
 ·have h1:=NT h
  refine⟨x,?_,?_⟩
  ·rcases hh with rfl|⟨q,rfl⟩|rfl<;>simp[part,isAgg,run_underlying hk,h1]
  grind[oL]
 ·obtain⟨i,hi⟩:=info_of_underlying hk
  simp_all[part,isAgg,run_underlying,run_sizeOf,oL,DJ]
theorem KX {P:Program}{d:Nat}{t:TypeId}{xs ys:List Value}{r:Bool}(h:Jt P d t xs ys=some r) :
 ((∃x,xs=[x]/\∃k,P.underlying t=some k/\(k=.bool\/(∃q,k=.int q)\/k=.string))\/∃fs,P.underlying t=some (.struct fs)) /\
 ((∃x,ys=[x]/\∃k,P.underlying t=some k/\(k=.bool\/(∃q,k=.int q)\/k=.string))\/∃fs,P.underlying t=some (.struct fs)):=by
 cases d with
 | zero=>simp[Jt]at h
 | succ d=>
  unfold Jt at h
  grind
theorem Ju {P:Program}{w:World}:∀(d:Nat)(t:TypeId)(xs ys:List Value)(x y:Value)(r:Bool),Jt P d t xs ys=some r->oL P t xs x->oL P t ys y ->
 (Op.equalIn d t x y).run P w=.ok r w
 | 0,_,_,_,_,_,_,h,_,_=>by simp[Jt]at h
 | d+1,t,xs,ys,x,y,r,h,hx,hy=>by
  unfold Jt at h
  split at h
  ·grind[oL,run_equalIn_bool']
  ·grind[oL,run_equalIn_int]
  ·grind[oL,run_equalIn_string,beq_toListBytes]
  ·rename_i fs hu
   simp only[oL,hu]at hx hy
   subst hx;subst hy
   split at h
   ·cases h
   rename_i hs
   split at h
   ·rename_i hn
    have hfs:P.fieldsOf t=fs:=by simp[Program.fieldsOf,hu]
    rw[run_equalIn_struct w d t _ _ (by rw[hfs];exact hu) (by simpa using hs),hfs]
    have hn' : ∀ f ∈ fs.toList, f.name ≠ "_" := λf hf => by
     have:=Array.all_eq_true_iff_forall_mem.1 hn f (Array.mem_toList_iff.1 hf)
     simpa using this
    clear hu hs hn hfs
    generalize fs.toList=l at *
    induction l generalizing r with
    | nil=>cases h;simp[Op.eqFields]
    | cons f l ih=>
     rw[List.foldr_cons]at h
     obtain⟨a,b,h1,h2,rfl⟩:=KW h
     obtain⟨p1,p2⟩:=KX h1
     obtain⟨u,q1,q2⟩:=DK (w:=w) p1
     obtain⟨v,q3,q4⟩:=DK (w:=w) p2
     have h3:=Ju (w:=w) d _ _ _ _ _ _ h1 q2 q4
     have h4:=ih b h2 (λg hg=>hn' g (by simp[hg]))
     simp only[Op.eqFields,hn' f aA,ne_eq,not_false_eq_true,if_true,Sem.run_bind,q1,q3,h3,Result.andThen_ok]
     cases a
     all_goals simp_all
   ·cases h
  ·cases h
variable {P:Program} {n t:Nat} {ops:Array Oper} {o:Oper} {S:St}
theorem wF {N:BP}{w:World}{vs:Array Value}{l:List Value}(h:iq N w vs (l.map ai)):vs=l.toArray:=by
 obtain⟨h1,h2⟩:=h
 rw[aad]at h1
 apply Array.ext (by simpa using h1)
 intro i hi hj
 have hl:i<l.length:=by simpa using hj
 obtain⟨y,q1,_,q3⟩:=h2 i (ai l[i]) (by rw[List.getElem?_map,aaa hl];rfl)
 rw[abw hi]at q1
 cases q1
 exact q3
def YR (q:Bool)(op:BinOp):Prop:=(q=false/\op=.eql)\/(q=true/\op=.neq)
theorem ga {op:BinOp}{q r:Bool}{x:Operand}{us vs:List Value}(hp:Pl n o t)(ho:o.op=.binOp op ty x y ty')(hx:S.opd x=.per (cu (us.map ai)))(hy:S.opd y=.per (cu (vs.map ai)))
 (hq:YR q op) (hg:P.eqGuardType P.depth ty=false) (hs:(match P.underlying ty with|some (.struct _)=>true|_=>false)=true) (h:Jt P 10000 ty us vs=some r):aB n P ops o (aG x++aG y) (bC (r != q)) [] S:=
 aZ hp λC T g a w hA hR=>by
  have h1:=aM (x:=x) hA (λk h=>by simp[h]) hR
  have h2:=aM (x:=y) hA (λk h=>by simp[h]) hR
  rw[hx]at h1
  rw[hy]at h2
  obtain⟨as,e1,c1⟩:=h1
  obtain⟨bs,e2,c2⟩:=h2
  have e3:=wF c1
  have e4:=wF c2
  have hv:∀l:List Value,oL P ty l (.agg l.toArray):=λl=>by grind[oL]
  have hr:=Ju (w:=w) 10000 ty us vs _ _ r h (hv us) (hv vs)
  refine⟨.bool (r != q),?_,rfl⟩
  rcases hq with⟨rfl,rfl⟩|⟨rfl,rfl⟩
  all_goals simp_all[execOp,run_eqGuard_agg,run_eql_struct,run_neq_struct]
end
def zi (ρ:Nat->Option Nat)(old:Nat->Nat)(id r:Nat)(k:Nat->Cnt):Cnt:=match ρ id with
 | some j=>bif Nat.beq r (old id)then k j else .any
 | none=>.any
def Cnt.mp (bo:Bool)(ρ:Nat->Option Nat)(old new:Nat->Nat):Cnt->Cnt
 | .row id r=>zi ρ old id r λj=>.row j (new j)
 | .ptr id r off=>zi ρ old id r λj=>.ptr j (new j) off
 | .ept id r k i q=>zi ρ old id r λj=>.ept j (new j) k i q
 | .vw id r k i q=>zi ρ old id r λj=>.vw j (new j) k i q
 | .per A=>.per A
 | .bor k es=>bif bo then .bor k es else .any
 | .bpt cs=>bif bo then .bpt cs else .any
 | .tup2 c d=>.tup2 (c.mp bo ρ old new) (d.mp bo ρ old new)
 | .tup3 c d e=>.tup3 (c.mp bo ρ old new) (d.mp bo ρ old new) (e.mp bo ρ old new)
 | .clo1 f c=>.clo1 f (c.mp bo ρ old new)
 | .clo2 f c d=>.clo2 f (c.mp bo ρ old new) (d.mp bo ρ old new)
 | .clo3 f c d e=>.clo3 f (c.mp bo ρ old new) (d.mp bo ρ old new) (e.mp bo ρ old new)
 | .aggN=>.aggN
 | .aggK c r=>.aggK (c.mp bo ρ old new) (r.mp bo ρ old new)
 | .grd _ _=>.any
 | .any=>.any
def Blk.mp (bo:Bool)(ρ:Nat->Option Nat)(old new:Nat->Nat):Blk->Blk
 | .none=>.none
 | .box e cells=>.box e (cells.map (Cnt.mp bo ρ old new))
 | .row e k es=>.row e k es
 | .mix e es c=>.mix e es (c.mp bo ρ old new)
 | .obj A=>.obj A
section
variable {C C':Ctx} {vr vr':Nat->Nat} {g g':Gh} {w:World} {ρ:Nat->Option Nat} {bo:Bool}
theorem vL {r:Nat}{v:Value}{k:Nat->Cnt}(h:∀j,ρ id=some j->r=old id->crep C' vr' g' w v (k j)):crep C' vr' g' w v (zi ρ old id r k):=by
 unfold zi
 cases hr:ρ id with
 | none=>trivial
 | some j=>
  simp only
  cases hb:Nat.beq r (old id)with
  | true=>grind[bc]
  | false=>trivial
theorem lP (hN:∀b,b<w.heap.size->g'.N C' b->g.N C b)(hM:bo=true->∀b,b<w.heap.size->g'.M b->g.M b)(hρ:∀i j,ρ i=some j->g'.ph j=g.ph i/\g'.rh j=g.rh i) :
 ∀{c:Cnt} {v:Value},crep C vr g w v c->crep C' vr' g' w v (c.mp bo ρ vr vr'):=by
 intro c
 induction c with
 | any=>intro v _;trivial
 | per A=>intro v h;exact A.mono (aaf _) (λ_ _ _=>rfl) hN h
 | bor k es=>
  intro v h
  cases hb:bo with
  | true=>exact eW.mono (aaf _) (λ_ _ _=>rfl) (λ_ _ _=>rfl) (hM hb) hN h
  | false=>trivial
 | bpt cs=>
  rintro v ⟨b,o,e,hb,hn,h⟩
  cases hbo:bo with
  | true=>exact⟨b,o,e,hb,λx=>hn (hM hbo b hb x),λj A hj=>let⟨y,g1,g2,g3⟩:=h j A hj;⟨y,g1,g2,A.mono (aaf _) (λ_ _ _=>rfl) hN g3⟩⟩
  | false=>trivial
 | row id r=>intro v h;exact vL λj hj e=>⟨aaf _,λ_=>by rw[(hρ _ _ hj).2];exact h.2 e⟩
 | ptr id r off=>intro v h;exact vL λj hj e=>⟨aaf _,λ_=>by rw[(hρ _ _ hj).1];exact h.2 e⟩
 | ept id r k i q=>intro v h;exact vL λj hj e=>⟨aaf _,λ_=>by rw[(hρ _ _ hj).1];exact h.2 e⟩
 | vw id r k i q=>intro v h;exact vL λj hj e=>⟨aaf _,λ_=>by rw[(hρ _ _ hj).1];exact h.2 e⟩
 | grd b c ih=>intro v _;trivial
 | tup2 c d ih1 ih2=>rintro v ⟨x,y,e,h1,h2⟩;exact⟨x,y,e,ih1 h1,ih2 h2⟩
 | tup3 c d e ih1 ih2 ih3=>rintro v ⟨x,y,z,e,h1,h2,h3⟩;exact⟨x,y,z,e,ih1 h1,ih2 h2,ih3 h3⟩
 | clo1 f c ih=>rintro v ⟨x,e,h1⟩;exact⟨x,e,ih h1⟩
 | clo2 f c d ih1 ih2=>rintro v ⟨x,y,e,h1,h2⟩;exact⟨x,y,e,ih1 h1,ih2 h2⟩
 | clo3 f c d e ih1 ih2 ih3=>rintro v ⟨x,y,z,e,h1,h2,h3⟩;exact⟨x,y,z,e,ih1 h1,ih2 h2,ih3 h3⟩
 | aggN=>exact λh=>h
 | aggK c r ih1 ih2=>rintro v ⟨x,vs,e,o,h1,h2⟩;exact⟨x,vs,e,o,ih1 h1,ih2 h2⟩
theorem rU (hN:∀b,b<w.heap.size->g'.N C' b->g.N C b)(hM:bo=true->∀b,b<w.heap.size->g'.M b->g.M b)(hρ:∀i j,ρ i=some j->g'.ph j=g.ph i/\g'.rh j=g.rh i)
 (how:∀b i j,g.ow b=some i->ρ i=some j->g'.ow b=some j) (hlt:∀b i,g.ow b=some i->b<w.heap.size) (hij:ρ i=some j) {B:Blk} (h:brep C vr g w i B):brep C' vr' g' w j (B.mp bo ρ vr vr'):=by
 obtain⟨hp,hr⟩:=hρ i j hij
 have hper:∀{A:PV} {v:Value},A.p (g.N C) w v->A.p (g'.N C') w v:=λ{A v} h=>A.mono (aaf _) (λ_ _ _=>rfl) hN h
 cases B with
 | none=>trivial
 | box e cells=>
  obtain⟨cs,h1,h2,h3,h4⟩:=h
  refine⟨cs,by rw[hp];exact h1,by rw[hp];exact how _ _ _ h2 hij,by simp[h3],λq c hq=>?_⟩
  rw[List.getElem?_map]at hq
  grind[lP]
 | row e k es=>
  rcases h with⟨h1,h2⟩|⟨cap,cs,h1,h2,h3,h4,h5,h6,h7⟩
  ·exact .inl ⟨by rw[hr];exact h1,h2⟩
  ·refine .inr ⟨cap,cs,by rw[hr,hp];exact h1,by rw[hp];exact h2,by rw[hp];exact how _ _ _ h3 hij,h4,h5,h6,λq ps hq=>⟨(h7 q ps hq).1,λu A hu=>?_⟩⟩
   grind
 | mix e es c=>
  obtain⟨cap,cs,h1,h2,h3,h4,h5,h6,h7,y,q1,q2,q3⟩:=h
  refine⟨cap,cs,by rw[hr,hp];exact h1,by rw[hp];exact h2,by rw[hp];exact how _ _ _ h3 hij,h4,h5,h6,λq A hq=>?_,y,q1,q2,lP hN hM hρ q3⟩
  grind
 | obj A=>
  show A.p (λb=>g'.ow b=some j) (g'.N C') w (g'.rh j)
  rw[hr]
  exact A.mono (F:=λb=>g.ow b=some i) (λb e=>how b i j e hij) (λb e=>hlt b i e) (aaf _) (λ_ _ _=>rfl) (λ_ _ _=>rfl) hN h
theorem GH {old':Nat->Nat}{k k':Nat->Cnt}{r:Nat}(ho:∀j,ρ id=some j->old id=old' id)(hk:∀j,ρ id=some j->k j=k' j):zi ρ old id r k=zi ρ old' id r k':=by grind[zi]
theorem oM {old' new new':Nat->Nat}(ho:∀i j,ρ i=some j->old i=old' i)(hn:∀i j,ρ i=some j->new j=new' j):∀(c:Cnt),c.mp bo ρ old new=c.mp bo ρ old' new':=by
 intro c
 induction c<;>grind[GH,Cnt.mp]
theorem tV {old' new new':Nat->Nat}(ho:∀i j,ρ i=some j->old i=old' i)(hn:∀i j,ρ i=some j->new j=new' j)(B:Blk):B.mp bo ρ old new=B.mp bo ρ old' new':=by cases B<;>grind[Blk.mp,List.map_congr_left,oM]
end
def lI:List (Nat×Nat)->Nat->Option Nat
 | [],_=>none
 | (i,j)::l,x=>bif Nat.beq x i then some j else lI l x
def mh:List (Nat×Nat)->Nat->Option Nat
 | [],_=>none
 | (i,j)::l,x=>bif Nat.beq x j then some i else mh l x
def NU:Option Nat->Nat->Bool
 | some x,y=>Nat.beq x y
 | none,_=>false
theorem zR {x:Option Nat}{y:Nat}(h:NU x y=true):x=some y:=by
 cases x with
 | none=>cases h
 | some x=>rw[bc.1 h]
theorem vM {l:List (Nat×Nat)}(h:lI l i=some j):(i,j)∈l:=by induction l<;>grind[lI,bc]
theorem rV {l:List (Nat×Nat)}(h:mh l j=some i):(i,j)∈l:=by induction l<;>grind[mh,bc]
def Nh (l:List (Nat×Nat)):Bool:=l.all λp=>NU (lI l p.1) p.2&&NU (mh l p.2) p.1
theorem kH {l:List (Nat×Nat)}(h:Nh l=true):lI l i=some j↔mh l j=some i:=by
 unfold Nh at h
 rw[aaH]at h
 constructor
 ·intro e
  have:=h _ (vM e)
  rw[aaC]at this
  exact zR this.2
 ·intro e
  have:=h _ (rV e)
  rw[aaC]at this
  exact zR this.1
structure Frm (C:Ctx)(w w':World)(g':Gh):Prop where
 os:w'.os=w.os
 tape:w'.tape=w.tape
 output:w'.output=w.output
 size:w.heap.size<=w'.heap.size
 old:∀b,b<w.heap.size->¬C.L b->w'.heap[b]?=w.heap[b]?
 dom:∀b id,g'.ow b=some id->b<w'.heap.size/\(w.heap.size<=b\/C.L b)
 keep:∀id,eL id=true->g'.ph id=C.G0.ph id/\g'.rh id=C.G0.rh id
abbrev z0:Nat->Nat:=λ_=>0
structure bZ (P:Program)(f:FuncId)(As:List Cnt)(pre:List (Nat×Blk))(r:Cnt)(post:List (Nat×Blk)):Prop where
 ent:Wd P f
 run:∀(C:Ctx)(w:World)(vs:List Value),C.W0=w->(∀b,C.N0 b->b<w.heap.size/\¬C.L b)->(∀b id,C.G0.ow b=some id->b<w.heap.size/\C.L b) ->
  vs.length=As.length->(∀(i:Nat)(v:Value)(c:Cnt),vs[i]?=some v->As[i]?=some c->crep C z0 C.G0 w v c)->(∀id,brep C z0 C.G0 w id (fb id pre)) ->
  Calls P f vs.toArray w (λe w'=>∃v g',e=.returned v/\Frm C w w' g'/\crep C z0 g' w' v r/\∀id,brep C z0 g' w' id (fb id post))
def NV (As:List Cnt)(pre:List (Nat×Blk)):St:=⟨λt=>(As[t]?).getD .any,λi=>fb i pre,z0⟩
def tW (P:Program)(n:Nat)(fn:Func)(S:St)(r:Cnt)(post:List (Nat×Blk)):Prop:=
 ∀(C:Ctx)(g:Gh) a w,RG C n S g a w->∃v g',(results fn a.tmps).run P w=.ok v w/\Frm C C.W0 w g'/\crep C z0 g' w v r/\∀id,brep C z0 g' w id (fb id post)
theorem KY {P : Program} {body : Code} {pre : List (Nat × Blk)} {n : Nat} (hf : P.funcs[f]? = some fn) (hb : fn.body = some body) (hm : (fn.name == "runtime.NumGoroutine") = false) (hn : fn.ntmps = n) (hl : As.length <= n)
 (h:AW P n body (λe S=>(e=.ret\/e=.normal)/\tW P n fn S r post) (NV As pre)) (hn1:Nat.ble n 1000=true:=by rfl):bZ P f As pre r post:=by
 refine⟨⟨fn,hf,hm,by rw[hb];rfl⟩,?_⟩
 intro C w vs hw hN hd hlen hargs hpre
 subst hw
 refine calls_of_wp hf hb ?_
 have hsz:(vs.toArray++Array.replicate (fn.ntmps-vs.toArray.size) undef).size=n:=bD
 have hR:R C n (NV As pre) { tmps:=vs.toArray++Array.replicate (fn.ntmps-vs.toArray.size) undef,defers:=[] } C.W0:=by
  refine⟨C.G0,rfl,hsz,aaq hn1,λ_ _=>⟨rfl,rfl⟩,rfl,rfl,rfl,aaf _,λ_ _ _=>rfl,λb hb=>(hN b hb).1,λb hb=>(hN b hb).2,λb id e=>⟨(hd b id e).1,.inr (hd b id e).2⟩,λt=>?_,hpre⟩
  show crep _ z0 C.G0 _ _ ((As[t]?).getD .any)
  cases hA:As[t]? with
  | none=>trivial
  | some c=>
   have ht:t<As.length:=by grind
   have hv:t<vs.length:=ae
   refine hargs t _ c ?_ hA
   rw[aa7,Array.getElem?_append_left (by simpa using hv)]
   simp[hv]
 refine wp_mono (h.run _ _ _ hR) ?_
 rintro e a' w' ⟨S',⟨he,hres⟩,g,hg⟩
 obtain⟨v,g',h1,h2,h3,h4⟩:=hres _ g a' w' hg
 rcases he with rfl|rfl<;>exact⟨hg.defers,v,h1,v,g',rfl,h2,h3,h4⟩
def Gh.ex (g:Gh)(τ:List (Nat×Nat)):Gh:=⟨λb=>(g.ow b).bind (lI τ),λi=>match mh τ i with|some j=>g.ph j|none=>g.ph i,λi=>match mh τ i with|some j=>g.rh j|none=>g.rh i⟩
def Xb (τ:List (Nat×Nat)):Bool:=Nh τ&&τ.all λp=>!eL p.2||Nat.beq p.1 p.2
section
variable {P:Program} {n:Nat} {S T:St} {C:Ctx} {g:Gh} {a:Act} {w:World} {τ:List (Nat×Nat)}
theorem NW (b:Nat)(h:(g.ex τ).N C b):g.N C b:=by
 rcases h with h|h
 ·exact .inl h
 ·refine .inr (λe=>h ?_)
  show(g.ow b).bind (lI τ)=none
  rw[e];rfl
theorem Xc (h:Nh τ=true):∀i j,lI τ i=some j->(g.ex τ).ph j=g.ph i/\(g.ex τ).rh j=g.rh i:=λi j e=>by
 have:=(kH h).1 e
 grind[Gh.ex]
theorem Xd:∀b i j,g.ow b=some i->lI τ i=some j->(g.ex τ).ow b=some j:=λb i j h1 h2=>by
 show(g.ow b).bind (lI τ)=some j
 rw[h1];exact h2
def BB (P:Program)(n:Nat)(S:St)(τ:List (Nat×Nat))(rv:ResultVar)(c:Cnt):Prop:=∀(C:Ctx)(g:Gh) a w,RG C n S g a w->∃v,(ZX a.tmps rv).run P w=.ok v w/\crep C z0 (g.ex τ) w v c
inductive bG (S:St)(τ:List (Nat×Nat)):List (Nat×Blk)->Prop
 | nil:bG S τ []
 | cons {i j:Nat} {B:Blk} {l:List (Nat×Blk)} (hj:mh τ i=some j) (h:(S.blk j).mp false (lI τ) S.ver z0=B) (k:bG S τ l):bG S τ ((i,B)::l)
theorem bG.look {l:List (Nat×Blk)}(h:bG S τ l)(i:Nat):fb i l=.none\/∃j,mh τ i=some j/\fb i l=(S.blk j).mp false (lI τ) S.ver z0:=by induction h<;>grind[fb,bc]
theorem wG (τ:List (Nat×Nat))(hτ:Xb τ=true)(hpost:bG S τ post)
 (hr:∀(C:Ctx)(g:Gh) a w,RG C n S g a w->∃v,(results fn a.tmps).run P w=.ok v w/\crep C z0 (g.ex τ) w v r):tW P n fn S r post:=by
 intro C g a w hR
 obtain⟨v,h1,h2⟩:=hr C g a w hR
 unfold Xb at hτ
 rw[aaC,aaH]at hτ
 refine⟨v,g.ex τ,h1,⟨hR.os,hR.tape,hR.output,hR.size,hR.old,λb id e=>?_,λid hf=>?_⟩,h2,λid=>?_⟩
 ·change (g.ow b).bind (lI τ)=some id at e
  cases ho:g.ow b with
  | none=>rw[ho]at e;cases e
  | some j=>exact hR.dom b j ho
 ·unfold Gh.ex
  simp only
  cases hl:mh τ id with
  | none=>exact hR.keep id hf
  | some j=>
   have:=hτ.2 _ (rV hl)
   simp only[hf,Bool.not_true,abl]at this
   rw[bc.1 this];exact hR.keep id hf
 ·rcases hpost.look id with q|⟨j,hj,q⟩
  ·rw[q];trivial
  ·rw[q]
   exact rU (λb _ h=>NW b h) (λh=>by cases h) (Xc hτ.1) Xd (λb i e=>(hR.dom b i e).1) ((kH hτ.1).2 hj) (hR.blks j)
theorem YS (τ:List (Nat×Nat))(hf:fn.results=#[])(hτ:Xb τ=true)(hpost:bG S τ post):tW P n fn S .any post:=
 wG τ hτ hpost λC g a w hR=>⟨.tuple #[],by rw[jK,hf];simp,trivial⟩
theorem dv {rv:ResultVar}{c:Cnt}(τ:List (Nat×Nat))(hf:fn.results=#[rv])(hτ:Xb τ=true)(hpost:bG S τ post)(h:BB P n S τ rv c):tW P n fn S c post:=
 wG τ hτ hpost λC g a w hR=>by
  obtain⟨v,h1,h2⟩:=h C g a w hR
  simp_all[jK]
theorem rX {rv rv':ResultVar}{c c':Cnt}(τ:List (Nat×Nat))(hf:fn.results=#[rv,rv'])(hτ:Xb τ=true)(hpost:bG S τ post)(h:BB P n S τ rv c)(h':BB P n S τ rv' c'):tW P n fn S (.tup2 c c') post:=
 wG τ hτ hpost λC g a w hR=>by
  obtain⟨v,h1,h2⟩:=h C g a w hR
  obtain⟨v',h1',h2'⟩:=h' C g a w hR
  exact⟨.tuple #[v,v'],by rw[jK,hf];simp[h1,h1'],v,v',rfl,h2,h2'⟩
theorem nd {t:Nat}{c:Cnt}(hτ:Nh τ=true)(h:(S.get t).mp false (lI τ) S.ver z0=c):BB P n S τ (.tmp t) c:=λC g a w hR=>by
 refine⟨_,rfl,?_⟩
 rw[<-h]
 exact lP (λb _ h=>NW b h) (λh=>by cases h) (Xc hτ) (hR.slots t)
theorem bh {t:Nat}{k:IntKind}{z':Int}(h:S.get t=.per (ai (.int k z)))(hz:z=z'):BB P n S τ (.tmp t) (.per (ai (.int k z'))):=λC g a w hR=>by
 have:=hR.slots t
 rw[h]at this
 exact⟨_,rfl,by rw[<-hz];exact this⟩
theorem cD {t:Nat}{z z':Bool}(h:S.get t=.per (ai (.bool z)))(hz:z=z'):BB P n S τ (.tmp t) (.per (ai (.bool z'))):=λC g a w hR=>by
 have:=hR.slots t
 rw[h]at this
 exact⟨_,rfl,by rw[<-hz];exact this⟩
theorem pR {t:Nat}{z z':ByteArray}(h:S.get t=.per (ai (.string z)))(hz:z=z'):BB P n S τ (.tmp t) (.per (ai (.string z'))):=λC g a w hR=>by
 have:=hR.slots t
 rw[h]at this
 exact⟨_,rfl,by rw[<-hz];exact this⟩
theorem bA {t:Nat}{A':PV}(h:S.get t=.per A)(hz:A=A'):BB P n S τ (.tmp t) (.per A'):=λC g a w hR=>by
 have:=hR.slots t
 rw[h]at this
 exact⟨_,rfl,by rw[<-hz];exact A.mono (aaf _) (λ_ _ _=>rfl) (λb _ h=>NW b h) this⟩
theorem Tw {rv:ResultVar}(h:∀(C:Ctx)(g:Gh) a w,RG C n S g a w->∃v,(ZX a.tmps rv).run P w=.ok v w/\A.p (g.N C) w v):BB P n S τ rv (.per A):=λC g a w hR=>by
 obtain⟨v,h1,h2⟩:=h C g a w hR
 exact⟨v,h1,A.mono (aaf _) (λ_ _ _=>rfl) (λb _ h=>NW b h) h2⟩
end
def kI (o:Oper)(x0:Operand)(xs:List Operand):Prop:=∃tys,o.op=.call { callee:=.value x0,args:=xs.toArray,argTypes:=tys }
def KZ (n:Nat)(o:Oper):Prop:=o.guard=none/\(match o.dst with|none=>true|some t=>Nat.blt t n)=true
section
variable {P:Program} {n:Nat} {ops:Array Oper} {o:Oper} {F:List Nat} {S T:St} {C:Ctx} {g:Gh} {a:Act} {w w':World} {t:Nat} {sg:List (Nat×Nat)}
theorem KZ.dOk (h:KZ n o):dOk n o.dst:=λt e=>by
 have:=h.2
 rw[e]at this;simp_all
theorem Pl.m (h:Pl n o t):KZ n o:=⟨h.1,by rw[h.2.1];exact h.2.2⟩
theorem KZ.wanted (h:KZ n o)(a:Act):Region.wanted o (yielded ops a.tmps)=true:=by simp[Region.wanted,h.1]
def Gh.sub (g:Gh)(sg:List (Nat×Nat)):Gh:=⟨λb=>(g.ow b).bind (mh sg),λi=>match lI sg i with|some j=>g.ph j|none=>0,λi=>match lI sg i with|some j=>g.rh j|none=>undef⟩
def la (g:Gh)(sg:List (Nat×Nat))(b:Nat):Bool:=((g.ow b).bind (mh sg)).isSome
def DL (C:Ctx)(g:Gh)(w:World)(sg:List (Nat×Nat)):Ctx:=⟨w,λb=>b<w.heap.size/\g.N C b/\la g sg b=false,λb=>la g sg b=true,g.sub sg⟩
def BC (F:List Nat)(S:St)(x0:Operand)(f:FuncId)(cs:List Cnt):Prop:=∀(n:Nat)(C:Ctx)(T:St)(g:Gh)(a:Act)(w:World),ed F T S->RG C n T g a w ->
 ∃caps:List Value,a.eval x0=.func (.func f) #[] caps.toArray/\caps.length=cs.length/\∀(j:Nat)(v:Value)(c:Cnt),caps[j]?=some v->cs[j]?=some c->crep C T.ver g w v c
theorem zS (b:Nat)(h:(g.sub sg).N (DL C g w sg) b):g.N C b:=by
 rcases h with h|h
 ·exact h.2.1
 ·refine .inr (λe=>h ?_)
  show(g.ow b).bind (mh sg)=none
  rw[e];rfl
theorem DM (b:Nat)(h:(g.sub sg).M b):g.M b:=λe=>h (by show(g.ow b).bind (mh sg)=none;rw[e];rfl)
theorem DN (h:Nh sg=true):∀i j,mh sg i=some j->(g.sub sg).ph j=g.ph i/\(g.sub sg).rh j=g.rh i:=λi j e=>by
 have:=(kH h).2 e
 grind[Gh.sub]
theorem Tx:∀b i j,g.ow b=some i->mh sg i=some j->(g.sub sg).ow b=some j:=λb i j h1 h2=>by
 show(g.ow b).bind (mh sg)=some j
 rw[h1];exact h2
def lb (F:List Nat)(S:St)(sg:List (Nat×Nat))(x:Operand)(c:Cnt):Prop:=∀(n:Nat)(C:Ctx)(T:St)(g:Gh)(a:Act)(w:World),ed F T S->RG C n T g a w ->
 crep (DL C g w sg) z0 (g.sub sg) w (a.eval x) c
theorem Xe {x:Operand}{c:Cnt}(hok:Nh sg=true)(hF:∀k∈aG x,k∈F)(hS:∀p∈sg,2*p.2+1∈F)(h:(S.opd x).mp true (mh sg) S.ver z0=c):lb F S sg x c:=λn C T g a w hA hR=>by
 rw[<-h,oM (old':=T.ver) (new':=z0) (λi j e=>((hA.2 i (hS _ (rV e))).2).symm) (λ_ _ _=>rfl)]
 exact lP (λb _ h=>zS b h) (λ_ b _ h=>DM b h) (DN hok) (aM hA hF hR)
theorem Xf {x:Operand}(hx:S.opd x=.per (cn k es))(hF:∀k∈aG x,k∈F):lb F S sg x (.bor k es):=λn C T g a w hA hR=>by
 have h:=aM (x:=x) hA hF hR
 rw[hx]at h
 exact eW.mono (aaf _) (λ_ _ _=>rfl) (λ_ _ _=>rfl) (λb _ h=>.inr (DM b h)) (λb _ h=>zS b h) h
inductive nr (F:List Nat)(S:St)(sg:List (Nat×Nat)):List Operand->List Cnt->Prop
 | nil:nr F S sg [] []
 | cons {x:Operand} {c:Cnt} {xs:List Operand} {cs:List Cnt} (h:lb F S sg x c) (t:nr F S sg xs cs):nr F S sg (x::xs) (c::cs)
theorem nr.rep (h:nr F S sg xs cs)(hA:ed F T S)(hR:RG C n T g a w):(xs.map a.eval).length=cs.length/\∀(i:Nat)(v:Value)(c:Cnt),(xs.map a.eval)[i]?=some v->cs[i]?=some c->crep (DL C g w sg) z0 (g.sub sg) w v c:=by
 induction h with
 | nil=>grind
 | cons h t ih=>
  refine⟨by simp[ih.1],λi v c hi hc=>?_⟩
  cases i with
  | zero=>
   simp at hi hc;subst hi;subst hc
   exact h n C T g a w hA hR
  | succ i=>grind
inductive oj (S:St)(sg:List (Nat×Nat)):List (Nat×Blk)->Prop
 | nil:oj S sg []
 | cons {i j:Nat} {B:Blk} {l:List (Nat×Blk)} (hj:lI sg i=some j) (h:(S.blk j).mp true (mh sg) S.ver z0=B) (k:oj S sg l):oj S sg ((i,B)::l)
theorem oj.look {l:List (Nat×Blk)}(h:oj S sg l)(i:Nat):fb i l=.none\/∃j,lI sg i=some j/\fb i l=(S.blk j).mp true (mh sg) S.ver z0:=by induction h<;>grind[fb,bc]
theorem Ty {x0:Operand}{caps:List Value}{K:Act->World->Prop}{R:Value->World->Prop}(hE:Wd P f)(ho:kI o x0 xs)(h0:a.eval x0=.func (.func f) #[] caps.toArray)
 (h:Calls P f (xs.map a.eval++caps).toArray w (λe w'=>∃v,e=.returned v/\R v w')) (hk:∀v w',R v w'->K (a.put o.dst v) w') :
 o.wp P a w K (λ_ _ _=>False):=by
 obtain⟨fn,h1,h2,h3⟩:=hE
 obtain⟨tys,ho⟩:=ho
 unfold Oper.wp
 have:(execOp a.eval o).run P w=.ok (.enter f (xs.map a.eval++caps).toArray) w:=by
  simp only[execOp,ho,resolve,h0,Deferred.ofValue,Sem.run_bind,Sem.run_pure,Result.andThen_ok,invoke,callFunc,List.map_toArray]
  simp only[program,Sem.run,Result.andThen_ok,h1,h2,h3,aaL,if_false]
  simp
 rw[this,Oper.upon_enter]
 refine Calls.mono h ?_
 grind
def za (vr:Nat->Nat)(sg:List (Nat×Nat))(j:Nat):Nat:=match mh sg j with
 | some i=>bif eL i then vr j else vr j+1
 | none=>vr j
def NX (sg:List (Nat×Nat)):Bool:=Nh sg&&sg.all λp=>!eL p.2||eL p.1
def oO (S:St)(post:List (Nat×Blk))(sg:List (Nat×Nat)):List (Nat×Nat)->Upd
 | []=>[]
 | (i,j)::l=>(j,za S.ver sg j,(fb i post).mp false (lI sg) z0 (za S.ver sg))::oO S post sg l
theorem rY (l:List (Nat×Nat))(j:Nat):ub (oO S post sg l) j=match mh l j with
 | some i=>some (za S.ver sg j,(fb i post).mp false (lI sg) z0 (za S.ver sg))
 | none=>none:=by induction l<;>grind[oO,ub,mh,bc]
theorem mI {x0:Operand}{pre:List (Nat×Blk)}(sg:List (Nat×Nat))(hp:KZ n o)(ho:kI o x0 xs)(hh:BC F S x0 f cs)
 (hf:bZ P f (As++cs.map (Cnt.mp true (mh sg) S.ver z0)) pre r post) (hok:NX sg=true) (hS:∀p∈sg,2*p.2+1∈F) (hg:nr F S sg xs As) (hpre:oj S sg pre) :
 aB n P ops o F (r.mp false (lI sg) z0 (za S.ver sg)) (oO S post sg sg) S:=by
 refine⟨?_⟩
 intro C T hA a w ⟨g,hR⟩
 unfold jg
 rw[aae (hp.wanted a)]
 unfold NX at hok
 rw[aaC,aaH]at hok
 obtain⟨hok,hfx⟩:=hok
 obtain⟨caps,c1,c2,c3⟩:=hh n C T g a w hA hR
 obtain⟨g1,g2⟩:=hg.rep hA hR
 have hver:∀i j,lI sg i=some j->S.ver j=T.ver j:=λi j e=>((hA.2 j (hS _ (vM e))).2).symm
 have hver2:∀i j,mh sg j=some i->S.ver j=T.ver j:=λi j e=>((hA.2 j (hS _ (rV e))).2).symm
 have hlent:∀b,la g sg b=true->∃j i,g.ow b=some j/\mh sg j=some i:=λb hb=>by
  unfold la at hb
  cases ho:g.ow b with
  | none=>rw[ho]at hb;cases hb
  | some j=>
   rw[ho]at hb
   cases hl:mh sg j<;>grind
 have hunl:∀b,la g sg b=false->∀j i,g.ow b=some j->mh sg j≠some i:=λb hb j i h1 h2=>by grind[la]
 refine Ty (caps:=caps) (R:=λv w'=>∃g',Frm (DL C g w sg) w w' g'/\crep (DL C g w sg) z0 g' w' v r/\∀id,brep (DL C g w sg) z0 g' w' id (fb id post)) hf.ent ho c1 ?_ ?_
 ·refine Calls.mono (hf.run (DL C g w sg) w (xs.map a.eval++caps) rfl (λb h=>⟨h.1,by have:=h.2.2;exact λe=>by rw[show la g sg b=true from e]at this;cases this⟩) (λb id e=>?_) (by simp[g1,c2]) ?_ (λid=>?_)) ?_
  ·have e':(g.ow b).bind (mh sg)=some id:=e
   refine⟨?_,show la g sg b=true by grind[la]⟩
   cases ho:g.ow b with
   | none=>rw[ho]at e';cases e'
   | some j=>exact(hR.dom b j ho).1
  ·intro i v c hi hc
   rcases aaF i As.length with hlt|hge
   ·rw[aaz ae]at hi
    rw[aaz hlt]at hc
    exact g2 i v c hi hc
   ·rw[List.getElem?_append_right ae]at hi
    rw[List.getElem?_append_right hge,List.getElem?_map]at hc
    rw[g1]at hi
    cases hcc:cs[i-As.length]? with
    | none=>rw[hcc]at hc;cases hc
    | some c'=>
     rw[hcc]at hc;cases hc
     rw[oM (old':=T.ver) (new':=z0) (λi j e=>hver2 j i e) (λ_ _ _=>rfl)]
     exact lP (λb _ h=>zS b h) (λ_ b _ h=>DM b h) (DN hok) (c3 _ v c' hi hcc)
  ·rcases hpre.look id with q|⟨j,hj,q⟩
   ·rw[q];trivial
   ·rw[q,tV (old':=T.ver) (new':=z0) (λi j e=>hver2 j i e) (λ_ _ _=>rfl)]
    have h3:=hR.blks j
    rw[(hA.2 j (hS _ (vM hj))).1]at h3
    exact rU (λb _ h=>zS b h) (λ_ b _ h=>DM b h) (DN hok) Tx (λb i e=>(hR.dom b i e).1) ((kH hok).1 hj) h3
  grind
 ·rintro v w' ⟨gf,hfr,hr,hb⟩
  let g':Gh:=⟨λb=>if b<w.heap.size/\la g sg b=false then g.ow b else(gf.ow b).bind (lI sg),λj=>match mh sg j with|some i=>gf.ph i|none=>g.ph j,λj=>match mh sg j with|some i=>gf.rh i|none=>g.rh j⟩
  have how':∀b,g'.ow b=if b<w.heap.size/\la g sg b=false then g.ow b else(gf.ow b).bind (lI sg):=λ_=>rfl
  have hρ:∀i j,lI sg i=some j->g'.ph j=gf.ph i/\g'.rh j=gf.rh i:=λi j e=>by
   have:=(kH hok).1 e
   grind
  have hsame:∀j,mh sg j=none->g'.ph j=g.ph j/\g'.rh j=g.rh j:=λj e=>by grind
  have hgf:∀b i,gf.ow b=some i->¬(b<w.heap.size/\la g sg b=false):=λb i e h=>by
   rcases(hfr.dom b i e).2 with q|q
   ·omega
   ·rw[show la g sg b=true from q]at h;cases h.2
  have hN:∀b,b<w'.heap.size->g'.N C b->gf.N (DL C g w sg) b:=λb hbw h=>by
   rcases h with h|h
   ·have h1:=hR.n0 b h
    have h2:=hR.size
    have hno:g.ow b=none:=by
     cases ho:g.ow b with
     | none=>rfl
     | some j=>
      rcases(hR.dom b j ho).2 with q|q
      ·omega
      ·exact absurd q (hR.n0l b h)
    exact .inl ⟨ae,.inl h,by grind⟩
   ·rw[how']at h
    split at h
    ·rename_i hc
     exact .inl ⟨hc.1,.inr h,hc.2⟩
    ·refine .inr (λe=>h ?_)
     rw[e];rfl
  have hst:oi C (λi=>ub (oO S post sg sg) i≠none) T.ver (T.app o.dst (r.mp false (lI sg) z0 (za S.ver sg)) (oO S post sg sg)).ver g g' w w':=by
   have hub:∀j,ub (oO S post sg sg) j≠none↔∃i,mh sg j=some i:=λj=>by
    rw[rY]
    cases mh sg j<;>simp
   have hnot:∀b,(∀i,ub (oO S post sg sg) i≠none->g.ow b≠some i)->la g sg b=false:=λb hn=>by grind
   refine⟨hfr.size,λb hb' hn=>hfr.old b hb' (λe=>by have q:=hnot b hn;rw[show la g sg b=true from e]at q;cases q),λb hb' hn=>?_,λb hb' hn=>?_,λb id e=>?_,λj=>?_,λj hj=>?_,λj hj=>?_,hfr.os,hfr.tape,hfr.output⟩
   ·rw[how',aae ⟨hb',hnot b hn⟩]
   ·rw[how']at hn
    grind
   ·rw[how']at e
    split at e
    ·exact⟨aa4 (hR.dom b id e).1 hfr.size,(hR.dom b id e).2⟩
    ·cases ho:gf.ow b with
     | none=>rw[ho]at e;cases e
     | some i=>
      obtain⟨d1,d2⟩:=hfr.dom b i ho
      refine⟨d1,?_⟩
      rcases d2 with q|q
      ·exact .inl (abk hR.size q)
      ·obtain⟨j,i',h1,_⟩:=hlent b q
       exact(hR.dom b j h1).2
   ·rw[St.app_ver,rY]
    grind[za]
   ·rw[St.app_ver,rY]at hj
    cases hl:mh sg j with
    | none=>exact hsame j hl
    | some i=>
     rw[hl]at hj
     simp only[Option.map_some,Option.getD_some,za,hl]at hj
     rw[hver2 i j hl]at hj
     cases hx:eL i with
     | false=>rw[hx]at hj;simp at hj
     | true=>
      have k:=hfr.keep i hx
      have s:=DN (g:=g) hok j i hl
      have q:=hρ i j ((kH hok).2 hl)
      exact⟨q.1.trans (k.1.trans s.1),q.2.trans (k.2.trans s.2)⟩
   ·cases hl:mh sg j with
    | none=>exact hsame j hl
    | some i=>
     have hx:eL i=true:=by
      have:=hfx _ (rV hl)
      simpa[hj]using this
     have k:=hfr.keep i hx
     have s:=DN (g:=g) hok j i hl
     have q:=hρ i j ((kH hok).2 hl)
     exact⟨q.1.trans (k.1.trans s.1),q.2.trans (k.2.trans s.2)⟩
  have hnew:∀i j,lI sg i=some j->za S.ver sg j=(T.app o.dst (r.mp false (lI sg) z0 (za S.ver sg)) (oO S post sg sg)).ver j:=λi j e=>by rw[St.app_ver,rY,(kH hok).1 e];rfl
  refine⟨g',hR.appL hp.dOk hst ?_ (λj v B hu=>?_)⟩
  ·have hc:=lP (bo:=false) (vr:=z0) (vr':=(T.app o.dst (r.mp false (lI sg) z0 (za S.ver sg)) (oO S post sg sg)).ver) hN (λh=>by cases h) hρ hr
   rw[<-oM (old:=z0) (new:=za S.ver sg) (λ_ _ _=>rfl) hnew]at hc
   exact hc
  ·rw[rY]at hu
   cases hl:mh sg j with
   | none=>rw[hl]at hu;cases hu
   | some i=>
    rw[hl]at hu;cases hu
    rw[tV (old':=z0) (λ_ _ _=>rfl) hnew]
    exact rU (bo:=false) hN (λh=>by cases h) hρ (λb i j h1 h2=>by rw[how',aab (hgf b i h1),h1];exact h2) (λb i e=>(hfr.dom b i e).1) ((kH hok).2 hl) (hb i)
theorem GI:BC F S (.func f) f []:=λn C T g a w hA hR=>⟨[],rfl,rfl,λj v c h=>by simp at h⟩
theorem DP {x0:Operand}(hx:S.opd x0=.per (ai (.func (.func f) #[] #[])))(hF:∀k∈aG x0,k∈F):BC F S x0 f []:=λn C T g a w hA hR=>
 ⟨[],bf hA hF hR hx,rfl,λj v c h=>by simp at h⟩
end
section
variable {P:Program} {n:Nat} {ops:Array Oper} {o:Oper} {F:List Nat} {S T:St} {C:Ctx} {g:Gh} {a:Act} {w w':World} {t:Nat}
def rZ:List Cnt->Cnt
 | []=>.aggN
 | c::r=>.aggK c (rZ r)
def mi:Cnt->Option (List Cnt)
 | .aggN=>some []
 | .aggK c r=>(mi r).map (c::·)
 | _=>none
theorem oP:∀{c:Cnt} {l:List Cnt},mi c=some l->c=rZ l:=by
 intro c
 induction c with
 | aggN=>intro l h;cases h;rfl
 | aggK c r _ ih2=>
  intro l h
  simp only[mi]at h
  cases hr:mi r with
  | none=>rw[hr]at h;cases h
  | some l'=>rw[hr]at h;cases h;rw[ih2 hr];rfl
 | _=>intro l h;cases h
def oQ (C:Ctx)(vr:Nat->Nat)(g:Gh)(w:World)(vs:List Value)(cs:List Cnt):Prop:=
 vs.length=cs.length/\∀(j:Nat)(c:Cnt),cs[j]?=some c->∃y,vs[j]?=some y/\y.oneCell'=true/\crep C vr g w y c
theorem mJ {vr:Nat->Nat}:∀{cs:List Cnt} {v:Value},crep C vr g w v (rZ cs)↔∃vs:List Value,v=.agg vs.toArray/\oQ C vr g w vs cs:=by
 intro cs
 induction cs with
 | nil=>
  intro v
  constructor
  ·intro h;exact⟨[],h,rfl,λj c hj=>by simp at hj⟩
  ·rintro⟨vs,h,h1,_⟩
   obtain rfl:vs=[]:=aax (by simpa using h1)
   exact h
 | cons c cs ih=>
  intro v
  constructor
  ·rintro⟨x,vs,h,h1,h2,h3⟩
   obtain⟨vs',e,q1,q2⟩:=ih.1 h3
   have:vs=vs':=by simpa using e
   subst this
   refine⟨x::vs,h,by simp[q1],λj c' hj=>?_⟩
   grind
  ·rintro⟨vs,h,q1,q2⟩
   cases vs with
   | nil=>simp at q1
   | cons x vs=>
    obtain⟨y,r1,r2,r3⟩:=q2 0 c rfl
    simp at r1;subst r1
    exact⟨x,vs,h,r2,r3,ih.2 ⟨vs,rfl,by simpa using q1,λj c' hj=>q2 (j+1) c' (by simpa using hj)⟩⟩
def qx (F:List Nat)(S:St)(c:Cnt):Prop:=∀(n:Nat)(C:Ctx)(T:St)(g:Gh)(a:Act)(w:World)(v:Value),ed F T S->RG C n T g a w->crep C T.ver g w v c->v.oneCell'=true/\v.cells=#[v]
theorem NY (h:qv A):qx F S (.per A):=λ_ _ _ _ _ _ _ _ _ hc=>h _ _ _ hc
theorem NZ {vr:Nat}(hv:S.ver id=vr)(hF:2*id+1∈F):qx F S (.ptr id vr off):=λn C T g a w v hA hR hc=>by rw[hc.2 (by rw[(hA.2 id hF).2,hv])];exact⟨rfl,rfl⟩
theorem N1 {vr e:Nat}(hv:S.ver id=vr)(hb:S.blk id=.row e k es)(hF:2*id+1∈F):qx F S (.row id vr):=λn C T g a w v hA hR hc=>by
 rw[hc.2 (by rw[(hA.2 id hF).2,hv])]
 have h:=hR.blks id
 rw[(hA.2 id hF).1,hb]at h
 rcases h with⟨h1,_⟩|⟨cap,cs,h1,_⟩<;>(rw[h1];exact⟨rfl,rfl⟩)
theorem N2 {vr:Nat}{A:OV}(hv:S.ver id=vr)(hb:S.blk id=.obj A)(hF:2*id+1∈F):qx F S (.row id vr):=λn C T g a w v hA hR hc=>by
 rw[hc.2 (by rw[(hA.2 id hF).2,hv])]
 have h:=hR.blks id
 rw[(hA.2 id hF).1,hb]at h
 exact A.one h
theorem K0 {c:Cnt}:qx F S (.clo1 f c):=λn C T g a w v hA hR hc=>by obtain⟨x,e,_⟩:=hc;rw[e];exact⟨rfl,rfl⟩
theorem K2 {c:Cnt}:qx F S (.clo2 f c d):=λn C T g a w v hA hR hc=>by obtain⟨x,y,e,_⟩:=hc;rw[e];exact⟨rfl,rfl⟩
theorem K3 {c e:Cnt}:qx F S (.clo3 f c d e):=λn C T g a w v hA hR hc=>by obtain⟨x,y,z,e,_⟩:=hc;rw[e];exact⟨rfl,rfl⟩
theorem DQ {x:Operand}(hp:Pl n o t)(ho:o.op=.box e x)(hx:mi (S.opd x)=some cs) :
 aB n P ops o ((2*t+1)::aG x) (.ptr t (S.ver t+1) 0) [(t,S.ver t+1,.box e cs)] S:=
 rM hp aA λC T g a w hA hR=>by
  have h:=aM (x:=x) hA (λk h=>by simp[h]) hR
  rw[oP hx]at h
  obtain⟨vs,hv,h1,h2⟩:=mJ.1 h
  refine⟨.pointer (some ⟨w.heap.size,0,none⟩),w.alloc (.cells vs.toArray e),w.heap.size,?_,(bQ.refl w).alloc _,aaf _,gU _ _,λvr' hvr hst=>⟨?_,?_⟩⟩
  ·simp only[execOp,ho,hv,Instr.box,newVar,newRow,Value.cells,newObj,Sem.run_bind,Sem.run_pure]
   rfl
  ·grind[kF]
  ·refine rN (by simp[h1]) (λj c hj=>?_)
   obtain⟨y,g1,g2,g3⟩:=h2 j c hj
   exact⟨y,by simpa using g1,g2,hst.crep g3⟩
theorem qD {x:Operand}{vr:Nat}{new:List Cnt}(hp:Gi o)(ho:o.op=.store ty x y)(hk:P.cellsOf ty=k)(h0:Nat.blt 0 k=true)
 (hx:S.opd x=.ptr id vr off) (hv:S.ver id=vr) (hb:S.blk id=.box e cells) (hl:Nat.ble (off+k) cells.length=true) (hnl:new.length=k) (hF0:2*id+1∈F) (hFx:∀k∈aG x,k∈F)
 (hy:∀C T g a w,ed F T S->RG C n T g a w->(a.eval y).cells.size=k/\∀(j:Nat)(c:Cnt),new[j]?=some c->∃u,(a.eval y).cells[j]?=some u/\u.oneCell'=true/\crep C T.ver g w u c) :
 aB n P ops o F .any [(id,vr,.box e (lH cells off new))] S:=by
 refine⟨?_⟩
 intro C T hA a w ⟨g,hR⟩
 obtain⟨h1,cs,h2,h3,h4,h5⟩:=tQ hA hFx hF0 hR hx hv hb
 obtain⟨hys,hyc⟩:=hy C T g a w hA hR
 have h0:=aaq h0
 have hl:=aaq hl
 have hvt:=(hA.2 id hF0).2
 unfold jg
 rw[aae (by simp[Region.wanted,hp.1])]
 unfold Oper.wp
 have hone:∀u∈(a.eval y).cells.toList,u.oneCell'=true:=by
  intro u hu
  obtain⟨j,hj,rfl⟩:=List.getElem_of_mem hu
  have hj':j<new.length:=by rw[hnl,<-hys];simpa using hj
  obtain⟨u',g1,g2,_⟩:=hyc j new[j] (by simp[hj'])
  grind
 have hrun:=lN (P:=P) (ty:=ty) (off:=off) h2 (by rw[hk,hys]) ae ae hone
 have hex:(execOp a.eval o).run P w=.ok .skip (w.setRow (g.ph id) (cs.toList.take off++(a.eval y).cells.toList++cs.toList.drop (off+(a.eval y).cells.size)).toArray):=by simp_all[execOp]
 rw[hex,Oper.upon_skip]
 have hst:=pI (cs':=(cs.toList.take off++(a.eval y).cells.toList++cs.toList.drop (off+(a.eval y).cells.size)).toArray) hR rfl h2 h3
 have hver:(T.app o.dst .any [(id,vr,.box e (lH cells off new))]).ver=T.ver:=by
  funext i
  rw[St.app_some_ver]
  grind
 refine⟨g,hR.app1 (c:=.any) (λt h=>by rw[hp.2]at h;cases h) (by rw[hver];exact hst) trivial ?_⟩
 rw[hver]
 refine⟨_,setRow_heap _ _ _ _ _ _ h2,h3,?_,λj c hj=>?_⟩
 ·simp[lH];omega
 ·unfold lH at hj
  have hta:(cells.take off).length=off:=bD
  have htb:(cs.toList.take off).length=off:=bD
  rcases aaF j off with hlt|hge
  ·rw[aaz ae,aaW,aae hlt]at hj
   obtain⟨u,q1,q2,q3⟩:=h5 j c hj
   refine⟨u,?_,q2,hst.crep q3⟩
   rw[abd,aal,aaz ae,aaW,aae hlt]
   simpa using q1
  ·rw[List.getElem?_append_right ae,hta]at hj
   rcases aaF j (off+k)with hlt|hge2
   ·rw[aaz ae]at hj
    obtain⟨u,q1,q2,q3⟩:=hyc _ c hj
    refine⟨u,?_,q2,hst.crep q3⟩
    rw[abd,aal,List.getElem?_append_right ae,htb,aaz bD]
    simpa using q1
   ·rw[List.getElem?_append_right ae,hnl,abn]at hj
    obtain⟨u,q1,q2,q3⟩:=h5 _ c hj
    refine⟨u,?_,q2,hst.crep q3⟩
    rw[abd,aal,List.getElem?_append_right ae,htb,List.getElem?_append_right bD,abn]
    grind
theorem GJ {x:Operand}{vr:Nat}{c:Cnt}(hp:Gi o)(ho:o.op=.store ty x y)(hk:P.cellsOf ty=1)
 (hx:S.opd x=.ptr id vr off) (hv:S.ver id=vr) (hb:S.blk id=.box e cells) (hl:Nat.ble (off+1) cells.length=true) (hy:S.opd y=c) (hF0:2*id+1∈F) (hFx:∀k∈aG x,k∈F) (hFy:∀k∈aG y,k∈F) (h1:qx F S c) :
 aB n P ops o F .any [(id,vr,.box e (lH cells off [c]))] S:=
 qD hp ho hk rfl hx hv hb hl rfl hF0 hFx λC T g a w hA hR=>by
  have h:=aM (x:=y) hA hFy hR
  rw[hy]at h
  obtain⟨g1,g2⟩:=h1 _ _ _ _ _ _ _ hA hR h
  rw[g2]
  grind
theorem zj {x:Operand}{vr:Nat}(hp:Gi o)(ho:o.op=.store ty x y)(hk:P.cellsOf ty=k)(h0:Nat.blt 0 k=true)
 (hx:S.opd x=.ptr id vr off) (hv:S.ver id=vr) (hb:S.blk id=.box e cells) (hl:Nat.ble (off+k) cells.length=true) (hy:mi (S.opd y)=some cs) (hn:Nat.beq cs.length k=true) :
 aB n P ops o ((2*id+1)::(aG x++aG y)) .any [(id,vr,.box e (lH cells off cs))] S:=
 qD hp ho hk h0 hx hv hb hl (bc.1 hn) aA (λk h=>by simp[h]) λC T g a w hA hR=>by
  have h:=aM (x:=y) hA (λk h=>by simp[h]) hR
  rw[oP hy]at h
  obtain⟨vs,hv,q1,q2⟩:=mJ.1 h
  rw[hv]
  refine⟨by show vs.toArray.size=k;have:=bc.1 hn;simp;omega,λj c hj=>?_⟩
  obtain⟨y',s1,s2,s3⟩:=q2 j c hj
  exact⟨y',by show vs.toArray[j]?=_;simpa using s1,s2,s3⟩
theorem N3 {d:TypeDesc}{x:Operand}{vr:Nat}(hp:Pl n o t)(ho:o.op=.load ty x)(hT:P.underlying ty=some d)(hd:iJ d=true)(hk:P.cellsOf ty=k)(h0:Nat.blt 0 k=true)
 (hx:S.opd x=.ptr id vr off) (hv:S.ver id=vr) (hb:S.blk id=.box e cells) (hl:Nat.ble (off+k) cells.length=true):aB n P ops o ((2*id+1)::aG x) (rZ ((cells.drop off).take k)) [] S:=
 aZ hp λC T g a w hA hR=>by
  obtain⟨h1,cs,h2,_,h4,h5⟩:=tQ hA (λk h=>by simp[h]) aA hR hx hv hb
  have h0:=aaq h0
  have hl:=aaq hl
  have hcell:∀(j:Nat)(u:Value),((cs.toList.drop off).take k)[j]?=some u->w.cell? ⟨g.ph id,off+j,none⟩=some u:=by grind[ei]
  have hlen:((cs.toList.drop off).take k).length=k:=bD
  refine⟨.agg ((cs.toList.drop off).take k).toArray,?_,mJ.2 ⟨_,rfl,bD,λj c hj=>?_⟩⟩
  ·simp only[execOp,ho,h1,Sem.run_bind,fD (b:=g.ph id) (o:=off) hT hd (by rw[hk,hlen]) ae hcell];rfl
  grind
def Tz (zs:List Cnt)(off:Nat)(ps:List Cnt):List Cnt:=zs.take off++(ps++zs.drop (off+ps.length))
def DR (place:Nat->Option (Nat×Nat))(zs:List Cnt):List (Nat×List Cnt)->Option (List Cnt)
 | []=>some zs
 | (i,ps)::rest=>match place i with
  | none=>none
  | some (off,size)=>bif Nat.beq ps.length size&&Nat.ble (off+size) zs.length then DR place (Tz zs off ps) rest else none
theorem GK {vr:Nat->Nat}{cs:Array Value}{zs ps:List Cnt}{vs:Array Value}(h:oQ C vr g w cs.toList zs)(hv:oQ C vr g w vs.toList ps)(hl:off+ps.length<=zs.length) :
 oQ C vr g w (vs.zipIdx.foldl (λcs (c,j)=>cs.setIfInBounds (off+j) c) cs).toList (Tz zs off ps):=by
 have hvs:vs.size=ps.length:=by simpa using hv.1
 have hcs:cs.size=zs.length:=by simpa using h.1
 have hz:vs.zipIdx.foldl (λcs (c,j)=>cs.setIfInBounds (off+j) c) cs=(vs.toList.zipIdx 0).foldl (λcs (c,j)=>cs.setIfInBounds (off+j) c) cs:=by rw[<-Array.foldl_toList,Array.toList_zipIdx]
 rw[hz]
 have hf:=λi=>zJ vs.toList 0 off cs i bD
 refine⟨by rw[abp,(hf 0).1];simp[Tz];omega,λj A hj=>?_⟩
 rw[Array.getElem?_toList,(hf j).2]
 unfold Tz at hj
 have hta:(zs.take off).length=off:=bD
 simp only[abo,abp]
 rcases aaF j off with hlt|hge
 ·rw[aaz ae,aaW,aae hlt]at hj
  rw[aab ae]
  have:=h.2 j A hj
  simpa using this
 ·rw[List.getElem?_append_right ae,hta]at hj
  rcases aaF j (off+ps.length)with hlt|hge2
  ·rw[aaz ae]at hj
   rw[aae ⟨ae,ae⟩]
   exact hv.2 _ A hj
  ·rw[List.getElem?_append_right ae,abn]at hj
   rw[aab ae]
   have:=h.2 _ A hj
   rw[show off+ps.length+(j-off-ps.length)=j by omega]at this
   simpa using this
def N4 (F:List Nat)(S:St)(x:Operand)(ps:List Cnt):Prop:=(∃As,S.opd x=.per (cu As)/\ps=As.map .per)\/(∃c,S.opd x=c/\qx F S c/\ps=[c])\/mi (S.opd x)=some ps
inductive tX (F:List Nat)(S:St):List (Nat×Operand)->List (Nat×List Cnt)->Prop
 | nil:tX F S [] []
 | cons {i:Nat} {x:Operand} {ps:List Cnt} {l:List (Nat×Operand)} {l':List (Nat×List Cnt)} (h:N4 F S x ps) (k:tX F S l l'):tX F S ((i,x)::l) ((i,ps)::l')
theorem N4.rep {x:Operand}{ps:List Cnt}(h:N4 F S x ps)(hA:ed F T S)(hF:∀k∈aG x,k∈F)(hR:RG C n T g a w):oQ C T.ver g w (a.eval x).cells.toList ps:=by
 have hr:=aM (x:=x) hA hF hR
 rcases h with⟨As,h,rfl⟩|⟨c,h,h1,rfl⟩|h
 ·rw[h]at hr
  obtain⟨vs,hv,hc⟩:=hr
  rw[hv]
  refine⟨by show vs.toList.length=_;simpa using hc.1,λj c hj=>?_⟩
  rw[List.getElem?_map]at hj
  cases hA':As[j]? with
  | none=>rw[hA']at hj;cases hj
  | some A=>
   rw[hA']at hj;cases hj
   obtain⟨y,q1,q2,q3⟩:=hc.2 j A hA'
   exact⟨y,by show vs.toList[j]?=_;simpa using q1,q2,q3⟩
 ·rw[h]at hr
  obtain⟨q1,q2⟩:=h1 _ _ _ _ _ _ _ hA hR hr
  rw[q2]
  refine⟨rfl,λj c' hj=>?_⟩
  grind
 ·rw[oP h]at hr
  obtain⟨vs,hv,hc⟩:=mJ.1 hr
  rw[hv];exact hc
theorem K4 {place:Nat->Option (Nat×Nat)}{parts:List (Nat×Operand)}{pps:List (Nat×List Cnt)}(h:tX F S parts pps)(hA:ed F T S)(hF:∀k∈iK parts,k∈F)(hR:RG C n T g a w) :
 ∀{cells:Array Value} {zs cs:List Cnt},oQ C T.ver g w cells.toList zs->DR place zs pps=some cs->∃out,Instr.fill place cells (parts.map λ(i,x)=>(i,a.eval x))=some out/\oQ C T.ver g w out.toList cs:=by
 induction h with
 | nil=>intro cells zs cs hc hf;cases hf;exact⟨cells,rfl,hc⟩
 | @cons i x ps l l' h k ih=>
  intro cells zs cs hc hf
  have hx:=h.rep hA (λk hk=>hF k (by simp[iK,hk])) hR
  unfold DR at hf
  cases hp:place i with
  | none=>grind
  | some p=>
   obtain⟨off,size⟩:=p
   simp only[hp]at hf
   cases hb:(Nat.beq ps.length size&&Nat.ble (off+size) zs.length)with
   | false=>rw[hb]at hf;cases hf
   | true=>
    rw[hb]at hf
    simp only[cond_true]at hf
    rw[aaC]at hb
    have h1:=bc.1 hb.1
    have h2:=aaq hb.2
    have hcs:cells.size=zs.length:=by simpa using hc.1
    have hxs:(a.eval x).cells.size=ps.length:=by simpa using hx.1
    obtain⟨out,q1,q2⟩:=ih (λk hk=>hF k (by grind[iK])) (GK (off:=off) hc hx ae) hf
    grind[Instr.fill]
theorem DS {vr:Nat->Nat}{vs:List Value}(h:vs.all (·.oneCell')=true):oQ C vr g w vs (vs.map Ny):=by
 refine⟨aA,λj c hj=>?_⟩
 rw[List.getElem?_map]at hj
 cases hv:vs[j]? with
 | none=>rw[hv]at hj;cases hj
 | some y=>
  rw[hv]at hj;cases hj
  rw[aaH]at h
  exact⟨y,rfl,h y (aa3 hv),rfl⟩
theorem K5 {z:Value}{ls:List (Nat×Nat)}{parts:List (Nat×Operand)}{pps:List (Nat×List Cnt)}(hp:Pl n o t)(ho:o.op=.build ty parts.toArray)(hl:Dy P ty=some ls)(hz:(P.info? ty).bind (·.zero)=some z)
 (h1:z.cells.toList.all (·.oneCell')=true) (hF:∀k∈iK parts,k∈F) (hpt:tX F S parts pps) (hf:DR (λi=>ls[i]?) (z.cells.toList.map Ny) pps=some cs):aB n P ops o F (rZ cs) [] S:=
 aZ hp λC T g a w hA hR=>by
  obtain⟨out,r1,r2⟩:=K4 hpt hA hF hR (DS h1) hf
  refine⟨.agg out,?_,mJ.2 ⟨out.toList,aA,r2⟩⟩
  simp_all[execOp,run_build,Dz]
theorem TA {x:Operand}{vr:Nat}(hp:Pl n o t)(ho:o.op=.nilCheck x)(hx:S.opd x=.ptr id vr off)(hv:S.ver id=vr):aB n P ops o ((2*id+1)::aG x) (.ptr id vr off) [] S:=
 aZ hp λC T g a w hA hR=>by
  have h:=aM (x:=x) hA (λk h=>by simp[h]) hR
  rw[hx]at h
  have hv':=(hA.2 id aA).2
  have hev:=h.2 ae
  simp_all[execOp]
theorem GM {x:Operand}{cs:List PV}(hp:Pl n o t)(ho:o.op=.nilCheck x)(hx:S.opd x=.per (em cs)):aB n P ops o (aG x) (.per (em cs)) [] S:=
 aZ hp λC T g a w hA hR=>by
  have h:=aM (x:=x) hA (λk h=>by simp[h]) hR
  rw[hx]at h
  obtain⟨b,q,hev,_⟩:=h
  exact⟨a.eval x,by simp_all[execOp],by rw[<-hx];grind[aM]⟩
def pS (F:List Nat)(S:St)(x:Operand):Prop:=∀(n:Nat)(C:Ctx)(T:St)(g:Gh)(a:Act)(w:World),ed F T S->RG C n T g a w->∃ad,a.eval x=.pointer (some ad)
theorem N5 {x:Operand}{vr:Nat}(hx:S.opd x=.ptr id vr off)(hv:S.ver id=vr):pS ((2*id+1)::aG x) S x:=λn C T g a w hA hR=>by
 have h:=aM (x:=x) hA (λk h=>by simp[h]) hR
 rw[hx]at h
 have hv':=(hA.2 id aA).2
 exact⟨_,h.2 ae⟩
theorem Wh {x:Operand}{cs:List PV}(hx:S.opd x=.per (em cs)):pS (aG x) S x:=λn C T g a w hA hR=>by
 have h:=aM (x:=x) hA (λk h=>by simp[h]) hR
 rw[hx]at h
 obtain⟨b,q,hev,_⟩:=h
 exact⟨_,hev⟩
theorem Jv {x:Operand}{p:Option Addr}(hT:P.underlying ty=some (.pointer e))(w:World):(do eqGuard .eql ty x y (.pointer p) (.pointer none);binOp .eql ty (.pointer p) (.pointer none)).run P w=.ok (.bool p.isNone) w:=by grind[Program.pointee,eqGuard,run_eql_pointer_nil]
theorem Jw {x:Operand}{p:Option Addr}(hT:P.underlying ty=some (.pointer e))(w:World):(do eqGuard .neq ty x y (.pointer p) (.pointer none);binOp .neq ty (.pointer p) (.pointer none)).run P w=.ok (.bool (!p.isNone)) w:=by grind[Program.pointee,eqGuard,run_neq_pointer_nil]
theorem fL {op:BinOp}{x:Operand}{u v r:Value}(ho:o.op=.binOp op ty x y ty')(hx:a.eval x=u)(hy:a.eval y=v)(h:(do eqGuard op ty x y u v;binOp op ty u v).run P w=.ok r w):(execOp a.eval o).run P w=.ok (.value r) w:=by
 simp only[execOp,ho,hx,hy,Sem.run_bind]at h ⊢
 rw[h];rfl
theorem N6 {x:Operand}(hp:Pl n o t)(ho:o.op=.binOp .eql ty x (.const (.pointer none)) ty')(hT:P.underlying ty=some (.pointer e))(hx:pS F S x):aB n P ops o F (bC false) [] S:=
 aZ hp λC T g a w hA hR=>by
  obtain⟨ad,hev⟩:=hx n C T g a w hA hR
  exact⟨.bool false,fL ho hev rfl (Jv hT w),rfl⟩
theorem N7 {x:Operand}(hp:Pl n o t)(ho:o.op=.binOp .neq ty x (.const (.pointer none)) ty')(hT:P.underlying ty=some (.pointer e))(hx:pS F S x):aB n P ops o F (bC true) [] S:=
 aZ hp λC T g a w hA hR=>by
  obtain⟨ad,hev⟩:=hx n C T g a w hA hR
  exact⟨.bool true,fL ho hev rfl (Jw hT w),rfl⟩
theorem K6 {x:Operand}(hp:Pl n o t)(ho:o.op=.binOp .eql ty x (.const (.pointer none)) ty')(hT:P.underlying ty=some (.pointer e))(hx:S.opd x=.per (ai (.pointer none))):aB n P ops o (aG x) (bC true) [] S:=
 aZ hp λC T g a w hA hR=>by
  have hev:=bf (x:=x) hA (λk h=>by simp[h]) hR hx
  exact⟨.bool true,fL ho hev rfl (Jv hT w),rfl⟩
theorem K7 {x:Operand}(hp:Pl n o t)(ho:o.op=.binOp .neq ty x (.const (.pointer none)) ty')(hT:P.underlying ty=some (.pointer e))(hx:S.opd x=.per (ai (.pointer none))):aB n P ops o (aG x) (bC false) [] S:=
 aZ hp λC T g a w hA hR=>by
  have hev:=bf (x:=x) hA (λk h=>by simp[h]) hR hx
  exact⟨.bool false,fL ho hev rfl (Jw hT w),rfl⟩
theorem GN {x:Operand}{vr e m:Nat}{es':List (List PV)}{ps As:List PV}(hp:Gi o)(ho:o.op=.store ty x y)(hk:P.cellsOf ty=m)(h0:Nat.blt 0 m=true)
 (hx:S.opd x=.ept id vr k i j) (hv:S.ver id=vr) (hb:S.blk id=.row e k es) (hi:es[i]?=some ps) (hl:Nat.ble (j+m) k=true)
 (hy:(S.opd y=.per (cu As))\/∃A,S.opd y=.per A/\qv A/\As=[A]) (hn:As.length=m) (he:es.set i (cN ps j As)=es') :
 aB n P ops o ((2*id+1)::(aG x++aG y)) .any [(id,vr,.row e k es')] S:=by
 subst he
 refine⟨?_⟩
 intro C T hA a w ⟨g,hR⟩
 have hxe:=aM (x:=x) hA (λk h=>by simp[h]) hR
 rw[hx]at hxe
 have hvt:=(hA.2 id aA).2
 have hev:=hxe.2 (by rw[hvt,hv])
 have hB:=hR.blks id
 rw[(hA.2 id aA).1,hb]at hB
 have hye:iq (g.N C) w (a.eval y).cells As:=by
  have hr:=aM (x:=y) hA (λk h=>by simp[h]) hR
  rcases hy with h|⟨A,h,h1,rfl⟩
  ·rw[h]at hr
   obtain⟨vs,hv,hc⟩:=hr
   rw[hv];exact hc
  ·rw[h]at hr
   obtain⟨q1,q2⟩:=h1 _ _ _ hr
   rw[q2]
   refine⟨rfl,λj A' hj=>?_⟩
   cases j with
   | zero=>simp at hj;subst hj;exact⟨_,rfl,q1,hr⟩
   | succ j=>simp at hj
 rcases hB with⟨_,rfl⟩|⟨cap,cs,q1,q2,q3,q4,q5,q6,q7⟩
 ·simp at hi
 have h0:=aaq h0
 have hl:=aaq hl
 have hil:i<es.length:=(aaM.1 hi).1
 have hpk:ps.length=k:=(q7 i ps hi).1
 have hbound:i*k+k<=cs.size:=by
  have:=aaT k (show i+1<=cap by omega)
  rw[abj]at this;omega
 have hys:=hye.1
 have hone:∀u∈(a.eval y).cells.toList,u.oneCell'=true:=by
  intro u hu
  obtain⟨q,hq,rfl⟩:=List.getElem_of_mem hu
  have hq':q<As.length:=by rw[<-hys];simpa using hq
  obtain⟨u',g1,g2,_⟩:=hye.2 q As[q] (by simp[hq'])
  grind
 unfold jg
 rw[aae (by simp[Region.wanted,hp.1])]
 unfold Oper.wp
 have hrun:=lN (P:=P) (ty:=ty) (off:=i*k+j) q2 (by rw[hk,hys,hn]) ae ae hone
 have hex:(execOp a.eval o).run P w=.ok .skip (w.setRow (g.ph id) (cs.toList.take (i*k+j)++(a.eval y).cells.toList++cs.toList.drop (i*k+j+(a.eval y).cells.size)).toArray):=by simp_all[execOp]
 rw[hex,Oper.upon_skip]
 have hst:=pI (cs':=(cs.toList.take (i*k+j)++(a.eval y).cells.toList++cs.toList.drop (i*k+j+(a.eval y).cells.size)).toArray) hR rfl q2 q3
 have hver:(T.app o.dst .any [(id,vr,.row e k (es.set i (cN ps j As)))]).ver=T.ver:=by
  funext i'
  rw[St.app_some_ver]
  grind
 refine⟨g,hR.app1 (c:=.any) (λt h=>by rw[hp.2]at h;cases h) (by rw[hver];exact hst) trivial ?_⟩
 rw[hver]
 have hlen2:(es.set i (cN ps j As)).length=es.length:=aA
 have hspl:(cN ps j As).length=k:=by simp[cN];omega
 refine .inr ⟨cap,_,by rw[hlen2];exact q1,setRow_heap _ _ _ _ _ _ q2,q3,by rw[hlen2];exact q4,q5,bD,λi' ps' hi'=>?_⟩
 have hto:(cs.toList.take (i*k+j)).length=i*k+j:=bD
 -- a cell behind the store
 have hcell:∀q,((cs.toList.take (i*k+j)++(a.eval y).cells.toList++cs.toList.drop (i*k+j+(a.eval y).cells.size)).toArray)[q]?=if i*k+j<=q/\q<i*k+j+m then(a.eval y).cells[q-(i*k+j)]? else cs[q]?:=by
  intro q
  rw[abd]
  rcases aaF q (i*k+j)with hlt|hge
  ·rw[aab ae,aal,aaz ae,aaW,aae hlt];simp
  ·rw[aal,List.getElem?_append_right ae,hto]
   rcases aaF q (i*k+j+m)with hlt|hge2
   ·rw[aae ⟨hge,hlt⟩,aaz bD];simp
   ·rw[aab ae,List.getElem?_append_right bD,abn]
    simp only[abp,hys,Array.getElem?_toList]
    congr 1;omega
 by_cases hii:i'=i
 ·subst hii
  rw[List.getElem?_set_self ae]at hi'
  cases hi'
  refine⟨hspl,λq A hq=>?_⟩
  have hqk:q<k:=by have:=(aaM.1 hq).1;omega
  rw[hcell]
  unfold cN at hq
  have hta:(ps.take j).length=j:=bD
  rcases aaF q j with hlt|hge
  ·rw[aaz ae,aaW,aae hlt]at hq
   rw[aab ae]
   obtain⟨u,s1,s2,s3⟩:=(q7 _ ps hi).2 q A hq
   exact⟨u,s1,s2,A.mono hst.sz hst.keepN hst.n s3⟩
  ·rw[List.getElem?_append_right ae,hta]at hq
   rcases aaF q (j+m)with hlt|hge2
   ·rw[aaz ae]at hq
    rw[aae ae]
    obtain⟨u,s1,s2,s3⟩:=hye.2 _ A hq
    exact⟨u,by rw[<-s1];congr 1;omega,s2,A.mono hst.sz hst.keepN hst.n s3⟩
   ·rw[List.getElem?_append_right ae,abn]at hq
    rw[aab ae]
    obtain⟨u,s1,s2,s3⟩:=(q7 _ ps hi).2 _ A hq
    exact⟨u,by rw[<-s1];congr 1;omega,s2,A.mono hst.sz hst.keepN hst.n s3⟩
 ·rw[List.getElem?_set_ne (Ne.symm hii)]at hi'
  obtain⟨r1,r2⟩:=q7 i' ps' hi'
  refine⟨r1,λq A hq=>?_⟩
  obtain⟨u,s1,s2,s3⟩:=r2 q A hq
  have hqk:q<k:=by have:=(aaM.1 hq).1;omega
  rw[hcell,aab ?_]
  ·exact⟨u,s1,s2,A.mono hst.sz hst.keepN hst.n s3⟩
  ·rintro⟨h1,h2⟩
   rcases Nat.lt_or_gt_of_ne hii with hlt|hgt
   ·have:=aaT k (show i'+1<=i by omega)
    rw[abj]at this;omega
   ·have:=aaT k (show i+1<=i' by omega)
    rw[abj]at this;omega
theorem r0 {t:Nat}{c c':Cnt}(h0:S.get t=c)(h:c=c'):S.put (some t) c'=S:=by
 subst h0;subst h
 refine St.ext' (λu=>?_) (λ_=>⟨rfl,rfl⟩)
 rw[St.put_get]
 grind
theorem pT {l:List Oper}{Q:St->Prop}{tg:Nat}{want b:Bool}(_:o.guard=some (j,want))(_:(ops[j]?).bind (·.dst)=some tg)(hb:S.get tg=bC b)
 (h1:b=true->AL P n ops Q (o::l) (S.put (some tg) (bC true))) (h2:b=false->AL P n ops Q (o::l) (S.put (some tg) (bC false))):AL P n ops Q (o::l) S:=by
 cases b with
 | true=>have:=h1 rfl;rwa [r0 hb rfl]at this
 | false=>have:=h2 rfl;rwa [r0 hb rfl]at this
theorem pU {l:List Oper}{Q:St->Prop}{done:List (List Nat×List Nat)}{tg:Nat}{want b:Bool}(_:o.guard=some (j,want))(_:(ops[j]?).bind (·.dst)=some tg)(hb:S.get tg=bC b)
 (h1:b=true->AD P n ops Q done (o::l) (S.put (some tg) (bC true))) (h2:b=false->AD P n ops Q done (o::l) (S.put (some tg) (bC false))):AD P n ops Q done (o::l) S:=by
 cases b with
 | true=>have:=h1 rfl;rwa [r0 hb rfl]at this
 | false=>have:=h2 rfl;rwa [r0 hb rfl]at this
end
theorem TD {p q:Int}(h:0<=p):p.tmod q=p % q:=Int.tmod_eq_emod_of_nonneg h
theorem TE {p q:Int}(h:0<=p)(h1:-9223372036854775808<=p / q)(h2:p / q<=9223372036854775807):IntKind.i64.wrap (p.tdiv q)=p / q:=by rw[abf h];exact dB h1 h2
theorem TF {n:Nat}(h:n<=9223372036854775806):IntKind.i64.wrap (((n+1:Nat):Int)-1)=(n:Int):=by rw[dB ae ae];omega
theorem K8 (c:UInt8):IntKind.i64.wrap (c.toNat:Int)=(c.toNat:Int):=dB ae (by have:=c.toNat_lt;omega)
def GP:Cnt->List Nat
 | .row id _=>[2*id+1]
 | .ptr id _ _=>[2*id+1]
 | .ept id _ _ _ _=>[2*id+1]
 | .vw id _ _ _ _=>[2*id+1]
 | _=>[]
section
variable {P:Program} {n:Nat} {ops:Array Oper} {o:Oper} {F F':List Nat} {S:St} {t:Nat} {c:Cnt}
theorem qx.mono (h:qx F S c)(hF:∀k∈F,k∈F'):qx F' S c:=λn C T g a w v hA hR hc=>h n C T g a w v ⟨λt ht=>hA.1 t (hF _ ht),λi hi=>hA.2 i (hF _ hi)⟩ hR hc
def wI (S:St)(c:Cnt):Prop:=qx (GP c) S c
theorem fM (h:qv A):wI S (.per A):=NY h
theorem fN {vr:Nat}(hv:S.ver id=vr):wI S (.ptr id vr off):=NZ hv (by simp[GP])
theorem fw {vr e:Nat}(hv:S.ver id=vr)(hb:S.blk id=.row e k es):wI S (.row id vr):=N1 hv hb (by simp[GP])
theorem fO {vr:Nat}{A:OV}(hv:S.ver id=vr)(hb:S.blk id=.obj A):wI S (.row id vr):=N2 hv hb (by simp[GP])
theorem eN {c:Cnt}:wI S (.clo1 f c):=K0
theorem eO {c:Cnt}:wI S (.clo2 f c d):=K2
theorem eR {c e:Cnt}:wI S (.clo3 f c d e):=K3
theorem pV {x:Operand}{vr:Nat}(hp:Gi o)(ho:o.op=.store ty x y)(hk:gC P ty 1)
 (hx:S.opd x=.ptr id vr off) (hv:S.ver id=vr) (hb:S.blk id=.box e cells) (hl:Nat.ble (off+1) cells.length=true) (hy:S.opd y=c) (h1:wI S c) :
 aB n P ops o ((2*id+1)::(aG x++aG y++GP c)) .any [(id,vr,.box e (lH cells off [c]))] S:=
 GJ hp ho hk.h hx hv hb hl hy aA (λk h=>by simp[h]) (λk h=>by simp[h]) (qx.mono h1 λk h=>by simp[h])
theorem BD {x:Operand}{vr:Nat}(hp:Gi o)(ho:o.op=.store ty x y)(hk:gC P ty k)(h0:Nat.blt 0 k=true)
 (hx:S.opd x=.ptr id vr off) (hv:S.ver id=vr) (hb:S.blk id=.box e cells) (hl:Nat.ble (off+k) cells.length=true) (hy:mi (S.opd y)=some cs) (hn:Nat.beq cs.length k=true) :
 aB n P ops o ((2*id+1)::(aG x++aG y)) .any [(id,vr,.box e (lH cells off cs))] S:=zj hp ho hk.h h0 hx hv hb hl hy hn
theorem TG {x:Operand}{vr:Nat}(hp:Pl n o t)(ho:o.op=.load ty x)(hT:dH P ty true)(hk:gC P ty k)(h0:Nat.blt 0 k=true)
 (hx:S.opd x=.ptr id vr off) (hv:S.ver id=vr) (hb:S.blk id=.box e cells) (hl:Nat.ble (off+k) cells.length=true) (hc:rZ ((cells.drop off).take k)=c):aB n P ops o ((2*id+1)::aG x) c [] S:=by obtain⟨d,h1,h2⟩:=hT.h;subst hc;exact N3 hp ho h1 h2 hk.h h0 hx hv hb hl
def N8 (S:St)(x:Operand)(ps:List Cnt):Prop:=(∃As,S.opd x=.per (cu As)/\ps=As.map .per)\/(∃c,S.opd x=c/\wI S c/\ps=[c])\/mi (S.opd x)=some ps
theorem kR {x:Operand}{c:Cnt}(h:S.opd x=c)(h1:wI S c):N8 S x [c]:=.inr (.inl ⟨c,h,h1,rfl⟩)
theorem TH {x:Operand}{ps:List Cnt}(h:mi (S.opd x)=some ps):N8 S x ps:=.inr (.inr h)
inductive oS (S:St):List (Nat×Operand)->List (Nat×List Cnt)->Prop
 | nil:oS S [] []
 | cons {i:Nat} {x:Operand} {ps:List Cnt} {l:List (Nat×Operand)} {l':List (Nat×List Cnt)} (h:N8 S x ps) (k:oS S l l'):oS S ((i,x)::l) ((i,ps)::l')
def wJ (S:St)(l:List (Nat×Operand)):List Nat:=l.flatMap λx=>aG x.2++GP (S.opd x.2)
theorem oS.toC {l:List (Nat×Operand)}{l':List (Nat×List Cnt)}(h:oS S l l'){F:List Nat}(hF:∀k∈wJ S l,k∈F):tX F S l l':=by
 induction h with
 | nil=>exact .nil
 | @cons i x ps l l' h k ih=>
  refine .cons ?_ (ih λk hk=>hF k (by grind[wJ]))
  rcases h with h|⟨c,h,h1,rfl⟩|h
  ·exact .inl h
  ·exact .inr (.inl ⟨c,h,qx.mono h1 (λk hk=>hF k (by grind[wJ])),rfl⟩)
  ·exact .inr (.inr h)
theorem N9 {z:Value}{ls:List (Nat×Nat)}{parts:List (Nat×Operand)}{pps:List (Nat×List Cnt)}(hp:Pl n o t)(ho:o.op=.build ty parts.toArray)(hl:ir P ty ls)(hz:ky P ty z)
 (h1:z.cells.toList.all (·.oneCell')=true) (hpt:oS S parts pps) (hf:DR (λi=>ls[i]?) (z.cells.toList.map Ny) pps=some cs) (hc:rZ cs=c):aB n P ops o (wJ S parts) c [] S:=by
 subst hc
 exact K5 hp ho hl.h hz.h h1 (λk hk=>by grind[iK,wJ]) (hpt.toC λ_ h=>h) hf
theorem aW {x:Operand}{vr e m:Nat}{es':List (List PV)}{ps As:List PV}(hp:Gi o)(ho:o.op=.store ty x y)(hk:gC P ty m)(h0:Nat.blt 0 m=true)
 (hx:S.opd x=.ept id vr k i j) (hv:S.ver id=vr) (hb:S.blk id=.row e k es) (hi:es[i]?=some ps) (hl:Nat.ble (j+m) k=true)
 (hy:oI S y As) (hn:As.length=m) (he:es.set i (cN ps j As)=es'):aB n P ops o ((2*id+1)::(aG x++aG y)) .any [(id,vr,.row e k es')] S:=
 GN hp ho hk.h h0 hx hv hb hi hl hy hn he
theorem Oa {α:Type}{x ix:Operand}{kk:IntKind}{l:List α}{f:α->List PV}(hp:Pl n o t)(ho:o.op=.indexAddr ty x ix)(hT:gB P ty (.slice e))(hk:gC P e k)(h0:Nat.blt 0 k=true)(hx:S.opd x=.per (cn k (l.map f)))(hi:S.opd ix=iC kk z)(hz:0<=z)(hlt:z.toNat<l.length) :
 aB n P ops o (aG x++aG ix) (.per (em (f (l[z.toNat]'hlt)))) [] S:=jh hp ho hT hk h0 hx hi (i:=z.toNat) ae (kG hlt)
theorem GQ {e':TypeId}{x ix:Operand}{vr e:Nat}{kk:IntKind}(hp:Pl n o t)(ho:o.op=.indexAddr ty x ix)(hT:gB P ty (.slice e'))(hk:gC P e' k)(h0:Nat.blt 0 k=true)(hx:S.opd x=.row id vr)(hv:S.ver id=vr)(hb:S.blk id=.row e k es)(hi:S.opd ix=iC kk z)(hz:0<=z)(hlt:z.toNat<es.length) :
 aB n P ops o ((2*id+1)::(aG x++aG ix)) (.ept id vr k z.toNat 0) [] S:=tR hp ho hT hk h0 hx hv hb hi ae hlt
theorem mK {x ix:Operand}{kk:IntKind}{s:ByteArray}(hp:Pl n o t)(ho:o.op=.index ty x ix)(hT:gB P ty .string)(hx:S.opd x=sC s)(hi:S.opd ix=iC kk z)(hz:0<=z)(hlt:z.toNat<s.data.toList.length) :
 aB n P ops o (aG x++aG ix) (iC .u8 ((s.data.toList[z.toNat]'hlt).toNat:Int)) [] S:=ji hp ho hT hx hi (i:=z.toNat) ae (aaa hlt)
theorem TJ {x:Operand}{s u:ByteArray}(hp:Pl n o t)(ho:o.op=.binOp .add ty x y ty')(hx:S.opd x=sC s)(hy:S.opd y=sC u)(hb:s.size+u.size<=9223372036854775807):aB n P ops o (aG x++aG y) (sC (s++u)) [] S:=
 aZ hp λC T g a w hA hR=>by
  have h1:=bf (x:=x) hA (λk h=>by simp[h]) hR hx
  have h2:=bf (x:=y) hA (λk h=>by simp[h]) hR hy
  refine⟨.string (s++u),fL ho h1 h2 ?_,rfl⟩
  rw[show eqGuard .add ty x y (.string s) (.string u)=pure ()from rfl]
  simp[binOp,Op.stringOp]
  omega
theorem TK {x:Operand}(hp:Pl n o t)(ho:o.op=.binOp .eql ty x (.const (.pointer none)) ty')(hT:gB P ty (.pointer e))(hx:pS F S x):aB n P ops o F (bC false) [] S:=N6 hp ho hT.h hx
theorem TL {x:Operand}(hp:Pl n o t)(ho:o.op=.binOp .neq ty x (.const (.pointer none)) ty')(hT:gB P ty (.pointer e))(hx:pS F S x):aB n P ops o F (bC true) [] S:=N7 hp ho hT.h hx
theorem Ob {x:Operand}(hp:Pl n o t)(ho:o.op=.binOp .eql ty x (.const (.pointer none)) ty')(hT:gB P ty (.pointer e))(hx:S.opd x=.per (ai (.pointer none))):aB n P ops o (aG x) (bC true) [] S:=K6 hp ho hT.h hx
theorem Oc {x:Operand}(hp:Pl n o t)(ho:o.op=.binOp .neq ty x (.const (.pointer none)) ty')(hT:gB P ty (.pointer e))(hx:S.opd x=.per (ai (.pointer none))):aB n P ops o (aG x) (bC false) [] S:=K7 hp ho hT.h hx
theorem lb.mono {sg:List (Nat×Nat)}{x:Operand}(h:lb F S sg x c)(hF:∀k∈F,k∈F'):lb F' S sg x c:=λn C T g a w hA hR=>h n C T g a w ⟨λt ht=>hA.1 t (hF _ ht),λi hi=>hA.2 i (hF _ hi)⟩ hR
def Gk (sg:List (Nat×Nat)):List Nat:=sg.map λp=>2*p.2+1
inductive uY (S:St)(sg:List (Nat×Nat)):List Operand->List Cnt->Prop
 | nil:uY S sg [] []
 | cons {x:Operand} {c:Cnt} {xs:List Operand} {cs:List Cnt} (h:lb (ej S x++Gk sg) S sg x c) (t:uY S sg xs cs):uY S sg (x::xs) (c::cs)
theorem uY.gives {sg:List (Nat×Nat)}(h:uY S sg xs cs){F:List Nat}(hF:∀k∈fZ S xs,k∈F)(hS:∀k∈Gk sg,k∈F):nr F S sg xs cs:=by
 induction h with
 | nil=>exact .nil
 | cons h t ih=>exact .cons (h.mono (F':=F) (λk hk=>by grind[fZ])) (ih (λk hk=>hF k (by grind[fZ])))
section
variable {sg:List (Nat×Nat)} {x:Operand}
theorem qS (hx:S.opd x=.per A):lb (ej S x++Gk sg) S sg x (.per A):=λn C T g a w hA hR=>by
 have h:=aM (x:=x) hA (λk h=>by simp[ej,h]) hR
 rw[hx]at h
 exact A.mono (aaf _) (λ_ _ _=>rfl) (λb _ h=>zS b h) h
theorem qT (hx:S.opd x=.per (cn k es)):lb (ej S x++Gk sg) S sg x (.bor k es):=Xf hx (λk h=>by simp[ej,h])
theorem qU (hx:S.opd x=.bor k es):lb (ej S x++Gk sg) S sg x (.bor k es):=λn C T g a w hA hR=>by
 have h:=aM (x:=x) hA (λk h=>by simp[ej,h]) hR
 rw[hx]at h
 exact eW.mono (aaf _) (λ_ _ _=>rfl) (λ_ _ _=>rfl) (λb _ h=>DM b h) (λb _ h=>zS b h) h
theorem oT (hok:Nh sg=true)(h:(S.opd x).mp true (mh sg) S.ver z0=c):lb (ej S x++Gk sg) S sg x c:=Xe hok (λk h=>by simp[ej,h]) (λp hp=>by grind[Gk]) h
end
theorem wK {sg:List (Nat×Nat)}:∀p∈sg,2*p.2+1∈Gk sg:=λp hp=>List.mem_map.2 ⟨p,hp,rfl⟩
theorem c_M {pre:List (Nat×Blk)}(sg:List (Nat×Nat))(hf:bZ P f As pre r post)(hp:KZ n o:=by exact⟨rfl,rfl⟩)(ho:kI o (.func f) xs:=by exact⟨_,rfl⟩)(hok:NX sg=true:=by rfl)
 (hg:uY S sg xs As:=by first|((repeat (first|exact uY.nil|(refine uY.cons ?_ ?_;focus (first|exact qS rfl|exact qT rfl|exact gq_row rfl rfl rfl rfl|exact qU rfl|exact gq_nil rfl|exact gq_nil' rfl|exact oT rfl rfl))));done)|fail) (hpre:oj S sg pre:=by first|((repeat (first|exact oj.nil|(refine oj.cons rfl rfl ?_)));done)|fail):aB n P ops o (fZ S xs++Gk sg) (r.mp false (lI sg) z0 (za S.ver sg)) (oO S post sg sg) S:=
 mI (cs:=[]) sg hp ho GI (by simpa using hf) hok (λp h=>by simp[wK p h]) (hg.gives (λ_ h=>by simp[h]) (λ_ h=>by simp[h])) hpre
theorem c_R {x:Operand}{B:Blk}{vr:Nat}(hf:bZ P f (.ptr 1000 0 0::As) [(1000,B)] r post)(hp:KZ n o:=by exact⟨rfl,rfl⟩)(ho:kI o (.func f) (x::xs):=by exact⟨_,rfl⟩)
 (hx:S.opd x=.ptr id vr 0:=by rfl) (hv:S.ver id=vr:=by rfl) (hb:(S.blk id).mp true (mh [(1000,id)]) S.ver z0=B:=by rfl) (hg:uY S [(1000,id)] xs As:=by first|((repeat (first|exact uY.nil|(refine uY.cons ?_ ?_;focus (first|exact qS rfl|exact qT rfl|exact gq_row rfl rfl rfl rfl|exact qU rfl|exact gq_nil rfl|exact gq_nil' rfl|exact oT rfl rfl))));done)|fail) :
 aB n P ops o (fZ S (x::xs)++Gk [(1000,id)]) (r.mp false (lI [(1000,id)]) z0 (λ_=>vr)) [(id,vr,(fb 1000 post).mp false (lI [(1000,id)]) z0 (λ_=>vr))] S:=by
 have hok:NX [(1000,id)]=true:=by simp_all[NX,Nh,lI,mh,NU,eL]
 have h:=mI (n:=n) (P:=P) (ops:=ops) (o:=o) (F:=fZ S (x::xs)++Gk [(1000,id)]) (S:=S) (cs:=[]) (xs:=x::xs) (As:=.ptr 1000 0 0::As) (pre:=[(1000,B)]) (post:=post) (r:=r) [(1000,id)] hp ho GI (by simpa using hf) hok (λp h=>by simp[wK p h]) (.cons ?_ (hg.gives (λ_ h=>?_) (λ_ h=>by simp[h]))) (.cons (j:=id) (by simp[lI]) hb .nil)
 ·have hnv:∀i j,lI [(1000,id)] i=some j->za S.ver [(1000,id)] j=(λ_=>vr) j:=λi j e=>by
   have e':=vM e
   simp at e'
   obtain⟨rfl,rfl⟩:=e'
   simp[za,mh,hv,show eL 1000=true from rfl]
  rw[oM (old':=z0) (λ_ _ _=>rfl) hnv]at h
  have hu:oO S post [(1000,id)] [(1000,id)]=[(id,vr,(fb 1000 post).mp false (lI [(1000,id)]) z0 (λ_=>vr))]:=by
   show [(id,za S.ver [(1000,id)] id,(fb 1000 post).mp false (lI [(1000,id)]) z0 (za S.ver [(1000,id)]))]=_
   rw[tV (old':=z0) (λ_ _ _=>rfl) hnv,hnv 1000 id (by simp[lI])]
  rw[hu]at h
  exact h
 ·refine(oT (x:=x) (S:=S) (sg:=[(1000,id)]) (c:=.ptr 1000 0 0) (by have:=hok;grind[NX]) ?_).mono (λk hk=>?_)
  ·rw[hx]
   simp_all[Cnt.mp,zi,mh]
  grind[fZ]
 grind[fZ]
theorem c_N (hf:bZ P f As [] r post)(_:o.dst=some t:=by rfl)(hp:KZ n o:=by exact⟨rfl,rfl⟩)(ho:kI o (.func f) xs:=by exact⟨_,rfl⟩)(hfx:eL t=false:=by rfl)
 (hg:uY S [(3000,t)] xs As:=by first|((repeat (first|exact uY.nil|(refine uY.cons ?_ ?_;focus (first|exact qS rfl|exact qT rfl|exact gq_row rfl rfl rfl rfl|exact qU rfl|exact gq_nil rfl|exact gq_nil' rfl|exact oT rfl rfl))));done)|fail):aB n P ops o (fZ S xs++Gk [(3000,t)]) (r.mp false (lI [(3000,t)]) z0 (za S.ver [(3000,t)])) (oO S post [(3000,t)] [(3000,t)]) S:=by
 have hok:NX [(3000,t)]=true:=by simp_all[NX,Nh,lI,mh,NU]
 exact mI (cs:=[]) [(3000,t)] hp ho GI (by simpa using hf) hok (λp h=>by simp[wK p h]) (hg.gives (λ_ h=>by simp[h]) (λ_ h=>by simp[h])) .nil
theorem ZY {r:Ret}(hf:Fn P f As r)(hp:Pl n o t:=by exact⟨rfl,rfl,rfl⟩)(ho:kx o f xs:=by exact⟨_,rfl⟩)(hpl:r.plain=true:=by rfl)(hg:GL S xs As:=by first|((repeat (first|exact GL.nil|(refine GL.cons ?_ ?_;focus (first|exact eF rfl|exact ff rfl|exact gF rfl rfl rfl|exact fg rfl|exact gG rfl|exact fa rfl))));done)|fail):aB n P ops o (fZ S xs) (ww t 0 r) [] S:=BA hp ho hf hpl hg
theorem Ni {e:Nat}(hf:Fn P f As (.own e k es))(hp:Pl n o t:=by exact⟨rfl,rfl,rfl⟩)(ho:kx o f xs:=by exact⟨_,rfl⟩)(hg:GL S xs As:=by first|((repeat (first|exact GL.nil|(refine GL.cons ?_ ?_;focus (first|exact eF rfl|exact ff rfl|exact gF rfl rfl rfl|exact fg rfl|exact gG rfl|exact fa rfl))));done)|fail) :
 aB n P ops o ((2*t+1)::fZ S xs) (.row t (S.ver t+1)) [(t,S.ver t+1,.row e k es)] S:=wA hp ho hf hg
theorem YT {e:Nat}{u:Value}(hf:Fn P f As (.tup2 (.own e k es) (.per (ai u))))(hp:Pl n o t:=by exact⟨rfl,rfl,rfl⟩)(ho:kx o f xs:=by exact⟨_,rfl⟩)(hg:GL S xs As:=by first|((repeat (first|exact GL.nil|(refine GL.cons ?_ ?_;focus (first|exact eF rfl|exact ff rfl|exact gF rfl rfl rfl|exact fg rfl|exact gG rfl|exact fa rfl))));done)|fail) :
 aB n P ops o ((2*t+1)::fZ S xs) (.tup2 (.row t (S.ver t+1)) (.per (ai u))) [(t,S.ver t+1,.row e k es)] S:=uX hp ho hf hg
end
def Cnt.fz (id vr:Nat)(A:Cnt)(B:Nat->Cnt):Cnt->Cnt
 | .row i r=>bif Nat.beq i id&&Nat.beq r vr then A else .row i r
 | .ptr i r off=>bif Nat.beq i id&&Nat.beq r vr then B off else .ptr i r off
 | .ept i r k q j=>bif Nat.beq i id&&Nat.beq r vr then .any else .ept i r k q j
 | .vw i r k q j=>bif Nat.beq i id&&Nat.beq r vr then .any else .vw i r k q j
 | .tup2 c d=>.tup2 (Cnt.fz id vr A B c) (Cnt.fz id vr A B d)
 | .tup3 c d e=>.tup3 (Cnt.fz id vr A B c) (Cnt.fz id vr A B d) (Cnt.fz id vr A B e)
 | .clo1 f c=>.clo1 f (Cnt.fz id vr A B c)
 | .clo2 f c d=>.clo2 f (Cnt.fz id vr A B c) (Cnt.fz id vr A B d)
 | .clo3 f c d e=>.clo3 f (Cnt.fz id vr A B c) (Cnt.fz id vr A B d) (Cnt.fz id vr A B e)
 | .aggN=>.aggN
 | .aggK c r=>.aggK (Cnt.fz id vr A B c) (Cnt.fz id vr A B r)
 | .grd _ _=>.any
 | .any=>.any
 | .per A=>.per A
 | .bor k es=>.bor k es
 | .bpt cs=>.bpt cs
def Blk.fz (id vr:Nat)(A:Cnt)(B:Nat->Cnt):Blk->Blk
 | .none=>.none
 | .box e cells=>.box e (cells.map (Cnt.fz id vr A B))
 | .row e k es=>.row e k es
 | .mix e es c=>.mix e es (Cnt.fz id vr A B c)
 | .obj A=>.obj A
def St.fz (S:St)(id vr:Nat)(A:Cnt)(B:Nat->Cnt):St:=
 ⟨λt=>Cnt.fz id vr A B (S.get t),λi=>bif Nat.beq i id then .none else(S.blk i).fz id vr A B,λi=>bif Nat.beq i id then vr+1 else S.ver i⟩
section
variable {P:Program} {n:Nat} {S:St} {C:Ctx} {g g':Gh} {w:World}
theorem BF {vr vr':Nat->Nat}{A:Cnt}{B:Nat->Cnt}(hst:oi C (λi=>i=id) vr vr' g g' w w)(hA:∀v,v=g.rh id->crep C vr' g' w v A)(hB:∀off v,v=.pointer (some ⟨g.ph id,off,none⟩)->crep C vr' g' w v (B off)) :
 ∀{c:Cnt} {v:Value},crep C vr g w v c->crep C vr' g' w v (Cnt.fz id (vr id) A B c):=by
 have key:∀{i r:Nat} {c c':Cnt} {v:Value},(i=id->r=vr id->crep C vr' g' w v c)->crep C vr' g' w v c'->crep C vr' g' w v (bif Nat.beq i id&&Nat.beq r (vr id)then c else c'):=by grind[bc]
 intro c
 induction c with
 | row i r=>intro v h;exact key (λe1 e2=>hA v (by rw[<-e1];exact h.2 (by rw[e1];exact e2))) (hst.crep h)
 | ptr i r off=>intro v h;exact key (λe1 e2=>hB off v (by rw[<-e1];exact h.2 (by rw[e1];exact e2))) (hst.crep h)
 | ept i r k q j=>intro v h;exact key (λ_ _=>trivial) (hst.crep h)
 | vw i r k q j=>intro v h;exact key (λ_ _=>trivial) (hst.crep h)
 | per A'=>intro v h;exact hst.crep (c:=.per A') h
 | bor k es=>intro v h;exact hst.crep (c:=.bor k es) h
 | bpt cs=>intro v h;exact hst.crep (c:=.bpt cs) h
 | any=>intro v _;trivial
 | grd b c ih=>intro v _;trivial
 | tup2 c d ih1 ih2=>rintro v ⟨x,y,e,h1,h2⟩;exact⟨x,y,e,ih1 h1,ih2 h2⟩
 | tup3 c d e ih1 ih2 ih3=>rintro v ⟨x,y,z,e,h1,h2,h3⟩;exact⟨x,y,z,e,ih1 h1,ih2 h2,ih3 h3⟩
 | clo1 f c ih=>rintro v ⟨x,e,h1⟩;exact⟨x,e,ih h1⟩
 | clo2 f c d ih1 ih2=>rintro v ⟨x,y,e,h1,h2⟩;exact⟨x,y,e,ih1 h1,ih2 h2⟩
 | clo3 f c d e ih1 ih2 ih3=>rintro v ⟨x,y,z,e,h1,h2,h3⟩;exact⟨x,y,z,e,ih1 h1,ih2 h2,ih3 h3⟩
 | aggN=>exact λh=>h
 | aggK c r ih1 ih2=>rintro v ⟨x,vs,e,o,h1,h2⟩;exact⟨x,vs,e,o,ih1 h1,ih2 h2⟩
theorem TM (hi:i≠id){vr vr':Nat->Nat}{A:Cnt}{B:Nat->Cnt}(hst:oi C (λi=>i=id) vr vr' g g' w w)(hdom:∀b id,g.ow b=some id->b<w.heap.size)
 (hA:∀v,v=g.rh id->crep C vr' g' w v A) (hB:∀off v,v=.pointer (some ⟨g.ph id,off,none⟩)->crep C vr' g' w v (B off)) {Bk:Blk} (h:brep C vr g w i Bk):brep C vr' g' w i (Bk.fz id (vr id) A B):=by
 have hv:vr' i=vr i:=by
  rcases hst.ver i with e|⟨e,_⟩
  all_goals grind
 obtain⟨hph,hrh⟩:=hst.gh i hv
 have hne:∀{b:Nat},g.ow b=some i->∀j,j=id->g.ow b≠some j:=λe j hj e'=>by rw[e]at e';cases e';exact hi hj
 cases Bk with
 | none=>trivial
 | row e k es=>exact hst.brep (B:=.row e k es) hdom hi h
 | obj A'=>exact hst.brep (B:=.obj A') hdom hi h
 | box e cells=>
  obtain⟨cs,h1,h2,h3,h4⟩:=h
  have hb:=hdom _ _ h2
  refine⟨cs,by rw[hph];exact h1,by rw[hph,hst.ow _ hb (hne h2)];exact h2,by simp[h3],λj c hj=>?_⟩
  rw[List.getElem?_map]at hj
  grind[BF]
 | mix e es c=>
  obtain⟨cap,cs,h1,h2,h3,h4,h5,h6,h7,y,q1,q2,q3⟩:=h
  have hb:=hdom _ _ h3
  refine⟨cap,cs,by rw[hrh,hph];exact h1,by rw[hph];exact h2,by rw[hph,hst.ow _ hb (hne h3)];exact h3,h4,h5,h6,λj A' hj=>?_,y,q1,q2,BF hst hA hB q3⟩
  obtain⟨y',r1,r2,r3⟩:=h7 j A' hj
  exact⟨y',r1,r2,A'.mono (aaf _) (λ_ _ _=>rfl) hst.n r3⟩
theorem tY (id vr:Nat){A:Cnt}{B:Nat->Cnt}(hv:S.ver id=vr)
 (hX:∀(C:Ctx)(g:Gh)(w:World)(n:Nat)(a:Act),RG C n S g a w->∀g':Gh,(∀b,g'.ow b=if g.ow b=some id then none else g.ow b)->g'.ph=g.ph->g'.rh=g.rh->∀vr',(∀b,b<w.heap.size->g'.N C b->g.N C b) ->
   (∀v,v=g.rh id->crep C vr' g' w v A)/\(∀off v,v=.pointer (some ⟨g.ph id,off,none⟩)->crep C vr' g' w v (B off))):Le n S (S.fz id vr A B):=by
 rintro C a w ⟨g,hR⟩
 subst hv
 let g':Gh:=⟨λb=>if g.ow b=some id then none else g.ow b,g.ph,g.rh⟩
 have hg':∀b,g'.ow b=if g.ow b=some id then none else g.ow b:=λ_=>rfl
 have hvr:∀i,(S.fz id (S.ver id) A B).ver i=if i=id then S.ver id+1 else S.ver i:=λi=>by
  show(bif Nat.beq i id then S.ver id+1 else S.ver i)=_
  by_cases h:i=id
  all_goals simp_all[f8]
 have hst:oi C (λi=>i=id) S.ver (S.fz id (S.ver id) A B).ver g g' w w:=by
  refine⟨aaf _,λ_ _ _=>rfl,λb _ hn=>?_,λb _ hn=>?_,λb i e=>?_,λi=>?_,λ_ _=>⟨rfl,rfl⟩,λ_ _=>⟨rfl,rfl⟩,rfl,rfl,rfl⟩
  ·rw[hg',aab (hn id rfl)]
  ·rw[hg']at hn
   by_cases h:g.ow b=some id
   all_goals grind
  ·rw[hg']at e
   by_cases h:g.ow b=some id
   ·rw[aae h]at e;cases e
   ·rw[aab h]at e;exact hR.dom b i e
  grind
 obtain⟨hA,hB⟩:=hX C g w n a hR g' hg' rfl rfl (S.fz id (S.ver id) A B).ver hst.n
 refine⟨g',hR.defers,hR.tsz,hR.nle,hR.keep,hR.os,hR.tape,hR.output,hR.size,hR.old,hR.n0,hR.n0l,hst.dom,λt=>BF hst hA hB (hR.slots t),λi=>?_⟩
 show brep C _ g' w i (bif Nat.beq i id then .none else(S.blk i).fz id (S.ver id) A B)
 cases hb:Nat.beq i id with
 | true=>trivial
 | false=>exact TM (λe=>by rw[bc.2 e]at hb;cases hb) hst (λb id e=>(hR.dom b id e).1) hA hB (hR.blks i)
theorem iW (id vr e k:Nat)(hv:S.ver id=vr)(hb:S.blk id=.row e k es):Le n S (S.fz id vr (.per (cn k es)) (λ_=>.any)):=
 tY id vr hv λC g w n a hR g' hg' _ _ vr' hn=>⟨λv hval=>by
  have hbb:=hR.blks id
  rw[hb]at hbb
  rw[hval]
  show eW (g'.N C) (g'.N C) k es w (g.rh id)
  rcases hbb with⟨q1,rfl⟩|⟨cap,cs,q1,q2,q3,q4,q5,q6,q7⟩
  ·exact⟨none,0,0,0,by rw[q1];rfl,aA,bP,λ_=>rfl,aA,λi cs hi=>by simp at hi⟩
  ·have hd:=hR.dom _ _ q3
   refine⟨_,cap,g.ph id,0,q1,q4,q5,aA,λ_=>⟨rfl,hd.1,λhn=>?_⟩,λi ps hi=>?_⟩
   ·rcases hn with hn|hn
    ·have:=hR.n0 _ hn
     rcases hd.2 with q|q
     ·omega
     ·exact hR.n0l _ hn q
    grind
   ·obtain⟨r1,r2⟩:=q7 i ps hi
    refine⟨r1,λj A hj=>?_⟩
    obtain⟨y,s1,s2,s3⟩:=r2 j A hj
    exact⟨y,by rw[aaJ,ei q2];exact s1,s2,A.mono (aaf _) (λ_ _ _=>rfl) hn s3⟩,λ_ _ _=>trivial⟩
theorem tZ (id vr e:Nat){As:List PV}(hv:S.ver id=vr)(hb:S.blk id=.box e cells)(hp:vp cells=some As):Le n S (S.fz id vr .any (λoff=>.per (em (As.drop off)))):=
 tY id vr hv λC g w n a hR g' hg' _ _ vr' hn=>⟨λ_ _=>trivial,λoff v hval=>by
  have hbb:=hR.blks id
  rw[hb,pH hp]at hbb
  obtain⟨cs,h1,h2,h3,h4⟩:=hbb
  have hd:=hR.dom _ _ h2
  refine⟨g.ph id,off,hval,hd.1,λhn=>?_,λj A hj=>?_⟩
  ·rcases hn with hn|hn
   ·have:=hR.n0 _ hn
    rcases hd.2 with q|q
    ·omega
    ·exact hR.n0l _ hn q
   grind
  ·rw[abn]at hj
   obtain⟨y,s1,s2,s3⟩:=h4 (off+j) (.per A) (by rw[List.getElem?_map,hj];rfl)
   exact⟨y,by rw[ei h1];exact s1,s2,A.mono (aaf _) (λ_ _ _=>rfl) hn s3⟩⟩
theorem pW {S':St}(h:Le n S S')(k:tW P n fn S' r post):tW P n fn S r post:=λC g a w hR=>by
 obtain⟨g',hR'⟩:=h C a w ⟨g,hR⟩
 exact k C g' a w hR'
theorem lQ {S':St}{r:Ret}(h:Le n S S')(k:oG P n fn S' r):oG P n fn S r:=λC a w hL hR=>k C a w hL (h C a w hR)
theorem K9 {τ:List (Nat×Nat)}{t vr:Nat}{As:List PV}(hT:dH P ty true)(hk:gC P ty k)(h0:Nat.blt 0 k=true)(h:S.get t=.ptr id vr 0)(hv:S.ver id=vr)(hb:S.blk id=.box e cells)
 (hl:cells.length=k) (hc:vp cells=some As):BB P n S τ (.cell t ty) (.per (cu As)):=Tw λC g a w hR=>by
 obtain⟨d,hT,hd⟩:=hT.h
 have hk:=hk.h
 have hs:=hR.slots t
 rw[h]at hs
 have hB:=hR.blks id
 rw[hb]at hB
 obtain⟨cs,h2,_,h4,h5⟩:=hB
 have hm:=pH hc
 have hlen:As.length=k:=by rw[<-hl,hm];simp
 have h0:=aaq h0
 obtain⟨vs,g1,g2,g3⟩:=eh (N:=g.N C) (w:=w) (f:=λj=>w.cell? ⟨g.ph id,0+j,none⟩) As (λj A hj=>by
  obtain⟨y,q1,q2,q3⟩:=h5 j (.per A) (by rw[hm,List.getElem?_map,hj];rfl)
  exact⟨y,by rw[ei h2,aaJ];exact q1,q2,q3⟩)
 refine⟨.agg vs.toArray,?_,vs.toArray,rfl,g3⟩
 have:=fD (P:=P) (w:=w) (b:=g.ph id) (o:=0) hT hd (by rw[hk,g1,hlen]) ae g2
 show(do loadVar ty (<-asAddr (a.tmps.getD t undef))).run P w=_
 rw[hs.2 hv.symm]
 grind[Instr.loadAt,Instr.sureAddr,asAddr]
theorem La {τ:List (Nat×Nat)}{t vr:Nat}{c:Cnt}(hτ:Nh τ=true)(hT:dH P ty true)(hk:gC P ty k)(h0:Nat.blt 0 k=true)(h:S.get t=.ptr id vr 0)(hv:S.ver id=vr)(hb:S.blk id=.box e cells)
 (hl:cells.length=k) (hc:(rZ cells).mp false (lI τ) S.ver z0=c):BB P n S τ (.cell t ty) c:=λC g a w hR=>by
 obtain⟨d,hT,hd⟩:=hT.h
 have hk:=hk.h
 have h0:=aaq h0
 have hs:=hR.slots t
 rw[h]at hs
 have hB:=hR.blks id
 rw[hb]at hB
 obtain⟨cs,h2,_,h4,h5⟩:=hB
 refine⟨.agg cs,?_,?_⟩
 ·have:=fD (P:=P) (w:=w) (b:=g.ph id) (o:=0) (cs:=cs.toList) hT hd bD bD (λj v hj=>by rw[ei h2,aaJ];simpa using hj)
  show(do loadVar ty (<-asAddr (a.tmps.getD t undef))).run P w=_
  rw[hs.2 hv.symm]
  simp_all[Instr.loadAt,Instr.sureAddr,asAddr]
 ·rw[<-hc]
  refine lP (λb _ h=>NW b h) (λh=>by cases h) (Xc hτ) (mJ.2 ⟨cs.toList,aA,by simpa using h4,λj c hj=>?_⟩)
  grind
theorem Wi {t vr:Nat}{As:List PV}(hT:dH P ty true)(hk:gC P ty k)(h0:Nat.blt 0 k=true)(h:S.get t=.ptr id vr 0)(hv:S.ver id=vr)(hb:S.blk id=.box e cells)
 (hl:cells.length=k) (hc:vp cells=some As):cH P n S (.cell t ty) (.per (cu As)):=by
 obtain⟨d,hT,hd⟩:=hT.h
 exact NL hT hd hk.h h0 h hv hb hl hc
def TN (id id':Nat)(i:Nat):Option Nat:=bif Nat.beq i id then some id' else bif Nat.beq i id' then none else some i
def ZZ (vr:Nat->Nat)(id':Nat)(i:Nat):Nat:=bif Nat.beq i id' then vr id'+1 else vr i
def St.mv (S:St)(id id':Nat):St:=
 ⟨λt=>(S.get t).mp true (TN id id') S.ver (ZZ S.ver id'),λi=>bif Nat.beq i id' then(S.blk id).mp true (TN id id') S.ver (ZZ S.ver id')else bif Nat.beq i id then .none else(S.blk i).mp true (TN id id') S.ver (ZZ S.ver id'),ZZ S.ver id'⟩
theorem DU {id':Nat}(h:TN id id' i=some j):(i=id/\j=id')\/(i≠id/\i≠id'/\j=i):=by grind[TN,Nat.beq_refl,f8]
theorem aU (id id':Nat)(hne:Nat.beq id id'=false:=by rfl)(hfx:eL id'=false:=by rfl):Le n S (S.mv id id'):=by
 rintro C a w ⟨g,hR⟩
 have hne':id≠id':=λe=>by rw[bc.2 e]at hne;cases hne
 let g':Gh:=⟨λb=>if g.ow b=some id then some id' else g.ow b,λi=>if i=id' then g.ph id else g.ph i,λi=>if i=id' then g.rh id else g.rh i⟩
 have how:∀b,g'.ow b=if g.ow b=some id then some id' else g.ow b:=λ_=>rfl
 have hM:∀b,g'.M b->g.M b:=λb h e=>h (by rw[how,aab (by rw[e];simp)];exact e)
 have hN:∀b,g'.N C b->g.N C b:=λb h=>h.imp (λq=>q) (λq=>hM b q)
 have hρ:∀i j,TN id id' i=some j->g'.ph j=g.ph i/\g'.rh j=g.rh i:=λi j h=>by grind[DU]
 have hoj:∀b i j,g.ow b=some i->TN id id' i=some j->g'.ow b=some j:=λb i j h1 h2=>by grind[DU]
 refine⟨g',hR.defers,hR.tsz,hR.nle,λi hi=>?_,hR.os,hR.tape,hR.output,hR.size,hR.old,hR.n0,hR.n0l,λb i e=>?_,λt=>lP (λb _ h=>hN b h) (λ_ b _ h=>hM b h) hρ (hR.slots t),λi=>?_⟩
 ·have:i≠id':=λe=>by grind
  exact⟨(aab this).trans (hR.keep i hi).1,(aab this).trans (hR.keep i hi).2⟩
 ·rw[how]at e
  split at e
  ·rename_i h;exact hR.dom b id h
  ·exact hR.dom b i e
 ·show brep C _ g' w i (bif Nat.beq i id' then _ else bif Nat.beq i id then _ else _)
  cases h1:Nat.beq i id' with
  | true=>
   obtain rfl:=bc.1 h1
   exact rU (λb _ h=>hN b h) (λ_ b _ h=>hM b h) hρ hoj (λb i e=>(hR.dom b i e).1) (i:=id) (by grind[TN,Nat.beq_refl]) (hR.blks id)
  | false=>
   cases h2:Nat.beq i id with
   | true=>trivial
   | false=>exact rU (λb _ h=>hN b h) (λ_ b _ h=>hM b h) hρ hoj (λb i e=>(hR.dom b i e).1) (i:=i) (by grind[TN]) (hR.blks i)
end
