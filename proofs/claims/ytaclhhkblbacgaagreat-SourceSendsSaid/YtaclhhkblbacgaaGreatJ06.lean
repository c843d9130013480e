/- Texts joined: AbsM. -/
import Derived.Test.YtaclhhkblbacgaaGreatJ03
import Derived.Laws.StructEq
import Derived.Laws.Pointers
namespace Go.Proofs.YtaclhhkblbacgaaGreat
open Go.RowKit
variable {off k:Nat} {e ty ty':TypeId} {y:Operand} {id:Nat} {old:Nat→Nat} {i j:Nat} {f:FuncId} {fn:Func} {As:List Cnt} {r:Cnt} {post:List (Nat×Blk)} {z:Int} {A:PV} {es:List (List PV)} {xs:List Operand} {cs:List Cnt} {d:Cnt} {cells:List Cnt}
section
def Bl (xs:List Value)(off k:Nat):List Value:=(xs.drop off).take k
def Sf (a b:Option Bool):Option Bool:=match a,b with
 | some x,some y=>some (x&&y)
 | _,_=>none
def HU (P:Program):Nat→TypeId→List Value→List Value→Option Bool
 | 0,_,_,_=>none
 | d+1,t,xs,ys=>match P.underlying t with
  | some .bool=>match xs,ys with
   | [.bool a],[.bool b]=>some (a==b)
   | _,_=>none
  | some (.int _)=>match xs,ys with
   | [.int k a],[.int k' b]=>if k=k' then some (a==b)else none
   | _,_=>none
  | some .string=>match xs,ys with
   | [.string a],[.string b]=>some (a==b)
   | _,_=>none
  | some (.struct fs)=>
   if P.stoodInHeld t then none else
   if fs.all (·.name != "_") then fs.toList.foldr (fun f r => Sf (HU P d f.type (Bl xs f.offset (P.cellsOf f.type)) (Bl ys f.offset (P.cellsOf f.type))) r) (some true) else none
  | _=>none
def nq (P:Program)(t:TypeId)(xs:List Value)(x:Value):Prop:=match P.underlying t with
 | some (.struct _)=>x=.agg xs.toArray
 | _=>xs=[x]
theorem HV {a b:Option Bool}{r:Bool}(h:Sf a b=some r):∃x y,a=some x∧b=some y∧r=(x&&y):=by
 cases a<;>cases b<;>simp[Sf]at h
 exact⟨_,_,rfl,rfl,h.symm⟩
theorem KJ {xs:List Value}{x:Value}(h:Bl xs off k=[x]):xs[off]?=some x:=by
 have h1:(Bl xs off k)[0]?=some x:=by rw[h];rfl
 rw[Bl,WI]at h1
 split at h1
 ·simpa using h1
 ·cases h1
theorem Bm {P:Program}{w:World}{xs:List Value}(h:(∃x,Bl xs off (P.cellsOf e)=[x]∧∃k,P.underlying e=some k∧(k=.bool∨(∃q,k=.int q)∨k=.string))∨∃fs,P.underlying e=some (.struct fs)) :
 ∃a,(part e xs.toArray off).run P w=.ok a w∧nq P e (Bl xs off (P.cellsOf e)) a:=by
 rcases h with⟨x,h,k,hk,hh⟩|⟨fs,hk⟩
 ·have h1:=KJ h
  refine⟨x,?_,?_⟩
  ·rcases hh with rfl|⟨q,rfl⟩|rfl<;>simp[part,isAgg,run_underlying hk,h1]
  ·rcases hh with rfl|⟨q,rfl⟩|rfl<;>simp[nq,hk,h]
 ·obtain⟨i,hi⟩:=info_of_underlying hk
  refine⟨.agg (xs.toArray.extract off (off+P.cellsOf e)),?_,?_⟩
  ·simp[part,isAgg,run_underlying hk,run_sizeOf w hi]
  ·simp only[nq,hk,Bl,Value.agg.injEq]
   apply Array.toList_inj.1
   rw[Array.toList_extract]
   simp[List.extract]
theorem HW {P:Program}{d:Nat}{t:TypeId}{xs ys:List Value}{r:Bool}(h:HU P d t xs ys=some r) :
 ((∃x,xs=[x]∧∃k,P.underlying t=some k∧(k=.bool∨(∃q,k=.int q)∨k=.string))∨∃fs,P.underlying t=some (.struct fs)) ∧
 ((∃x,ys=[x]∧∃k,P.underlying t=some k∧(k=.bool∨(∃q,k=.int q)∨k=.string))∨∃fs,P.underlying t=some (.struct fs)):=by
 cases d with
 | zero=>simp[HU]at h
 | succ d=>
  unfold HU at h
  split at h
  ·rename_i hu;split at h
   ·exact⟨.inl ⟨_,rfl,_,hu,.inl rfl⟩,.inl ⟨_,rfl,_,hu,.inl rfl⟩⟩
   ·cases h
  ·rename_i hu;split at h
   ·exact⟨.inl ⟨_,rfl,_,hu,.inr (.inl ⟨_,rfl⟩)⟩,.inl ⟨_,rfl,_,hu,.inr (.inl ⟨_,rfl⟩)⟩⟩
   ·cases h
  ·rename_i hu;split at h
   ·exact⟨.inl ⟨_,rfl,_,hu,.inr (.inr rfl)⟩,.inl ⟨_,rfl,_,hu,.inr (.inr rfl)⟩⟩
   ·cases h
  ·rename_i hu;exact⟨.inr ⟨_,hu⟩,.inr ⟨_,hu⟩⟩
  ·cases h
theorem F2 {P:Program}{w:World}:∀(d:Nat)(t:TypeId)(xs ys:List Value)(x y:Value)(r:Bool),HU P d t xs ys=some r→nq P t xs x→nq P t ys y →
 (Op.equalIn d t x y).run P w=.ok r w
 | 0,_,_,_,_,_,_,h,_,_=>by simp[HU]at h
 | d+1,t,xs,ys,x,y,r,h,hx,hy=>by
  unfold HU at h
  split at h
  ·rename_i hu;split at h
   ·simp only[nq,hu,List.cons.injEq,and_true]at hx hy
    subst hx;subst hy;cases h
    exact run_equalIn_bool' w d t _ _ hu
   ·cases h
  ·rename_i hu;split at h
   ·simp only[nq,hu,List.cons.injEq,and_true]at hx hy
    subst hx;subst hy
    split at h
    ·rename_i hk;subst hk;cases h
     exact run_equalIn_int w d t _ _ _ _ hu
    ·cases h
   ·cases h
  ·rename_i hu;split at h
   ·simp only[nq,hu,List.cons.injEq,and_true]at hx hy
    subst hx;subst hy;cases h
    rw[run_equalIn_string w d t _ _ hu,beq_toListBytes]
   ·cases h
  ·rename_i fs hu
   simp only[nq,hu]at hx hy
   subst hx;subst hy
   split at h
   ·cases h
   rename_i hs
   split at h
   ·rename_i hn
    have hfs:P.fieldsOf t=fs:=by simp[Program.fieldsOf,hu]
    rw[run_equalIn_struct w d t _ _ (by rw[hfs];exact hu) (by simpa using hs),hfs]
    have hn' : ∀ f ∈ fs.toList, f.name ≠ "_" := fun f hf => by
     have:=Array.all_eq_true_iff_forall_mem.1 hn f (Array.mem_toList_iff.1 hf)
     simpa using this
    clear hu hs hn hfs
    generalize fs.toList=l at *
    induction l generalizing r with
    | nil=>cases h;simp[Op.eqFields]
    | cons f l ih=>
     rw[List.foldr_cons]at h
     obtain⟨a,b,h1,h2,rfl⟩:=HV h
     obtain⟨p1,p2⟩:=HW h1
     obtain⟨u,q1,q2⟩:=Bm (w:=w) p1
     obtain⟨v,q3,q4⟩:=Bm (w:=w) p2
     have h3:=F2 (w:=w) d _ _ _ _ _ _ h1 q2 q4
     have h4:=ih b h2 (fun g hg=>hn' g (by simp[hg]))
     simp only[Op.eqFields,hn' f au,ne_eq,not_false_eq_true,Xq,Sem.run_bind,q1,q3,h3,Result.andThen_ok]
     cases a
     ·simp
     ·simpa using h4
   ·cases h
  ·cases h
variable {P:Program} {n t:Nat} {ops:Array Oper} {o:Oper} {S:St}
theorem uk {N:BP}{w:World}{vs:Array Value}{l:List Value}(h:gW N w vs (l.map ak)):vs=l.toArray:=by
 obtain⟨h1,h2⟩:=h
 rw[V7]at h1
 apply Array.ext (by simpa using h1)
 intro i hi hj
 have hl:i<l.length:=by simpa using hj
 obtain⟨y,q1,_,q3⟩:=h2 i (ak l[i]) (by rw[List.getElem?_map,V4 hl];rfl)
 rw[WS hi]at q1
 cases q1
 exact q3
def TP (q:Bool)(op:BinOp):Prop:=(q=false∧op=.eql)∨(q=true∧op=.neq)
theorem gX {op:BinOp}{q r:Bool}{x:Operand}{us vs:List Value}(hp:Pl n o t)(ho:o.op=.binOp op ty x y ty')(hx:S.opd x=.per (cB (us.map ak)))(hy:S.opd y=.per (cB (vs.map ak)))
 (hq:TP q op) (hg:P.eqGuardType P.depth ty=false) (hs:(match P.underlying ty with|some (.struct _)=>true|_=>false)=true) (h:HU P 10000 ty us vs=some r):aw n P ops o (az x++az y) (bC (r != q)) [] S:=
 aV hp fun C T g a w hA hR=>by
  have h1:=aG (x:=x) hA (fun k h=>by simp[h]) hR
  have h2:=aG (x:=y) hA (fun k h=>by simp[h]) hR
  rw[hx]at h1
  rw[hy]at h2
  obtain⟨as,e1,c1⟩:=h1
  obtain⟨bs,e2,c2⟩:=h2
  have e3:=uk c1
  have e4:=uk c2
  have hv:∀l:List Value,nq P ty l (.agg l.toArray):=fun l=>by
   unfold nq;split at hs
   ·simp only
   ·cases hs
  have hr:=F2 (w:=w) 10000 ty us vs _ _ r h (hv us) (hv vs)
  refine⟨.bool (r != q),?_,rfl⟩
  rcases hq with⟨rfl,rfl⟩|⟨rfl,rfl⟩
  ·simp[execOp,ho,e1,e2,e3,e4,run_eqGuard_agg (P:=P) w .eql ty x y us.toArray vs.toArray hg,run_eql_struct,hr]
  ·simp[execOp,ho,e1,e2,e3,e4,run_eqGuard_agg (P:=P) w .neq ty x y us.toArray vs.toArray hg,run_neq_struct,hr]
end
def wy (ρ:Nat→Option Nat)(old:Nat→Nat)(id r:Nat)(k:Nat→Cnt):Cnt:=match ρ id with
 | some j=>bif Nat.beq r (old id)then k j else .any
 | none=>.any
def Cnt.mp (bo:Bool)(ρ:Nat→Option Nat)(old new:Nat→Nat):Cnt→Cnt
 | .row id r=>wy ρ old id r fun j=>.row j (new j)
 | .ptr id r off=>wy ρ old id r fun j=>.ptr j (new j) off
 | .ept id r k i q=>wy ρ old id r fun j=>.ept j (new j) k i q
 | .vw id r k i q=>wy ρ old id r fun j=>.vw j (new j) k i q
 | .per A=>.per A
 | .bor k es=>bif bo then .bor k es else .any
 | .bpt cs=>bif bo then .bpt cs else .any
 | .tup2 c d=>.tup2 (c.mp bo ρ old new) (d.mp bo ρ old new)
 | .tup3 c d e=>.tup3 (c.mp bo ρ old new) (d.mp bo ρ old new) (e.mp bo ρ old new)
 | .clo1 f c=>.clo1 f (c.mp bo ρ old new)
 | .clo2 f c d=>.clo2 f (c.mp bo ρ old new) (d.mp bo ρ old new)
 | .clo3 f c d e=>.clo3 f (c.mp bo ρ old new) (d.mp bo ρ old new) (e.mp bo ρ old new)
 | .aggN=>.aggN
 | .aggK c r=>.aggK (c.mp bo ρ old new) (r.mp bo ρ old new)
 | .grd _ _=>.any
 | .any=>.any
def Blk.mp (bo:Bool)(ρ:Nat→Option Nat)(old new:Nat→Nat):Blk→Blk
 | .none=>.none
 | .box e cells=>.box e (cells.map (Cnt.mp bo ρ old new))
 | .row e k es=>.row e k es
 | .mix e es c=>.mix e es (c.mp bo ρ old new)
 | .obj A=>.obj A
section
variable {C C':Ctx} {vr vr':Nat→Nat} {g g':Gh} {w:World} {ρ:Nat→Option Nat} {bo:Bool}
theorem tu {r:Nat}{v:Value}{k:Nat→Cnt}(h:∀j,ρ id=some j→r=old id→crep C' vr' g' w v (k j)):crep C' vr' g' w v (wy ρ old id r k):=by
 unfold wy
 cases hr:ρ id with
 | none=>trivial
 | some j=>
  simp only
  cases hb:Nat.beq r (old id)with
  | true=>exact h j hr (bq.1 hb)
  | false=>trivial
theorem la (hN:∀b,b<w.heap.size→g'.N C' b→g.N C b)(hM:bo=true→∀b,b<w.heap.size→g'.M b→g.M b)(hρ:∀i j,ρ i=some j→g'.ph j=g.ph i∧g'.rh j=g.rh i) :
 ∀{c:Cnt} {v:Value},crep C vr g w v c→crep C' vr' g' w v (c.mp bo ρ vr vr'):=by
 intro c
 induction c with
 | any=>intro v _;trivial
 | per A=>intro v h;exact A.mono (V8 _) (fun _ _ _=>rfl) hN h
 | bor k es=>
  intro v h
  cases hb:bo with
  | true=>exact eH.mono (V8 _) (fun _ _ _=>rfl) (fun _ _ _=>rfl) (hM hb) hN h
  | false=>trivial
 | bpt cs=>
  rintro v ⟨b,o,e,hb,hn,h⟩
  cases hbo:bo with
  | true=>exact⟨b,o,e,hb,fun x=>hn (hM hbo b hb x),fun j A hj=>let⟨y,g1,g2,g3⟩:=h j A hj;⟨y,g1,g2,A.mono (V8 _) (fun _ _ _=>rfl) hN g3⟩⟩
  | false=>trivial
 | row id r=>intro v h;exact tu fun j hj e=>⟨V8 _,fun _=>by rw[(hρ _ _ hj).2];exact h.2 e⟩
 | ptr id r off=>intro v h;exact tu fun j hj e=>⟨V8 _,fun _=>by rw[(hρ _ _ hj).1];exact h.2 e⟩
 | ept id r k i q=>intro v h;exact tu fun j hj e=>⟨V8 _,fun _=>by rw[(hρ _ _ hj).1];exact h.2 e⟩
 | vw id r k i q=>intro v h;exact tu fun j hj e=>⟨V8 _,fun _=>by rw[(hρ _ _ hj).1];exact h.2 e⟩
 | grd b c ih=>intro v _;trivial
 | tup2 c d ih1 ih2=>rintro v ⟨x,y,e,h1,h2⟩;exact⟨x,y,e,ih1 h1,ih2 h2⟩
 | tup3 c d e ih1 ih2 ih3=>rintro v ⟨x,y,z,e,h1,h2,h3⟩;exact⟨x,y,z,e,ih1 h1,ih2 h2,ih3 h3⟩
 | clo1 f c ih=>rintro v ⟨x,e,h1⟩;exact⟨x,e,ih h1⟩
 | clo2 f c d ih1 ih2=>rintro v ⟨x,y,e,h1,h2⟩;exact⟨x,y,e,ih1 h1,ih2 h2⟩
 | clo3 f c d e ih1 ih2 ih3=>rintro v ⟨x,y,z,e,h1,h2,h3⟩;exact⟨x,y,z,e,ih1 h1,ih2 h2,ih3 h3⟩
 | aggN=>exact fun h=>h
 | aggK c r ih1 ih2=>rintro v ⟨x,vs,e,o,h1,h2⟩;exact⟨x,vs,e,o,ih1 h1,ih2 h2⟩
theorem qk (hN:∀b,b<w.heap.size→g'.N C' b→g.N C b)(hM:bo=true→∀b,b<w.heap.size→g'.M b→g.M b)(hρ:∀i j,ρ i=some j→g'.ph j=g.ph i∧g'.rh j=g.rh i)
 (how:∀b i j,g.ow b=some i→ρ i=some j→g'.ow b=some j) (hlt:∀b i,g.ow b=some i→b<w.heap.size) (hij:ρ i=some j) {B:Blk} (h:brep C vr g w i B):brep C' vr' g' w j (B.mp bo ρ vr vr'):=by
 obtain⟨hp,hr⟩:=hρ i j hij
 have hper:∀{A:PV} {v:Value},A.p (g.N C) w v→A.p (g'.N C') w v:=fun {A v} h=>A.mono (V8 _) (fun _ _ _=>rfl) hN h
 cases B with
 | none=>trivial
 | box e cells=>
  obtain⟨cs,h1,h2,h3,h4⟩:=h
  refine⟨cs,by rw[hp];exact h1,by rw[hp];exact how _ _ _ h2 hij,by simp[h3],fun q c hq=>?_⟩
  rw[List.getElem?_map]at hq
  cases hc:cells[q]? with
  | none=>rw[hc]at hq;cases hq
  | some c'=>
   rw[hc]at hq;cases hq
   obtain⟨y,q1,q2,q3⟩:=h4 q c' hc
   exact⟨y,q1,q2,la hN hM hρ q3⟩
 | row e k es=>
  rcases h with⟨h1,h2⟩|⟨cap,cs,h1,h2,h3,h4,h5,h6,h7⟩
  ·exact .inl ⟨by rw[hr];exact h1,h2⟩
  ·refine .inr ⟨cap,cs,by rw[hr,hp];exact h1,by rw[hp];exact h2,by rw[hp];exact how _ _ _ h3 hij,h4,h5,h6,fun q ps hq=>⟨(h7 q ps hq).1,fun u A hu=>?_⟩⟩
   obtain⟨y,q1,q2,q3⟩:=(h7 q ps hq).2 u A hu
   exact⟨y,q1,q2,hper q3⟩
 | mix e es c=>
  obtain⟨cap,cs,h1,h2,h3,h4,h5,h6,h7,y,q1,q2,q3⟩:=h
  refine⟨cap,cs,by rw[hr,hp];exact h1,by rw[hp];exact h2,by rw[hp];exact how _ _ _ h3 hij,h4,h5,h6,fun q A hq=>?_,y,q1,q2,la hN hM hρ q3⟩
  obtain⟨y',s1,s2,s3⟩:=h7 q A hq
  exact⟨y',s1,s2,hper s3⟩
 | obj A=>
  show A.p (fun b=>g'.ow b=some j) (g'.N C') w (g'.rh j)
  rw[hr]
  exact A.mono (F:=fun b=>g.ow b=some i) (fun b e=>how b i j e hij) (fun b e=>hlt b i e) (V8 _) (fun _ _ _=>rfl) (fun _ _ _=>rfl) hN h
theorem mF {old':Nat→Nat}{k k':Nat→Cnt}{r:Nat}(ho:∀j,ρ id=some j→old id=old' id)(hk:∀j,ρ id=some j→k j=k' j):wy ρ old id r k=wy ρ old' id r k':=by
 unfold wy
 cases h:ρ id with
 | none=>rfl
 | some j=>simp only;rw[ho j h,hk j h]
theorem lG {old' new new':Nat→Nat}(ho:∀i j,ρ i=some j→old i=old' i)(hn:∀i j,ρ i=some j→new j=new' j):∀(c:Cnt),c.mp bo ρ old new=c.mp bo ρ old' new':=by
 intro c
 induction c with
 | any=>rfl
 | per A=>rfl
 | bor k es=>rfl
 | bpt cs=>rfl
 | row id r=>exact mF (ho id) (fun j h=>by rw[hn id j h])
 | ptr id r off=>exact mF (ho id) (fun j h=>by rw[hn id j h])
 | ept id r k i q=>exact mF (ho id) (fun j h=>by rw[hn id j h])
 | vw id r k i q=>exact mF (ho id) (fun j h=>by rw[hn id j h])
 | grd b c ih=>rfl
 | tup2 c d ih1 ih2=>simp only[Cnt.mp,ih1,ih2]
 | tup3 c d e ih1 ih2 ih3=>simp only[Cnt.mp,ih1,ih2,ih3]
 | clo1 f c ih=>simp only[Cnt.mp,ih]
 | clo2 f c d ih1 ih2=>simp only[Cnt.mp,ih1,ih2]
 | clo3 f c d e ih1 ih2 ih3=>simp only[Cnt.mp,ih1,ih2,ih3]
 | aggN=>rfl
 | aggK c r ih1 ih2=>simp only[Cnt.mp,ih1,ih2]
theorem rB {old' new new':Nat→Nat}(ho:∀i j,ρ i=some j→old i=old' i)(hn:∀i j,ρ i=some j→new j=new' j)(B:Blk):B.mp bo ρ old new=B.mp bo ρ old' new':=by
 cases B with
 | box e cells=>simp only[Blk.mp];congr 1;exact List.map_congr_left (fun c _=>lG ho hn c)
 | mix e es c=>simp only[Blk.mp,lG ho hn c]
 | _=>rfl
end
def kV:List (Nat×Nat)→Nat→Option Nat
 | [],_=>none
 | (i,j)::l,x=>bif Nat.beq x i then some j else kV l x
def ku:List (Nat×Nat)→Nat→Option Nat
 | [],_=>none
 | (i,j)::l,x=>bif Nat.beq x j then some i else ku l x
def KK:Option Nat→Nat→Bool
 | some x,y=>Nat.beq x y
 | none,_=>false
theorem xe {x:Option Nat}{y:Nat}(h:KK x y=true):x=some y:=by
 cases x with
 | none=>cases h
 | some x=>rw[bq.1 h]
theorem tv {l:List (Nat×Nat)}(h:kV l i=some j):(i,j)∈l:=by
 induction l with
 | nil=>cases h
 | cons p l ih=>
  obtain⟨a,b⟩:=p
  unfold kV at h
  cases hb:Nat.beq i a with
  | true=>rw[hb]at h;cases h;rw[bq.1 hb];exact WG
  | false=>rw[hb]at h;exact Ww _ (ih h)
theorem ql {l:List (Nat×Nat)}(h:ku l j=some i):(i,j)∈l:=by
 induction l with
 | nil=>cases h
 | cons p l ih=>
  obtain⟨a,b⟩:=p
  unfold ku at h
  cases hb:Nat.beq j b with
  | true=>rw[hb]at h;cases h;rw[bq.1 hb];exact WG
  | false=>rw[hb]at h;exact Ww _ (ih h)
def J9 (l:List (Nat×Nat)):Bool:=l.all fun p=>KK (kV l p.1) p.2&&KK (ku l p.2) p.1
theorem ko {l:List (Nat×Nat)}(h:J9 l=true):kV l i=some j↔ku l j=some i:=by
 unfold J9 at h
 rw[WJ]at h
 constructor
 ·intro e
  have:=h _ (tv e)
  rw[Wi]at this
  exact xe this.2
 ·intro e
  have:=h _ (ql e)
  rw[Wi]at this
  exact xe this.1
structure Va (C:Ctx)(w w':World)(g':Gh):Prop where
 os:w'.os=w.os
 tape:w'.tape=w.tape
 output:w'.output=w.output
 size:w.heap.size≤w'.heap.size
 old:∀b,b<w.heap.size→¬C.L b→w'.heap[b]?=w.heap[b]?
 dom:∀b id,g'.ow b=some id→b<w'.heap.size∧(w.heap.size≤b∨C.L b)
 keep:∀id,fq id=true→g'.ph id=C.G0.ph id∧g'.rh id=C.G0.rh id
abbrev z0:Nat→Nat:=fun _=>0
structure dh (P:Program)(f:FuncId)(As:List Cnt)(pre:List (Nat×Blk))(r:Cnt)(post:List (Nat×Blk)):Prop where
 ent:Rr P f
 run:∀(C:Ctx)(w:World)(vs:List Value),C.W0=w→(∀b,C.N0 b→b<w.heap.size∧¬C.L b)→(∀b id,C.G0.ow b=some id→b<w.heap.size∧C.L b) →
  vs.length=As.length→(∀(i:Nat)(v:Value)(c:Cnt),vs[i]?=some v→As[i]?=some c→crep C z0 C.G0 w v c)→(∀id,brep C z0 C.G0 w id (eO id pre)) →
  Calls P f vs.toArray w (fun e w'=>∃v g',e=.returned v∧Va C w w' g'∧crep C z0 g' w' v r∧∀id,brep C z0 g' w' id (eO id post))
def KL (As:List Cnt)(pre:List (Nat×Blk)):St:=⟨fun t=>(As[t]?).getD .any,fun i=>eO i pre,z0⟩
def sN (P:Program)(n:Nat)(fn:Func)(S:St)(r:Cnt)(post:List (Nat×Blk)):Prop:=
 ∀(C:Ctx)(g:Gh) a w,RG C n S g a w→∃v g',(results fn a.tmps).run P w=.ok v w∧Va C C.W0 w g'∧crep C z0 g' w v r∧∀id,brep C z0 g' w id (eO id post)
theorem HZ {P : Program} {body : Code} {pre : List (Nat × Blk)} {n : Nat} (hf : P.funcs[f]? = some fn) (hb : fn.body = some body) (hm : (fn.name == "runtime.NumGoroutine") = false) (hn : fn.ntmps = n) (hl : As.length ≤ n)
 (h:AW P n body (fun e S=>(e=.ret∨e=.normal)∧sN P n fn S r post) (KL As pre)) (hn1:Nat.ble n 1000=true:=by rfl):dh P f As pre r post:=by
 refine⟨⟨fn,hf,hm,by rw[hb];rfl⟩,?_⟩
 intro C w vs hw hN hd hlen hargs hpre
 subst hw
 refine calls_of_wp hf hb ?_
 have hsz:(vs.toArray++Array.replicate (fn.ntmps-vs.toArray.size) undef).size=n:=bn
 have hR:R C n (KL As pre) { tmps:=vs.toArray++Array.replicate (fn.ntmps-vs.toArray.size) undef,defers:=[] } C.W0:=by
  refine⟨C.G0,rfl,hsz,Wc hn1,fun _ _=>⟨rfl,rfl⟩,rfl,rfl,rfl,V8 _,fun _ _ _=>rfl,fun b hb=>(hN b hb).1,fun b hb=>(hN b hb).2,fun b id e=>⟨(hd b id e).1,.inr (hd b id e).2⟩,fun t=>?_,hpre⟩
  show crep _ z0 C.G0 _ _ ((As[t]?).getD .any)
  cases hA:As[t]? with
  | none=>trivial
  | some c=>
   have ht:t<As.length:=by
    rcases Wm t As.length with h|h
    ·exact h
    ·rw[Wq h]at hA;cases hA
   have hv:t<vs.length:=ab
   refine hargs t _ c ?_ hA
   rw[XE,Array.getElem?_append_left (by simpa using hv)]
   simp[hv]
 refine wp_mono (h.run _ _ _ hR) ?_
 rintro e a' w' ⟨S',⟨he,hres⟩,g,hg⟩
 obtain⟨v,g',h1,h2,h3,h4⟩:=hres _ g a' w' hg
 rcases he with rfl|rfl<;>exact⟨hg.defers,v,h1,v,g',rfl,h2,h3,h4⟩
def Gh.ex (g:Gh)(τ:List (Nat×Nat)):Gh:=⟨fun b=>(g.ow b).bind (kV τ),fun i=>match ku τ i with|some j=>g.ph j|none=>g.ph i,fun i=>match ku τ i with|some j=>g.rh j|none=>g.rh i⟩
def Tz (τ:List (Nat×Nat)):Bool:=J9 τ&&τ.all fun p=>!fq p.2||Nat.beq p.1 p.2
section
variable {P:Program} {n:Nat} {S T:St} {C:Ctx} {g:Gh} {a:Act} {w:World} {τ:List (Nat×Nat)}
theorem KM (b:Nat)(h:(g.ex τ).N C b):g.N C b:=by
 rcases h with h|h
 ·exact .inl h
 ·refine .inr (fun e=>h ?_)
  show(g.ow b).bind (kV τ)=none
  rw[e];rfl
theorem Sg (h:J9 τ=true):∀i j,kV τ i=some j→(g.ex τ).ph j=g.ph i∧(g.ex τ).rh j=g.rh i:=fun i j e=>by
 have:=(ko h).1 e
 unfold Gh.ex
 simp only[this];exact⟨trivial,trivial⟩
theorem Sh:∀b i j,g.ow b=some i→kV τ i=some j→(g.ex τ).ow b=some j:=fun b i j h1 h2=>by
 show(g.ow b).bind (kV τ)=some j
 rw[h1];exact h2
def Bn (P:Program)(n:Nat)(S:St)(τ:List (Nat×Nat))(rv:ResultVar)(c:Cnt):Prop:=∀(C:Ctx)(g:Gh) a w,RG C n S g a w→∃v,(UY a.tmps rv).run P w=.ok v w∧crep C z0 (g.ex τ) w v c
inductive eh (S:St)(τ:List (Nat×Nat)):List (Nat×Blk)→Prop
 | nil:eh S τ []
 | cons {i j:Nat} {B:Blk} {l:List (Nat×Blk)} (hj:ku τ i=some j) (h:(S.blk j).mp false (kV τ) S.ver z0=B) (k:eh S τ l):eh S τ ((i,B)::l)
theorem eh.look {l:List (Nat×Blk)}(h:eh S τ l)(i:Nat):eO i l=.none∨∃j,ku τ i=some j∧eO i l=(S.blk j).mp false (kV τ) S.ver z0:=by
 induction h with
 | nil=>exact .inl rfl
 | @cons i' j B l hj h k ih=>
  unfold eO
  cases hb:Nat.beq i i' with
  | true=>exact .inr ⟨j,by rw[bq.1 hb];exact hj,h.symm⟩
  | false=>exact ih
theorem ul (τ:List (Nat×Nat))(hτ:Tz τ=true)(hpost:eh S τ post)
 (hr:∀(C:Ctx)(g:Gh) a w,RG C n S g a w→∃v,(results fn a.tmps).run P w=.ok v w∧crep C z0 (g.ex τ) w v r):sN P n fn S r post:=by
 intro C g a w hR
 obtain⟨v,h1,h2⟩:=hr C g a w hR
 unfold Tz at hτ
 rw[Wi,WJ]at hτ
 refine⟨v,g.ex τ,h1,⟨hR.os,hR.tape,hR.output,hR.size,hR.old,fun b id e=>?_,fun id hf=>?_⟩,h2,fun id=>?_⟩
 ·change (g.ow b).bind (kV τ)=some id at e
  cases ho:g.ow b with
  | none=>rw[ho]at e;cases e
  | some j=>exact hR.dom b j ho
 ·unfold Gh.ex
  simp only
  cases hl:ku τ id with
  | none=>exact hR.keep id hf
  | some j=>
   have:=hτ.2 _ (ql hl)
   simp only[hf,Xz,Xo]at this
   rw[bq.1 this];exact hR.keep id hf
 ·rcases hpost.look id with q|⟨j,hj,q⟩
  ·rw[q];trivial
  ·rw[q]
   exact qk (fun b _ h=>KM b h) (fun h=>by cases h) (Sg hτ.1) Sh (fun b i e=>(hR.dom b i e).1) ((ko hτ.1).2 hj) (hR.blks j)
theorem TQ (τ:List (Nat×Nat))(hf:fn.results=#[])(hτ:Tz τ=true)(hpost:eh S τ post):sN P n fn S .any post:=
 ul τ hτ hpost fun C g a w hR=>⟨.tuple #[],by rw[js,hf];simp,trivial⟩
theorem gq {rv:ResultVar}{c:Cnt}(τ:List (Nat×Nat))(hf:fn.results=#[rv])(hτ:Tz τ=true)(hpost:eh S τ post)(h:Bn P n S τ rv c):sN P n fn S c post:=
 ul τ hτ hpost fun C g a w hR=>by
  obtain⟨v,h1,h2⟩:=h C g a w hR
  exact⟨v,by rw[js,hf];simp[h1],h2⟩
theorem Bo {rv rv':ResultVar}{c c':Cnt}(τ:List (Nat×Nat))(hf:fn.results=#[rv,rv'])(hτ:Tz τ=true)(hpost:eh S τ post)(h:Bn P n S τ rv c)(h':Bn P n S τ rv' c'):sN P n fn S (.tup2 c c') post:=
 ul τ hτ hpost fun C g a w hR=>by
  obtain⟨v,h1,h2⟩:=h C g a w hR
  obtain⟨v',h1',h2'⟩:=h' C g a w hR
  exact⟨.tuple #[v,v'],by rw[js,hf];simp[h1,h1'],v,v',rfl,h2,h2'⟩
theorem um {t:Nat}{c:Cnt}(hτ:J9 τ=true)(h:(S.get t).mp false (kV τ) S.ver z0=c):Bn P n S τ (.tmp t) c:=fun C g a w hR=>by
 refine⟨_,rfl,?_⟩
 rw[←h]
 exact la (fun b _ h=>KM b h) (fun h=>by cases h) (Sg hτ) (hR.slots t)
theorem bm {t:Nat}{k:IntKind}{z':Int}(h:S.get t=.per (ak (.int k z)))(hz:z=z'):Bn P n S τ (.tmp t) (.per (ak (.int k z'))):=fun C g a w hR=>by
 have:=hR.slots t
 rw[h]at this
 exact⟨_,rfl,by rw[←hz];exact this⟩
theorem iP {t:Nat}{z z':Bool}(h:S.get t=.per (ak (.bool z)))(hz:z=z'):Bn P n S τ (.tmp t) (.per (ak (.bool z'))):=fun C g a w hR=>by
 have:=hR.slots t
 rw[h]at this
 exact⟨_,rfl,by rw[←hz];exact this⟩
theorem oh {t:Nat}{z z':ByteArray}(h:S.get t=.per (ak (.string z)))(hz:z=z'):Bn P n S τ (.tmp t) (.per (ak (.string z'))):=fun C g a w hR=>by
 have:=hR.slots t
 rw[h]at this
 exact⟨_,rfl,by rw[←hz];exact this⟩
theorem dB {t:Nat}{A':PV}(h:S.get t=.per A)(hz:A=A'):Bn P n S τ (.tmp t) (.per A'):=fun C g a w hR=>by
 have:=hR.slots t
 rw[h]at this
 exact⟨_,rfl,by rw[←hz];exact A.mono (V8 _) (fun _ _ _=>rfl) (fun b _ h=>KM b h) this⟩
theorem Pg {rv:ResultVar}(h:∀(C:Ctx)(g:Gh) a w,RG C n S g a w→∃v,(UY a.tmps rv).run P w=.ok v w∧A.p (g.N C) w v):Bn P n S τ rv (.per A):=fun C g a w hR=>by
 obtain⟨v,h1,h2⟩:=h C g a w hR
 exact⟨v,h1,A.mono (V8 _) (fun _ _ _=>rfl) (fun b _ h=>KM b h) h2⟩
end
def kp (o:Oper)(x0:Operand)(xs:List Operand):Prop:=∃tys,o.op=.call { callee:=.value x0,args:=xs.toArray,argTypes:=tys }
def H3 (n:Nat)(o:Oper):Prop:=o.guard=none∧(match o.dst with|none=>true|some t=>Nat.blt t n)=true
section
variable {P:Program} {n:Nat} {ops:Array Oper} {o:Oper} {F:List Nat} {S T:St} {C:Ctx} {g:Gh} {a:Act} {w w':World} {t:Nat} {sg:List (Nat×Nat)}
theorem H3.dOk (h:H3 n o):dOk n o.dst:=fun t e=>by
 have:=h.2
 rw[e]at this;exact Wc this
theorem Pl.m (h:Pl n o t):H3 n o:=⟨h.1,by rw[h.2.1];exact h.2.2⟩
theorem H3.wanted (h:H3 n o)(a:Act):Region.wanted o (yielded ops a.tmps)=true:=by simp[Region.wanted,h.1]
def Gh.sub (g:Gh)(sg:List (Nat×Nat)):Gh:=⟨fun b=>(g.ow b).bind (ku sg),fun i=>match kV sg i with|some j=>g.ph j|none=>0,fun i=>match kV sg i with|some j=>g.rh j|none=>undef⟩
def iQ (g:Gh)(sg:List (Nat×Nat))(b:Nat):Bool:=((g.ow b).bind (ku sg)).isSome
def Bp (C:Ctx)(g:Gh)(w:World)(sg:List (Nat×Nat)):Ctx:=⟨w,fun b=>b<w.heap.size∧g.N C b∧iQ g sg b=false,fun b=>iQ g sg b=true,g.sub sg⟩
def yV (F:List Nat)(S:St)(x0:Operand)(f:FuncId)(cs:List Cnt):Prop:=∀(n:Nat)(C:Ctx)(T:St)(g:Gh)(a:Act)(w:World),dV F T S→RG C n T g a w →
 ∃caps:List Value,a.eval x0=.func (.func f) #[] caps.toArray∧caps.length=cs.length∧∀(j:Nat)(v:Value)(c:Cnt),caps[j]?=some v→cs[j]?=some c→crep C T.ver g w v c
theorem xf (b:Nat)(h:(g.sub sg).N (Bp C g w sg) b):g.N C b:=by
 rcases h with h|h
 ·exact h.2.1
 ·refine .inr (fun e=>h ?_)
  show(g.ow b).bind (ku sg)=none
  rw[e];rfl
theorem Bq (b:Nat)(h:(g.sub sg).M b):g.M b:=fun e=>h (by show(g.ow b).bind (ku sg)=none;rw[e];rfl)
theorem Br (h:J9 sg=true):∀i j,ku sg i=some j→(g.sub sg).ph j=g.ph i∧(g.sub sg).rh j=g.rh i:=fun i j e=>by
 have:=(ko h).2 e
 unfold Gh.sub
 simp only[this];exact⟨trivial,trivial⟩
theorem Ph:∀b i j,g.ow b=some i→ku sg i=some j→(g.sub sg).ow b=some j:=fun b i j h1 h2=>by
 show(g.ow b).bind (ku sg)=some j
 rw[h1];exact h2
def kF (F:List Nat)(S:St)(sg:List (Nat×Nat))(x:Operand)(c:Cnt):Prop:=∀(n:Nat)(C:Ctx)(T:St)(g:Gh)(a:Act)(w:World),dV F T S→RG C n T g a w →
 crep (Bp C g w sg) z0 (g.sub sg) w (a.eval x) c
theorem Si {x:Operand}{c:Cnt}(hok:J9 sg=true)(hF:∀k∈az x,k∈F)(hS:∀p∈sg,2*p.2+1∈F)(h:(S.opd x).mp true (ku sg) S.ver z0=c):kF F S sg x c:=fun n C T g a w hA hR=>by
 rw[←h,lG (old':=T.ver) (new':=z0) (fun i j e=>((hA.2 i (hS _ (ql e))).2).symm) (fun _ _ _=>rfl)]
 exact la (fun b _ h=>xf b h) (fun _ b _ h=>Bq b h) (Br hok) (aG hA hF hR)
theorem Sj {x:Operand}(hx:S.opd x=.per (cA k es))(hF:∀k∈az x,k∈F):kF F S sg x (.bor k es):=fun n C T g a w hA hR=>by
 have h:=aG (x:=x) hA hF hR
 rw[hx]at h
 exact eH.mono (V8 _) (fun _ _ _=>rfl) (fun _ _ _=>rfl) (fun b _ h=>.inr (Bq b h)) (fun b _ h=>xf b h) h
inductive mG (F:List Nat)(S:St)(sg:List (Nat×Nat)):List Operand→List Cnt→Prop
 | nil:mG F S sg [] []
 | cons {x:Operand} {c:Cnt} {xs:List Operand} {cs:List Cnt} (h:kF F S sg x c) (t:mG F S sg xs cs):mG F S sg (x::xs) (c::cs)
theorem mG.rep (h:mG F S sg xs cs)(hA:dV F T S)(hR:RG C n T g a w):(xs.map a.eval).length=cs.length∧∀(i:Nat)(v:Value)(c:Cnt),(xs.map a.eval)[i]?=some v→cs[i]?=some c→crep (Bp C g w sg) z0 (g.sub sg) w v c:=by
 induction h with
 | nil=>exact⟨rfl,fun i v c hi=>by simp at hi⟩
 | cons h t ih=>
  refine⟨by simp[ih.1],fun i v c hi hc=>?_⟩
  cases i with
  | zero=>
   simp at hi hc;subst hi;subst hc
   exact h n C T g a w hA hR
  | succ i=>exact ih.2 i v c (by simpa using hi) (by simpa using hc)
inductive m8 (S:St)(sg:List (Nat×Nat)):List (Nat×Blk)→Prop
 | nil:m8 S sg []
 | cons {i j:Nat} {B:Blk} {l:List (Nat×Blk)} (hj:kV sg i=some j) (h:(S.blk j).mp true (ku sg) S.ver z0=B) (k:m8 S sg l):m8 S sg ((i,B)::l)
theorem m8.look {l:List (Nat×Blk)}(h:m8 S sg l)(i:Nat):eO i l=.none∨∃j,kV sg i=some j∧eO i l=(S.blk j).mp true (ku sg) S.ver z0:=by
 induction h with
 | nil=>exact .inl rfl
 | @cons i' j B l hj h k ih=>
  unfold eO
  cases hb:Nat.beq i i' with
  | true=>exact .inr ⟨j,by rw[bq.1 hb];exact hj,h.symm⟩
  | false=>exact ih
theorem Pi {x0:Operand}{caps:List Value}{K:Act→World→Prop}{R:Value→World→Prop}(hE:Rr P f)(ho:kp o x0 xs)(h0:a.eval x0=.func (.func f) #[] caps.toArray)
 (h:Calls P f (xs.map a.eval++caps).toArray w (fun e w'=>∃v,e=.returned v∧R v w')) (hk:∀v w',R v w'→K (a.put o.dst v) w') :
 o.wp P a w K (fun _ _ _=>False):=by
 obtain⟨fn,h1,h2,h3⟩:=hE
 obtain⟨tys,ho⟩:=ho
 unfold Oper.wp
 have:(execOp a.eval o).run P w=.ok (.enter f (xs.map a.eval++caps).toArray) w:=by
  simp only[execOp,ho,resolve,h0,Deferred.ofValue,Sem.run_bind,Sem.run_pure,Result.andThen_ok,invoke,callFunc,List.map_toArray]
  simp only[program,Sem.run,Result.andThen_ok,h1,h2,h3,WH,XC]
  simp
 rw[this,Oper.upon_enter]
 refine Calls.mono h ?_
 rintro e w' ⟨v,rfl,hv⟩
 exact hk v w' hv
def wn (vr:Nat→Nat)(sg:List (Nat×Nat))(j:Nat):Nat:=match ku sg j with
 | some i=>bif fq i then vr j else vr j+1
 | none=>vr j
def KN (sg:List (Nat×Nat)):Bool:=J9 sg&&sg.all fun p=>!fq p.2||fq p.1
def nr (S:St)(post:List (Nat×Blk))(sg:List (Nat×Nat)):List (Nat×Nat)→Upd
 | []=>[]
 | (i,j)::l=>(j,wn S.ver sg j,(eO i post).mp false (kV sg) z0 (wn S.ver sg))::nr S post sg l
theorem qm (l:List (Nat×Nat))(j:Nat):ub (nr S post sg l) j=match ku l j with
 | some i=>some (wn S.ver sg j,(eO i post).mp false (kV sg) z0 (wn S.ver sg))
 | none=>none:=by
 induction l with
 | nil=>rfl
 | cons p l ih=>
  obtain⟨i,j'⟩:=p
  simp only[nr,ub,ku]
  cases hb:Nat.beq j j' with
  | true=>rw[bq.1 hb];rfl
  | false=>exact ih
theorem lH {x0:Operand}{pre:List (Nat×Blk)}(sg:List (Nat×Nat))(hp:H3 n o)(ho:kp o x0 xs)(hh:yV F S x0 f cs)
 (hf:dh P f (As++cs.map (Cnt.mp true (ku sg) S.ver z0)) pre r post) (hok:KN sg=true) (hS:∀p∈sg,2*p.2+1∈F) (hg:mG F S sg xs As) (hpre:m8 S sg pre) :
 aw n P ops o F (r.mp false (kV sg) z0 (wn S.ver sg)) (nr S post sg sg) S:=by
 refine⟨?_⟩
 intro C T hA a w ⟨g,hR⟩
 unfold iM
 rw[V6 (hp.wanted a)]
 unfold KN at hok
 rw[Wi,WJ]at hok
 obtain⟨hok,hfx⟩:=hok
 obtain⟨caps,c1,c2,c3⟩:=hh n C T g a w hA hR
 obtain⟨g1,g2⟩:=hg.rep hA hR
 have hver:∀i j,kV sg i=some j→S.ver j=T.ver j:=fun i j e=>((hA.2 j (hS _ (tv e))).2).symm
 have hver2:∀i j,ku sg j=some i→S.ver j=T.ver j:=fun i j e=>((hA.2 j (hS _ (ql e))).2).symm
 have hlent:∀b,iQ g sg b=true→∃j i,g.ow b=some j∧ku sg j=some i:=fun b hb=>by
  unfold iQ at hb
  cases ho:g.ow b with
  | none=>rw[ho]at hb;cases hb
  | some j=>
   rw[ho]at hb
   cases hl:ku sg j with
   | none=>rw[Option.bind_some,hl]at hb;cases hb
   | some i=>exact⟨j,i,rfl,hl⟩
 have hunl:∀b,iQ g sg b=false→∀j i,g.ow b=some j→ku sg j≠some i:=fun b hb j i h1 h2=>by
  unfold iQ at hb
  rw[h1,Option.bind_some,h2]at hb;cases hb
 refine Pi (caps:=caps) (R:=fun v w'=>∃g',Va (Bp C g w sg) w w' g'∧crep (Bp C g w sg) z0 g' w' v r∧∀id,brep (Bp C g w sg) z0 g' w' id (eO id post)) hf.ent ho c1 ?_ ?_
 ·refine Calls.mono (hf.run (Bp C g w sg) w (xs.map a.eval++caps) rfl (fun b h=>⟨h.1,by have:=h.2.2;exact fun e=>by rw[show iQ g sg b=true from e]at this;cases this⟩) (fun b id e=>?_) (by simp[g1,c2]) ?_ (fun id=>?_)) ?_
  ·have e':(g.ow b).bind (ku sg)=some id:=e
   refine⟨?_,show iQ g sg b=true by unfold iQ;rw[e'];rfl⟩
   cases ho:g.ow b with
   | none=>rw[ho]at e';cases e'
   | some j=>exact(hR.dom b j ho).1
  ·intro i v c hi hc
   rcases Wm i As.length with hlt|hge
   ·rw[Wl ab]at hi
    rw[Wl hlt]at hc
    exact g2 i v c hi hc
   ·rw[List.getElem?_append_right ab]at hi
    rw[List.getElem?_append_right hge,List.getElem?_map]at hc
    rw[g1]at hi
    cases hcc:cs[i-As.length]? with
    | none=>rw[hcc]at hc;cases hc
    | some c'=>
     rw[hcc]at hc;cases hc
     rw[lG (old':=T.ver) (new':=z0) (fun i j e=>hver2 j i e) (fun _ _ _=>rfl)]
     exact la (fun b _ h=>xf b h) (fun _ b _ h=>Bq b h) (Br hok) (c3 _ v c' hi hcc)
  ·rcases hpre.look id with q|⟨j,hj,q⟩
   ·rw[q];trivial
   ·rw[q,rB (old':=T.ver) (new':=z0) (fun i j e=>hver2 j i e) (fun _ _ _=>rfl)]
    have h3:=hR.blks j
    rw[(hA.2 j (hS _ (tv hj))).1]at h3
    exact qk (fun b _ h=>xf b h) (fun _ b _ h=>Bq b h) (Br hok) Ph (fun b i e=>(hR.dom b i e).1) ((ko hok).1 hj) h3
  ·rintro e w' ⟨v,g',h1,h2⟩
   exact⟨v,h1,g',h2⟩
 ·rintro v w' ⟨gf,hfr,hr,hb⟩
  let g':Gh:=⟨fun b=>if b<w.heap.size∧iQ g sg b=false then g.ow b else(gf.ow b).bind (kV sg),fun j=>match ku sg j with|some i=>gf.ph i|none=>g.ph j,fun j=>match ku sg j with|some i=>gf.rh i|none=>g.rh j⟩
  have how':∀b,g'.ow b=if b<w.heap.size∧iQ g sg b=false then g.ow b else(gf.ow b).bind (kV sg):=fun _=>rfl
  have hρ:∀i j,kV sg i=some j→g'.ph j=gf.ph i∧g'.rh j=gf.rh i:=fun i j e=>by
   have:=(ko hok).1 e
   refine⟨?_,?_⟩
   ·show(match ku sg j with|some i=>gf.ph i|none=>g.ph j)=_
    rw[this]
   ·show(match ku sg j with|some i=>gf.rh i|none=>g.rh j)=_
    rw[this]
  have hsame:∀j,ku sg j=none→g'.ph j=g.ph j∧g'.rh j=g.rh j:=fun j e=>by
   refine⟨?_,?_⟩
   ·show(match ku sg j with|some i=>gf.ph i|none=>g.ph j)=_
    rw[e]
   ·show(match ku sg j with|some i=>gf.rh i|none=>g.rh j)=_
    rw[e]
  have hgf:∀b i,gf.ow b=some i→¬(b<w.heap.size∧iQ g sg b=false):=fun b i e h=>by
   rcases(hfr.dom b i e).2 with q|q
   ·omega
   ·rw[show iQ g sg b=true from q]at h;cases h.2
  have hN:∀b,b<w'.heap.size→g'.N C b→gf.N (Bp C g w sg) b:=fun b hbw h=>by
   rcases h with h|h
   ·have h1:=hR.n0 b h
    have h2:=hR.size
    have hno:g.ow b=none:=by
     cases ho:g.ow b with
     | none=>rfl
     | some j=>
      rcases(hR.dom b j ho).2 with q|q
      ·omega
      ·exact absurd q (hR.n0l b h)
    exact .inl ⟨ab,.inl h,by unfold iQ;rw[hno];rfl⟩
   ·rw[how']at h
    split at h
    ·rename_i hc
     exact .inl ⟨hc.1,.inr h,hc.2⟩
    ·refine .inr (fun e=>h ?_)
     rw[e];rfl
  have hst:pa C (fun i=>ub (nr S post sg sg) i≠none) T.ver (T.app o.dst (r.mp false (kV sg) z0 (wn S.ver sg)) (nr S post sg sg)).ver g g' w w':=by
   have hub:∀j,ub (nr S post sg sg) j≠none↔∃i,ku sg j=some i:=fun j=>by
    rw[qm]
    cases ku sg j<;>simp
   have hnot:∀b,(∀i,ub (nr S post sg sg) i≠none→g.ow b≠some i)→iQ g sg b=false:=fun b hn=>by
    cases hb:iQ g sg b with
    | false=>rfl
    | true=>
     obtain⟨j,i,h1,h2⟩:=hlent b hb
     exact absurd h1 (hn j ((hub j).2 ⟨i,h2⟩))
   refine⟨hfr.size,fun b hb' hn=>hfr.old b hb' (fun e=>by have q:=hnot b hn;rw[show iQ g sg b=true from e]at q;cases q),fun b hb' hn=>?_,fun b hb' hn=>?_,fun b id e=>?_,fun j=>?_,fun j hj=>?_,fun j hj=>?_,hfr.os,hfr.tape,hfr.output⟩
   ·rw[how',V6 ⟨hb',hnot b hn⟩]
   ·rw[how']at hn
    split at hn
    ·exact hn
    ·rename_i hc
     have:iQ g sg b=true:=by
      cases h:iQ g sg b with
      | true=>rfl
      | false=>exact absurd ⟨hb',h⟩ hc
     obtain⟨j,i,h1,_⟩:=hlent b this
     rw[h1];simp
   ·rw[how']at e
    split at e
    ·exact⟨WY (hR.dom b id e).1 hfr.size,(hR.dom b id e).2⟩
    ·cases ho:gf.ow b with
     | none=>rw[ho]at e;cases e
     | some i=>
      obtain⟨d1,d2⟩:=hfr.dom b i ho
      refine⟨d1,?_⟩
      rcases d2 with q|q
      ·exact .inl (W7 hR.size q)
      ·obtain⟨j,i',h1,_⟩:=hlent b q
       exact(hR.dom b j h1).2
   ·rw[St.app_ver,qm]
    cases hl:ku sg j with
    | none=>exact .inl rfl
    | some i=>
     simp only[W5,Option.getD_some,wn,hl]
     rw[hver2 i j hl]
     cases fq i with
     | true=>exact .inl rfl
     | false=>exact .inr ⟨au,au⟩
   ·rw[St.app_ver,qm]at hj
    cases hl:ku sg j with
    | none=>exact hsame j hl
    | some i=>
     rw[hl]at hj
     simp only[W5,Option.getD_some,wn,hl]at hj
     rw[hver2 i j hl]at hj
     cases hx:fq i with
     | false=>rw[hx]at hj;simp at hj
     | true=>
      have k:=hfr.keep i hx
      have s:=Br (g:=g) hok j i hl
      have q:=hρ i j ((ko hok).2 hl)
      exact⟨q.1.trans (k.1.trans s.1),q.2.trans (k.2.trans s.2)⟩
   ·cases hl:ku sg j with
    | none=>exact hsame j hl
    | some i=>
     have hx:fq i=true:=by
      have:=hfx _ (ql hl)
      simpa[hj]using this
     have k:=hfr.keep i hx
     have s:=Br (g:=g) hok j i hl
     have q:=hρ i j ((ko hok).2 hl)
     exact⟨q.1.trans (k.1.trans s.1),q.2.trans (k.2.trans s.2)⟩
  have hnew:∀i j,kV sg i=some j→wn S.ver sg j=(T.app o.dst (r.mp false (kV sg) z0 (wn S.ver sg)) (nr S post sg sg)).ver j:=fun i j e=>by
   rw[St.app_ver,qm,(ko hok).1 e];rfl
  refine⟨g',hR.appL hp.dOk hst ?_ (fun j v B hu=>?_)⟩
  ·have hc:=la (bo:=false) (vr:=z0) (vr':=(T.app o.dst (r.mp false (kV sg) z0 (wn S.ver sg)) (nr S post sg sg)).ver) hN (fun h=>by cases h) hρ hr
   rw[←lG (old:=z0) (new:=wn S.ver sg) (fun _ _ _=>rfl) hnew]at hc
   exact hc
  ·rw[qm]at hu
   cases hl:ku sg j with
   | none=>rw[hl]at hu;cases hu
   | some i=>
    rw[hl]at hu;cases hu
    rw[rB (old':=z0) (fun _ _ _=>rfl) hnew]
    exact qk (bo:=false) hN (fun h=>by cases h) hρ (fun b i j h1 h2=>by rw[how',V3 (hgf b i h1),h1];exact h2) (fun b i e=>(hfr.dom b i e).1) ((ko hok).2 hl) (hb i)
theorem DS:yV F S (.func f) f []:=fun n C T g a w hA hR=>⟨[],rfl,rfl,fun j v c h=>by simp at h⟩
theorem Bt {x0:Operand}(hx:S.opd x0=.per (ak (.func (.func f) #[] #[])))(hF:∀k∈az x0,k∈F):yV F S x0 f []:=fun n C T g a w hA hR=>
 ⟨[],aP hA hF hR hx,rfl,fun j v c h=>by simp at h⟩
end
section
variable {P:Program} {n:Nat} {ops:Array Oper} {o:Oper} {F:List Nat} {S T:St} {C:Ctx} {g:Gh} {a:Act} {w w':World} {t:Nat}
def qn:List Cnt→Cnt
 | []=>.aggN
 | c::r=>.aggK c (qn r)
def lu:Cnt→Option (List Cnt)
 | .aggN=>some []
 | .aggK c r=>(lu r).map (c::·)
 | _=>none
theorem nt:∀{c:Cnt} {l:List Cnt},lu c=some l→c=qn l:=by
 intro c
 induction c with
 | aggN=>intro l h;cases h;rfl
 | aggK c r _ ih2=>
  intro l h
  simp only[lu]at h
  cases hr:lu r with
  | none=>rw[hr]at h;cases h
  | some l'=>rw[hr]at h;cases h;rw[ih2 hr];rfl
 | _=>intro l h;cases h
def nu (C:Ctx)(vr:Nat→Nat)(g:Gh)(w:World)(vs:List Value)(cs:List Cnt):Prop:=
 vs.length=cs.length∧∀(j:Nat)(c:Cnt),cs[j]?=some c→∃y,vs[j]?=some y∧y.oneCell'=true∧crep C vr g w y c
theorem lI {vr:Nat→Nat}:∀{cs:List Cnt} {v:Value},crep C vr g w v (qn cs)↔∃vs:List Value,v=.agg vs.toArray∧nu C vr g w vs cs:=by
 intro cs
 induction cs with
 | nil=>
  intro v
  constructor
  ·intro h;exact⟨[],h,rfl,fun j c hj=>by simp at hj⟩
  ·rintro⟨vs,h,h1,_⟩
   obtain rfl:vs=[]:=Wf (by simpa using h1)
   exact h
 | cons c cs ih=>
  intro v
  constructor
  ·rintro⟨x,vs,h,h1,h2,h3⟩
   obtain⟨vs',e,q1,q2⟩:=ih.1 h3
   have:vs=vs':=by simpa using e
   subst this
   refine⟨x::vs,h,by simp[q1],fun j c' hj=>?_⟩
   cases j with
   | zero=>simp at hj;subst hj;exact⟨x,rfl,h1,h2⟩
   | succ j=>exact q2 j c' (by simpa using hj)
  ·rintro⟨vs,h,q1,q2⟩
   cases vs with
   | nil=>simp at q1
   | cons x vs=>
    obtain⟨y,r1,r2,r3⟩:=q2 0 c rfl
    simp at r1;subst r1
    exact⟨x,vs,h,r2,r3,ih.2 ⟨vs,rfl,by simpa using q1,fun j c' hj=>q2 (j+1) c' (by simpa using hj)⟩⟩
def pc (F:List Nat)(S:St)(c:Cnt):Prop:=∀(n:Nat)(C:Ctx)(T:St)(g:Gh)(a:Act)(w:World)(v:Value),dV F T S→RG C n T g a w→crep C T.ver g w v c→v.oneCell'=true∧v.cells=#[v]
theorem KO (h:rt A):pc F S (.per A):=fun _ _ _ _ _ _ _ _ _ hc=>h _ _ _ hc
theorem KP {vr:Nat}(hv:S.ver id=vr)(hF:2*id+1∈F):pc F S (.ptr id vr off):=fun n C T g a w v hA hR hc=>by
 rw[hc.2 (by rw[(hA.2 id hF).2,hv])];exact⟨rfl,rfl⟩
theorem KQ {vr e:Nat}(hv:S.ver id=vr)(hb:S.blk id=.row e k es)(hF:2*id+1∈F):pc F S (.row id vr):=fun n C T g a w v hA hR hc=>by
 rw[hc.2 (by rw[(hA.2 id hF).2,hv])]
 have h:=hR.blks id
 rw[(hA.2 id hF).1,hb]at h
 rcases h with⟨h1,_⟩|⟨cap,cs,h1,_⟩<;>(rw[h1];exact⟨rfl,rfl⟩)
theorem KR {vr:Nat}{A:OV}(hv:S.ver id=vr)(hb:S.blk id=.obj A)(hF:2*id+1∈F):pc F S (.row id vr):=fun n C T g a w v hA hR hc=>by
 rw[hc.2 (by rw[(hA.2 id hF).2,hv])]
 have h:=hR.blks id
 rw[(hA.2 id hF).1,hb]at h
 exact A.one h
theorem H4 {c:Cnt}:pc F S (.clo1 f c):=fun n C T g a w v hA hR hc=>by obtain⟨x,e,_⟩:=hc;rw[e];exact⟨rfl,rfl⟩
theorem H5 {c:Cnt}:pc F S (.clo2 f c d):=fun n C T g a w v hA hR hc=>by obtain⟨x,y,e,_⟩:=hc;rw[e];exact⟨rfl,rfl⟩
theorem H6 {c e:Cnt}:pc F S (.clo3 f c d e):=fun n C T g a w v hA hR hc=>by obtain⟨x,y,z,e,_⟩:=hc;rw[e];exact⟨rfl,rfl⟩
theorem Bu {x:Operand}(hp:Pl n o t)(ho:o.op=.box e x)(hx:lu (S.opd x)=some cs) :
 aw n P ops o ((2*t+1)::az x) (.ptr t (S.ver t+1) 0) [(t,S.ver t+1,.box e cs)] S:=
 qd hp au fun C T g a w hA hR=>by
  have h:=aG (x:=x) hA (fun k h=>by simp[h]) hR
  rw[nt hx]at h
  obtain⟨vs,hv,h1,h2⟩:=lI.1 h
  refine⟨.pointer (some ⟨w.heap.size,0,none⟩),w.alloc (.cells vs.toArray e),w.heap.size,?_,(eX.refl w).alloc _,V8 _,gF _ _,fun vr' hvr hst=>⟨?_,?_⟩⟩
  ·simp only[execOp,ho,hv,Instr.box,newVar,newRow,Value.cells,newObj,Sem.run_bind,Sem.run_pure]
   rfl
  ·exact kj (by rw[hvr,V6 rfl]) rfl
  ·refine qe (by simp[h1]) (fun j c hj=>?_)
   obtain⟨y,g1,g2,g3⟩:=h2 j c hj
   exact⟨y,by simpa using g1,g2,hst.crep g3⟩
theorem pi {x:Operand}{vr:Nat}{new:List Cnt}(hp:Dw o)(ho:o.op=.store ty x y)(hk:P.cellsOf ty=k)(h0:Nat.blt 0 k=true)
 (hx:S.opd x=.ptr id vr off) (hv:S.ver id=vr) (hb:S.blk id=.box e cells) (hl:Nat.ble (off+k) cells.length=true) (hnl:new.length=k) (hF0:2*id+1∈F) (hFx:∀k∈az x,k∈F)
 (hy:∀C T g a w,dV F T S→RG C n T g a w→(a.eval y).cells.size=k∧∀(j:Nat)(c:Cnt),new[j]?=some c→∃u,(a.eval y).cells[j]?=some u∧u.oneCell'=true∧crep C T.ver g w u c) :
 aw n P ops o F .any [(id,vr,.box e (kU cells off new))] S:=by
 refine⟨?_⟩
 intro C T hA a w ⟨g,hR⟩
 obtain⟨h1,cs,h2,h3,h4,h5⟩:=ua hA hFx hF0 hR hx hv hb
 obtain⟨hys,hyc⟩:=hy C T g a w hA hR
 have h0:=Wc h0
 have hl:=Wc hl
 have hvt:=(hA.2 id hF0).2
 unfold iM
 rw[V6 (by simp[Region.wanted,hp.1])]
 unfold Oper.wp
 have hone:∀u∈(a.eval y).cells.toList,u.oneCell'=true:=by
  intro u hu
  obtain⟨j,hj,rfl⟩:=List.getElem_of_mem hu
  have hj':j<new.length:=by rw[hnl,←hys];simpa using hj
  obtain⟨u',g1,g2,_⟩:=hyc j new[j] (by simp[hj'])
  have:(a.eval y).cells.toList[j]=u':=by
   have:=g1;simp at hj;rw[WS hj]at this;simpa using this
  rw[this];exact g2
 have hrun:=k7 (P:=P) (ty:=ty) (off:=off) h2 (by rw[hk,hys]) ab ab hone
 have hex:(execOp a.eval o).run P w=.ok .skip (w.setRow (g.ph id) (cs.toList.take off++(a.eval y).cells.toList++cs.toList.drop (off+(a.eval y).cells.size)).toArray):=by
  simp only[execOp,ho,h1,Sem.run_bind,hrun];rfl
 rw[hex,Oper.upon_skip]
 have hst:=n9 (cs':=(cs.toList.take off++(a.eval y).cells.toList++cs.toList.drop (off+(a.eval y).cells.size)).toArray) hR rfl h2 h3
 have hver:(T.app o.dst .any [(id,vr,.box e (kU cells off new))]).ver=T.ver:=by
  funext i
  rw[St.app_some_ver]
  split
  ·rename_i h;subst h;rw[hvt,hv]
  ·rfl
 refine⟨g,hR.app1 (c:=.any) (fun t h=>by rw[hp.2]at h;cases h) (by rw[hver];exact hst) trivial ?_⟩
 rw[hver]
 refine⟨_,setRow_heap _ _ _ _ _ _ h2,h3,?_,fun j c hj=>?_⟩
 ·simp[kU];omega
 ·unfold kU at hj
  have hta:(cells.take off).length=off:=bn
  have htb:(cs.toList.take off).length=off:=bn
  rcases Wm j off with hlt|hge
  ·rw[Wl ab,WI,V6 hlt]at hj
   obtain⟨u,q1,q2,q3⟩:=h5 j c hj
   refine⟨u,?_,q2,hst.crep q3⟩
   rw[W3,V9,Wl ab,WI,V6 hlt]
   simpa using q1
  ·rw[List.getElem?_append_right ab,hta]at hj
   rcases Wm j (off+k)with hlt|hge2
   ·rw[Wl ab]at hj
    obtain⟨u,q1,q2,q3⟩:=hyc _ c hj
    refine⟨u,?_,q2,hst.crep q3⟩
    rw[W3,V9,List.getElem?_append_right ab,htb,Wl bn]
    simpa using q1
   ·rw[List.getElem?_append_right ab,hnl,WO]at hj
    obtain⟨u,q1,q2,q3⟩:=h5 _ c hj
    refine⟨u,?_,q2,hst.crep q3⟩
    rw[W3,V9,List.getElem?_append_right ab,htb,List.getElem?_append_right bn,WO]
    simp only[W9,hys,Array.getElem?_toList]
    rw[←q1]
theorem DU {x:Operand}{vr:Nat}{c:Cnt}(hp:Dw o)(ho:o.op=.store ty x y)(hk:P.cellsOf ty=1)
 (hx:S.opd x=.ptr id vr off) (hv:S.ver id=vr) (hb:S.blk id=.box e cells) (hl:Nat.ble (off+1) cells.length=true) (hy:S.opd y=c) (hF0:2*id+1∈F) (hFx:∀k∈az x,k∈F) (hFy:∀k∈az y,k∈F) (h1:pc F S c) :
 aw n P ops o F .any [(id,vr,.box e (kU cells off [c]))] S:=
 pi hp ho hk rfl hx hv hb hl rfl hF0 hFx fun C T g a w hA hR=>by
  have h:=aG (x:=y) hA hFy hR
  rw[hy]at h
  obtain⟨g1,g2⟩:=h1 _ _ _ _ _ _ _ hA hR h
  rw[g2]
  refine⟨rfl,fun j c' hj=>?_⟩
  cases j with
  | zero=>simp at hj;subst hj;exact⟨_,rfl,g1,h⟩
  | succ j=>simp at hj
theorem wz {x:Operand}{vr:Nat}(hp:Dw o)(ho:o.op=.store ty x y)(hk:P.cellsOf ty=k)(h0:Nat.blt 0 k=true)
 (hx:S.opd x=.ptr id vr off) (hv:S.ver id=vr) (hb:S.blk id=.box e cells) (hl:Nat.ble (off+k) cells.length=true) (hy:lu (S.opd y)=some cs) (hn:Nat.beq cs.length k=true) :
 aw n P ops o ((2*id+1)::(az x++az y)) .any [(id,vr,.box e (kU cells off cs))] S:=
 pi hp ho hk h0 hx hv hb hl (bq.1 hn) au (fun k h=>by simp[h]) fun C T g a w hA hR=>by
  have h:=aG (x:=y) hA (fun k h=>by simp[h]) hR
  rw[nt hy]at h
  obtain⟨vs,hv,q1,q2⟩:=lI.1 h
  rw[hv]
  refine⟨by show vs.toArray.size=k;have:=bq.1 hn;simp;omega,fun j c hj=>?_⟩
  obtain⟨y',s1,s2,s3⟩:=q2 j c hj
  exact⟨y',by show vs.toArray[j]?=_;simpa using s1,s2,s3⟩
theorem KS {d:TypeDesc}{x:Operand}{vr:Nat}(hp:Pl n o t)(ho:o.op=.load ty x)(hT:P.underlying ty=some d)(hd:ip d=true)(hk:P.cellsOf ty=k)(h0:Nat.blt 0 k=true)
 (hx:S.opd x=.ptr id vr off) (hv:S.ver id=vr) (hb:S.blk id=.box e cells) (hl:Nat.ble (off+k) cells.length=true):aw n P ops o ((2*id+1)::az x) (qn ((cells.drop off).take k)) [] S:=
 aV hp fun C T g a w hA hR=>by
  obtain⟨h1,cs,h2,_,h4,h5⟩:=ua hA (fun k h=>by simp[h]) au hR hx hv hb
  have h0:=Wc h0
  have hl:=Wc hl
  have hcell:∀(j:Nat)(u:Value),((cs.toList.drop off).take k)[j]?=some u→w.cell? ⟨g.ph id,off+j,none⟩=some u:=by
   intro j u hj
   rw[WI]at hj
   split at hj
   ·rw[WO]at hj
    rw[eo h2];simpa using hj
   ·cases hj
  have hlen:((cs.toList.drop off).take k).length=k:=bn
  refine⟨.agg ((cs.toList.drop off).take k).toArray,?_,lI.2 ⟨_,rfl,bn,fun j c hj=>?_⟩⟩
  ·simp only[execOp,ho,h1,Sem.run_bind,fg (b:=g.ph id) (o:=off) hT hd (by rw[hk,hlen]) ab hcell];rfl
  ·rw[WI]at hj
   split at hj
   ·rename_i hjk
    rw[WO]at hj
    obtain⟨y,q1,q2,q3⟩:=h5 _ _ hj
    exact⟨y,by rw[WI,V6 hjk,WO];simpa using q1,q2,q3⟩
   ·cases hj
def Pj (zs:List Cnt)(off:Nat)(ps:List Cnt):List Cnt:=zs.take off++(ps++zs.drop (off+ps.length))
def Bv (place:Nat→Option (Nat×Nat))(zs:List Cnt):List (Nat×List Cnt)→Option (List Cnt)
 | []=>some zs
 | (i,ps)::rest=>match place i with
  | none=>none
  | some (off,size)=>bif Nat.beq ps.length size&&Nat.ble (off+size) zs.length then Bv place (Pj zs off ps) rest else none
theorem DV {vr:Nat→Nat}{cs:Array Value}{zs ps:List Cnt}{vs:Array Value}(h:nu C vr g w cs.toList zs)(hv:nu C vr g w vs.toList ps)(hl:off+ps.length≤zs.length) :
 nu C vr g w (vs.zipIdx.foldl (fun cs (c,j)=>cs.setIfInBounds (off+j) c) cs).toList (Pj zs off ps):=by
 have hvs:vs.size=ps.length:=by simpa using hv.1
 have hcs:cs.size=zs.length:=by simpa using h.1
 have hz:vs.zipIdx.foldl (fun cs (c,j)=>cs.setIfInBounds (off+j) c) cs=(vs.toList.zipIdx 0).foldl (fun cs (c,j)=>cs.setIfInBounds (off+j) c) cs:=by
  rw[←Array.foldl_toList,Array.toList_zipIdx]
 rw[hz]
 have hf:=fun i=>wY vs.toList 0 off cs i bn
 refine⟨by rw[W9,(hf 0).1];simp[Pj];omega,fun j A hj=>?_⟩
 rw[Array.getElem?_toList,(hf j).2]
 unfold Pj at hj
 have hta:(zs.take off).length=off:=bn
 simp only[WW,W9]
 rcases Wm j off with hlt|hge
 ·rw[Wl ab,WI,V6 hlt]at hj
  rw[V3 ab]
  have:=h.2 j A hj
  simpa using this
 ·rw[List.getElem?_append_right ab,hta]at hj
  rcases Wm j (off+ps.length)with hlt|hge2
  ·rw[Wl ab]at hj
   rw[V6 ⟨ab,ab⟩]
   exact hv.2 _ A hj
  ·rw[List.getElem?_append_right ab,WO]at hj
   rw[V3 ab]
   have:=h.2 _ A hj
   rw[show off+ps.length+(j-off-ps.length)=j by omega]at this
   simpa using this
def KT (F:List Nat)(S:St)(x:Operand)(ps:List Cnt):Prop:=(∃As,S.opd x=.per (cB As)∧ps=As.map .per)∨(∃c,S.opd x=c∧pc F S c∧ps=[c])∨lu (S.opd x)=some ps
inductive rC (F:List Nat)(S:St):List (Nat×Operand)→List (Nat×List Cnt)→Prop
 | nil:rC F S [] []
 | cons {i:Nat} {x:Operand} {ps:List Cnt} {l:List (Nat×Operand)} {l':List (Nat×List Cnt)} (h:KT F S x ps) (k:rC F S l l'):rC F S ((i,x)::l) ((i,ps)::l')
theorem KT.rep {x:Operand}{ps:List Cnt}(h:KT F S x ps)(hA:dV F T S)(hF:∀k∈az x,k∈F)(hR:RG C n T g a w):nu C T.ver g w (a.eval x).cells.toList ps:=by
 have hr:=aG (x:=x) hA hF hR
 rcases h with⟨As,h,rfl⟩|⟨c,h,h1,rfl⟩|h
 ·rw[h]at hr
  obtain⟨vs,hv,hc⟩:=hr
  rw[hv]
  refine⟨by show vs.toList.length=_;simpa using hc.1,fun j c hj=>?_⟩
  rw[List.getElem?_map]at hj
  cases hA':As[j]? with
  | none=>rw[hA']at hj;cases hj
  | some A=>
   rw[hA']at hj;cases hj
   obtain⟨y,q1,q2,q3⟩:=hc.2 j A hA'
   exact⟨y,by show vs.toList[j]?=_;simpa using q1,q2,q3⟩
 ·rw[h]at hr
  obtain⟨q1,q2⟩:=h1 _ _ _ _ _ _ _ hA hR hr
  rw[q2]
  refine⟨rfl,fun j c' hj=>?_⟩
  cases j with
  | zero=>simp at hj;subst hj;exact⟨_,rfl,q1,hr⟩
  | succ j=>simp at hj
 ·rw[nt h]at hr
  obtain⟨vs,hv,hc⟩:=lI.1 hr
  rw[hv];exact hc
theorem H7 {place:Nat→Option (Nat×Nat)}{parts:List (Nat×Operand)}{pps:List (Nat×List Cnt)}(h:rC F S parts pps)(hA:dV F T S)(hF:∀k∈iq parts,k∈F)(hR:RG C n T g a w) :
 ∀{cells:Array Value} {zs cs:List Cnt},nu C T.ver g w cells.toList zs→Bv place zs pps=some cs→∃out,Instr.fill place cells (parts.map fun(i,x)=>(i,a.eval x))=some out∧nu C T.ver g w out.toList cs:=by
 induction h with
 | nil=>intro cells zs cs hc hf;cases hf;exact⟨cells,rfl,hc⟩
 | @cons i x ps l l' h k ih=>
  intro cells zs cs hc hf
  have hx:=h.rep hA (fun k hk=>hF k (by simp[iq,hk])) hR
  unfold Bv at hf
  cases hp:place i with
  | none=>simp only[hp]at hf;cases hf
  | some p=>
   obtain⟨off,size⟩:=p
   simp only[hp]at hf
   cases hb:(Nat.beq ps.length size&&Nat.ble (off+size) zs.length)with
   | false=>rw[hb]at hf;cases hf
   | true=>
    rw[hb]at hf
    simp only[cond_true]at hf
    rw[Wi]at hb
    have h1:=bq.1 hb.1
    have h2:=Wc hb.2
    have hcs:cells.size=zs.length:=by simpa using hc.1
    have hxs:(a.eval x).cells.size=ps.length:=by simpa using hx.1
    obtain⟨out,q1,q2⟩:=ih (fun k hk=>hF k (by simp only[iq,List.flatMap_cons,Wz];exact .inr hk)) (DV (off:=off) hc hx ab) hf
    refine⟨out,?_,q2⟩
    simp only[List.map_cons,Instr.fill,hp]
    rw[V3 (by simp only[ne_eq,gt_iff_lt,WN,Wn,not_or,WB];exact⟨ab,ab⟩)]
    exact q1
theorem Bw {vr:Nat→Nat}{vs:List Value}(h:vs.all (·.oneCell')=true):nu C vr g w vs (vs.map Ko):=by
 refine⟨au,fun j c hj=>?_⟩
 rw[List.getElem?_map]at hj
 cases hv:vs[j]? with
 | none=>rw[hv]at hj;cases hj
 | some y=>
  rw[hv]at hj;cases hj
  rw[WJ]at h
  exact⟨y,rfl,h y (WK hv),rfl⟩
theorem H8 {z:Value}{ls:List (Nat×Nat)}{parts:List (Nat×Operand)}{pps:List (Nat×List Cnt)}(hp:Pl n o t)(ho:o.op=.build ty parts.toArray)(hl:A8 P ty=some ls)(hz:(P.info? ty).bind (·.zero)=some z)
 (h1:z.cells.toList.all (·.oneCell')=true) (hF:∀k∈iq parts,k∈F) (hpt:rC F S parts pps) (hf:Bv (fun i=>ls[i]?) (z.cells.toList.map Ko) pps=some cs):aw n P ops o F (qn cs) [] S:=
 aV hp fun C T g a w hA hR=>by
  obtain⟨out,r1,r2⟩:=H7 hpt hA hF hR (Bw h1) hf
  refine⟨.agg out,?_,lI.2 ⟨out.toList,au,r2⟩⟩
  simp only[execOp,ho,Sem.run_bind]
  rw[run_build w ty _ out (by rw[show((parts.toArray.map fun(x:Nat×Operand)=>(x.1,a.eval x.2)).toList)=parts.map fun(i,x)=>(i,a.eval x)by simp];exact A9 hl hz r1)]
  rfl
theorem Pk {x:Operand}{vr:Nat}(hp:Pl n o t)(ho:o.op=.nilCheck x)(hx:S.opd x=.ptr id vr off)(hv:S.ver id=vr):aw n P ops o ((2*id+1)::az x) (.ptr id vr off) [] S:=
 aV hp fun C T g a w hA hR=>by
  have h:=aG (x:=x) hA (fun k h=>by simp[h]) hR
  rw[hx]at h
  have hv':=(hA.2 id au).2
  have hev:=h.2 ab
  exact⟨a.eval x,by simp only[execOp,ho,hev];rfl,h⟩
theorem DW {x:Operand}{cs:List PV}(hp:Pl n o t)(ho:o.op=.nilCheck x)(hx:S.opd x=.per (fM cs)):aw n P ops o (az x) (.per (fM cs)) [] S:=
 aV hp fun C T g a w hA hR=>by
  have h:=aG (x:=x) hA (fun k h=>by simp[h]) hR
  rw[hx]at h
  obtain⟨b,q,hev,_⟩:=h
  exact⟨a.eval x,by simp only[execOp,ho,hev];rfl,by rw[←hx];exact aG (x:=x) hA (fun k h=>by simp[h]) hR⟩
def oi (F:List Nat)(S:St)(x:Operand):Prop:=∀(n:Nat)(C:Ctx)(T:St)(g:Gh)(a:Act)(w:World),dV F T S→RG C n T g a w→∃ad,a.eval x=.pointer (some ad)
theorem KU {x:Operand}{vr:Nat}(hx:S.opd x=.ptr id vr off)(hv:S.ver id=vr):oi ((2*id+1)::az x) S x:=fun n C T g a w hA hR=>by
 have h:=aG (x:=x) hA (fun k h=>by simp[h]) hR
 rw[hx]at h
 have hv':=(hA.2 id au).2
 exact⟨_,h.2 ab⟩
theorem Ru {x:Operand}{cs:List PV}(hx:S.opd x=.per (fM cs)):oi (az x) S x:=fun n C T g a w hA hR=>by
 have h:=aG (x:=x) hA (fun k h=>by simp[h]) hR
 rw[hx]at h
 obtain⟨b,q,hev,_⟩:=h
 exact⟨_,hev⟩
theorem F3 {x:Operand}{p:Option Addr}(hT:P.underlying ty=some (.pointer e))(w:World):(do eqGuard .eql ty x y (.pointer p) (.pointer none);binOp .eql ty (.pointer p) (.pointer none)).run P w=.ok (.bool p.isNone) w:=by
 have h:P.underlying ty=some (.pointer (P.pointee ty)):=by unfold Program.pointee;rw[hT]
 rw[show eqGuard .eql ty x y (.pointer p) (.pointer none)=pure ()from rfl]
 exact run_eql_pointer_nil w ty p h
theorem F4 {x:Operand}{p:Option Addr}(hT:P.underlying ty=some (.pointer e))(w:World):(do eqGuard .neq ty x y (.pointer p) (.pointer none);binOp .neq ty (.pointer p) (.pointer none)).run P w=.ok (.bool (!p.isNone)) w:=by
 have h:P.underlying ty=some (.pointer (P.pointee ty)):=by unfold Program.pointee;rw[hT]
 rw[show eqGuard .neq ty x y (.pointer p) (.pointer none)=pure ()from rfl]
 exact run_neq_pointer_nil w ty p h
theorem fy {op:BinOp}{x:Operand}{u v r:Value}(ho:o.op=.binOp op ty x y ty')(hx:a.eval x=u)(hy:a.eval y=v)(h:(do eqGuard op ty x y u v;binOp op ty u v).run P w=.ok r w):(execOp a.eval o).run P w=.ok (.value r) w:=by
 simp only[execOp,ho,hx,hy,Sem.run_bind]at h ⊢
 rw[h];rfl
theorem KV {x:Operand}(hp:Pl n o t)(ho:o.op=.binOp .eql ty x (.const (.pointer none)) ty')(hT:P.underlying ty=some (.pointer e))(hx:oi F S x):aw n P ops o F (bC false) [] S:=
 aV hp fun C T g a w hA hR=>by
  obtain⟨ad,hev⟩:=hx n C T g a w hA hR
  exact⟨.bool false,fy ho hev rfl (F3 hT w),rfl⟩
theorem KW {x:Operand}(hp:Pl n o t)(ho:o.op=.binOp .neq ty x (.const (.pointer none)) ty')(hT:P.underlying ty=some (.pointer e))(hx:oi F S x):aw n P ops o F (bC true) [] S:=
 aV hp fun C T g a w hA hR=>by
  obtain⟨ad,hev⟩:=hx n C T g a w hA hR
  exact⟨.bool true,fy ho hev rfl (F4 hT w),rfl⟩
theorem H9 {x:Operand}(hp:Pl n o t)(ho:o.op=.binOp .eql ty x (.const (.pointer none)) ty')(hT:P.underlying ty=some (.pointer e))(hx:S.opd x=.per (ak (.pointer none))):aw n P ops o (az x) (bC true) [] S:=
 aV hp fun C T g a w hA hR=>by
  have hev:=aP (x:=x) hA (fun k h=>by simp[h]) hR hx
  exact⟨.bool true,fy ho hev rfl (F3 hT w),rfl⟩
theorem Ia {x:Operand}(hp:Pl n o t)(ho:o.op=.binOp .neq ty x (.const (.pointer none)) ty')(hT:P.underlying ty=some (.pointer e))(hx:S.opd x=.per (ak (.pointer none))):aw n P ops o (az x) (bC false) [] S:=
 aV hp fun C T g a w hA hR=>by
  have hev:=aP (x:=x) hA (fun k h=>by simp[h]) hR hx
  exact⟨.bool false,fy ho hev rfl (F4 hT w),rfl⟩
theorem DX {x:Operand}{vr e m:Nat}{es':List (List PV)}{ps As:List PV}(hp:Dw o)(ho:o.op=.store ty x y)(hk:P.cellsOf ty=m)(h0:Nat.blt 0 m=true)
 (hx:S.opd x=.ept id vr k i j) (hv:S.ver id=vr) (hb:S.blk id=.row e k es) (hi:es[i]?=some ps) (hl:Nat.ble (j+m) k=true)
 (hy:(S.opd y=.per (cB As))∨∃A,S.opd y=.per A∧rt A∧As=[A]) (hn:As.length=m) (he:es.set i (cH ps j As)=es') :
 aw n P ops o ((2*id+1)::(az x++az y)) .any [(id,vr,.row e k es')] S:=by
 subst he
 refine⟨?_⟩
 intro C T hA a w ⟨g,hR⟩
 have hxe:=aG (x:=x) hA (fun k h=>by simp[h]) hR
 rw[hx]at hxe
 have hvt:=(hA.2 id au).2
 have hev:=hxe.2 (by rw[hvt,hv])
 have hB:=hR.blks id
 rw[(hA.2 id au).1,hb]at hB
 have hye:gW (g.N C) w (a.eval y).cells As:=by
  have hr:=aG (x:=y) hA (fun k h=>by simp[h]) hR
  rcases hy with h|⟨A,h,h1,rfl⟩
  ·rw[h]at hr
   obtain⟨vs,hv,hc⟩:=hr
   rw[hv];exact hc
  ·rw[h]at hr
   obtain⟨q1,q2⟩:=h1 _ _ _ hr
   rw[q2]
   refine⟨rfl,fun j A' hj=>?_⟩
   cases j with
   | zero=>simp at hj;subst hj;exact⟨_,rfl,q1,hr⟩
   | succ j=>simp at hj
 rcases hB with⟨_,rfl⟩|⟨cap,cs,q1,q2,q3,q4,q5,q6,q7⟩
 ·simp at hi
 have h0:=Wc h0
 have hl:=Wc hl
 have hil:i<es.length:=(Ws.1 hi).1
 have hpk:ps.length=k:=(q7 i ps hi).1
 have hbound:i*k+k≤cs.size:=by
  have:=WQ k (show i+1≤cap by omega)
  rw[WU]at this;omega
 have hys:=hye.1
 have hone:∀u∈(a.eval y).cells.toList,u.oneCell'=true:=by
  intro u hu
  obtain⟨q,hq,rfl⟩:=List.getElem_of_mem hu
  have hq':q<As.length:=by rw[←hys];simpa using hq
  obtain⟨u',g1,g2,_⟩:=hye.2 q As[q] (by simp[hq'])
  have:(a.eval y).cells.toList[q]=u':=by
   simp at hq;rw[WS hq]at g1;simpa using g1
  rw[this];exact g2
 unfold iM
 rw[V6 (by simp[Region.wanted,hp.1])]
 unfold Oper.wp
 have hrun:=k7 (P:=P) (ty:=ty) (off:=i*k+j) q2 (by rw[hk,hys,hn]) ab ab hone
 have hex:(execOp a.eval o).run P w=.ok .skip (w.setRow (g.ph id) (cs.toList.take (i*k+j)++(a.eval y).cells.toList++cs.toList.drop (i*k+j+(a.eval y).cells.size)).toArray):=by
  simp only[execOp,ho,hev,Sem.run_bind,hrun];rfl
 rw[hex,Oper.upon_skip]
 have hst:=n9 (cs':=(cs.toList.take (i*k+j)++(a.eval y).cells.toList++cs.toList.drop (i*k+j+(a.eval y).cells.size)).toArray) hR rfl q2 q3
 have hver:(T.app o.dst .any [(id,vr,.row e k (es.set i (cH ps j As)))]).ver=T.ver:=by
  funext i'
  rw[St.app_some_ver]
  split
  ·rename_i h;subst h;rw[hvt,hv]
  ·rfl
 refine⟨g,hR.app1 (c:=.any) (fun t h=>by rw[hp.2]at h;cases h) (by rw[hver];exact hst) trivial ?_⟩
 rw[hver]
 have hlen2:(es.set i (cH ps j As)).length=es.length:=au
 have hspl:(cH ps j As).length=k:=by simp[cH];omega
 refine .inr ⟨cap,_,by rw[hlen2];exact q1,setRow_heap _ _ _ _ _ _ q2,q3,by rw[hlen2];exact q4,q5,bn,fun i' ps' hi'=>?_⟩
 have hto:(cs.toList.take (i*k+j)).length=i*k+j:=bn
 -- a cell behind the store
 have hcell:∀q,((cs.toList.take (i*k+j)++(a.eval y).cells.toList++cs.toList.drop (i*k+j+(a.eval y).cells.size)).toArray)[q]?=if i*k+j≤q∧q<i*k+j+m then(a.eval y).cells[q-(i*k+j)]? else cs[q]?:=by
  intro q
  rw[W3]
  rcases Wm q (i*k+j)with hlt|hge
  ·rw[V3 ab,V9,Wl ab,WI,V6 hlt];simp
  ·rw[V9,List.getElem?_append_right ab,hto]
   rcases Wm q (i*k+j+m)with hlt|hge2
   ·rw[V6 ⟨hge,hlt⟩,Wl bn];simp
   ·rw[V3 ab,List.getElem?_append_right bn,WO]
    simp only[W9,hys,Array.getElem?_toList]
    congr 1;omega
 by_cases hii:i'=i
 ·subst hii
  rw[List.getElem?_set_self ab]at hi'
  cases hi'
  refine⟨hspl,fun q A hq=>?_⟩
  have hqk:q<k:=by
   have:=(Ws.1 hq).1;omega
  rw[hcell]
  unfold cH at hq
  have hta:(ps.take j).length=j:=bn
  rcases Wm q j with hlt|hge
  ·rw[Wl ab,WI,V6 hlt]at hq
   rw[V3 ab]
   obtain⟨u,s1,s2,s3⟩:=(q7 _ ps hi).2 q A hq
   exact⟨u,s1,s2,A.mono hst.sz hst.keepN hst.n s3⟩
  ·rw[List.getElem?_append_right ab,hta]at hq
   rcases Wm q (j+m)with hlt|hge2
   ·rw[Wl ab]at hq
    rw[V6 ab]
    obtain⟨u,s1,s2,s3⟩:=hye.2 _ A hq
    exact⟨u,by rw[←s1];congr 1;omega,s2,A.mono hst.sz hst.keepN hst.n s3⟩
   ·rw[List.getElem?_append_right ab,WO]at hq
    rw[V3 ab]
    obtain⟨u,s1,s2,s3⟩:=(q7 _ ps hi).2 _ A hq
    exact⟨u,by rw[←s1];congr 1;omega,s2,A.mono hst.sz hst.keepN hst.n s3⟩
 ·rw[List.getElem?_set_ne (XJ hii)]at hi'
  obtain⟨r1,r2⟩:=q7 i' ps' hi'
  refine⟨r1,fun q A hq=>?_⟩
  obtain⟨u,s1,s2,s3⟩:=r2 q A hq
  have hqk:q<k:=by
   have:=(Ws.1 hq).1;omega
  rw[hcell,V3 ?_]
  ·exact⟨u,s1,s2,A.mono hst.sz hst.keepN hst.n s3⟩
  ·rintro⟨h1,h2⟩
   rcases Nat.lt_or_gt_of_ne hii with hlt|hgt
   ·have:=WQ k (show i'+1≤i by omega)
    rw[WU]at this;omega
   ·have:=WQ k (show i+1≤i' by omega)
    rw[WU]at this;omega
theorem qo {t:Nat}{c c':Cnt}(h0:S.get t=c)(h:c=c'):S.put (some t) c'=S:=by
 subst h0;subst h
 refine St.ext' (fun u=>?_) (fun _=>⟨rfl,rfl⟩)
 rw[St.put_get]
 split
 ·rename_i e;rw[e]
 ·rfl
theorem oj {l:List Oper}{Q:St→Prop}{tg:Nat}{want b:Bool}(_:o.guard=some (j,want))(_:(ops[j]?).bind (·.dst)=some tg)(hb:S.get tg=bC b)
 (h1:b=true→AL P n ops Q (o::l) (S.put (some tg) (bC true))) (h2:b=false→AL P n ops Q (o::l) (S.put (some tg) (bC false))):AL P n ops Q (o::l) S:=by
 cases b with
 | true=>have:=h1 rfl;rwa [qo hb rfl]at this
 | false=>have:=h2 rfl;rwa [qo hb rfl]at this
theorem oo {l:List Oper}{Q:St→Prop}{done:List (List Nat×List Nat)}{tg:Nat}{want b:Bool}(_:o.guard=some (j,want))(_:(ops[j]?).bind (·.dst)=some tg)(hb:S.get tg=bC b)
 (h1:b=true→AD P n ops Q done (o::l) (S.put (some tg) (bC true))) (h2:b=false→AD P n ops Q done (o::l) (S.put (some tg) (bC false))):AD P n ops Q done (o::l) S:=by
 cases b with
 | true=>have:=h1 rfl;rwa [qo hb rfl]at this
 | false=>have:=h2 rfl;rwa [qo hb rfl]at this
end
theorem Pm {p q:Int}(h:0≤p):p.tmod q=p % q:=Int.tmod_eq_emod_of_nonneg h
theorem Pn {p q:Int}(h:0≤p)(h1:-9223372036854775808≤p / q)(h2:p / q≤9223372036854775807):IntKind.i64.wrap (p.tdiv q)=p / q:=by
 rw[Xy h];exact cU h1 h2
theorem Po {n:Nat}(h:n≤9223372036854775806):IntKind.i64.wrap (((n+1:Nat):Int)-1)=(n:Int):=by
 rw[cU ab ab];omega
theorem Ib (c:UInt8):IntKind.i64.wrap (c.toNat:Int)=(c.toNat:Int):=cU ab (by have:=c.toNat_lt;omega)
def DY:Cnt→List Nat
 | .row id _=>[2*id+1]
 | .ptr id _ _=>[2*id+1]
 | .ept id _ _ _ _=>[2*id+1]
 | .vw id _ _ _ _=>[2*id+1]
 | _=>[]
section
variable {P:Program} {n:Nat} {ops:Array Oper} {o:Oper} {F F':List Nat} {S:St} {t:Nat} {c:Cnt}
theorem pc.mono (h:pc F S c)(hF:∀k∈F,k∈F'):pc F' S c:=fun n C T g a w v hA hR hc=>h n C T g a w v ⟨fun t ht=>hA.1 t (hF _ ht),fun i hi=>hA.2 i (hF _ hi)⟩ hR hc
def un (S:St)(c:Cnt):Prop:=pc (DY c) S c
theorem fA (h:rt A):un S (.per A):=KO h
theorem fB {vr:Nat}(hv:S.ver id=vr):un S (.ptr id vr off):=KP hv (by simp[DY])
theorem fa {vr e:Nat}(hv:S.ver id=vr)(hb:S.blk id=.row e k es):un S (.row id vr):=KQ hv hb (by simp[DY])
theorem fC {vr:Nat}{A:OV}(hv:S.ver id=vr)(hb:S.blk id=.obj A):un S (.row id vr):=KR hv hb (by simp[DY])
theorem ez {c:Cnt}:un S (.clo1 f c):=H4
theorem eA {c:Cnt}:un S (.clo2 f c d):=H5
theorem eB {c e:Cnt}:un S (.clo3 f c d e):=H6
theorem oq {x:Operand}{vr:Nat}(hp:Dw o)(ho:o.op=.store ty x y)(hk:gN P ty 1)
 (hx:S.opd x=.ptr id vr off) (hv:S.ver id=vr) (hb:S.blk id=.box e cells) (hl:Nat.ble (off+1) cells.length=true) (hy:S.opd y=c) (h1:un S c) :
 aw n P ops o ((2*id+1)::(az x++az y++DY c)) .any [(id,vr,.box e (kU cells off [c]))] S:=
 DU hp ho hk.h hx hv hb hl hy au (fun k h=>by simp[h]) (fun k h=>by simp[h]) (pc.mono h1 fun k h=>by simp[h])
theorem yW {x:Operand}{vr:Nat}(hp:Dw o)(ho:o.op=.store ty x y)(hk:gN P ty k)(h0:Nat.blt 0 k=true)
 (hx:S.opd x=.ptr id vr off) (hv:S.ver id=vr) (hb:S.blk id=.box e cells) (hl:Nat.ble (off+k) cells.length=true) (hy:lu (S.opd y)=some cs) (hn:Nat.beq cs.length k=true) :
 aw n P ops o ((2*id+1)::(az x++az y)) .any [(id,vr,.box e (kU cells off cs))] S:=wz hp ho hk.h h0 hx hv hb hl hy hn
theorem Pq {x:Operand}{vr:Nat}(hp:Pl n o t)(ho:o.op=.load ty x)(hT:dZ P ty true)(hk:gN P ty k)(h0:Nat.blt 0 k=true)
 (hx:S.opd x=.ptr id vr off) (hv:S.ver id=vr) (hb:S.blk id=.box e cells) (hl:Nat.ble (off+k) cells.length=true) (hc:qn ((cells.drop off).take k)=c):aw n P ops o ((2*id+1)::az x) c [] S:=by
 obtain⟨d,h1,h2⟩:=hT.h;subst hc;exact KS hp ho h1 h2 hk.h h0 hx hv hb hl
def KX (S:St)(x:Operand)(ps:List Cnt):Prop:=(∃As,S.opd x=.per (cB As)∧ps=As.map .per)∨(∃c,S.opd x=c∧un S c∧ps=[c])∨lu (S.opd x)=some ps
theorem kv {x:Operand}{c:Cnt}(h:S.opd x=c)(h1:un S c):KX S x [c]:=.inr (.inl ⟨c,h,h1,rfl⟩)
theorem Pr {x:Operand}{ps:List Cnt}(h:lu (S.opd x)=some ps):KX S x ps:=.inr (.inr h)
inductive nv (S:St):List (Nat×Operand)→List (Nat×List Cnt)→Prop
 | nil:nv S [] []
 | cons {i:Nat} {x:Operand} {ps:List Cnt} {l:List (Nat×Operand)} {l':List (Nat×List Cnt)} (h:KX S x ps) (k:nv S l l'):nv S ((i,x)::l) ((i,ps)::l')
def uo (S:St)(l:List (Nat×Operand)):List Nat:=l.flatMap fun x=>az x.2++DY (S.opd x.2)
theorem nv.toC {l:List (Nat×Operand)}{l':List (Nat×List Cnt)}(h:nv S l l'){F:List Nat}(hF:∀k∈uo S l,k∈F):rC F S l l':=by
 induction h with
 | nil=>exact .nil
 | @cons i x ps l l' h k ih=>
  refine .cons ?_ (ih fun k hk=>hF k (by simp only[uo,List.flatMap_cons,Wz];exact .inr hk))
  rcases h with h|⟨c,h,h1,rfl⟩|h
  ·exact .inl h
  ·exact .inr (.inl ⟨c,h,pc.mono h1 (fun k hk=>hF k (by simp only[uo,List.flatMap_cons,Wz];exact .inl (.inr (by rw[h];exact hk)))),rfl⟩)
  ·exact .inr (.inr h)
theorem KY {z:Value}{ls:List (Nat×Nat)}{parts:List (Nat×Operand)}{pps:List (Nat×List Cnt)}(hp:Pl n o t)(ho:o.op=.build ty parts.toArray)(hl:jt P ty ls)(hz:k8 P ty z)
 (h1:z.cells.toList.all (·.oneCell')=true) (hpt:nv S parts pps) (hf:Bv (fun i=>ls[i]?) (z.cells.toList.map Ko) pps=some cs) (hc:qn cs=c):aw n P ops o (uo S parts) c [] S:=by
 subst hc
 exact H8 hp ho hl.h hz.h h1 (fun k hk=>by
  simp only[iq,List.mem_flatMap]at hk
  obtain⟨x,q1,q2⟩:=hk
  simp only[uo,List.mem_flatMap,Wz]
  exact⟨x,q1,.inl q2⟩) (hpt.toC fun _ h=>h) hf
theorem aM {x:Operand}{vr e m:Nat}{es':List (List PV)}{ps As:List PV}(hp:Dw o)(ho:o.op=.store ty x y)(hk:gN P ty m)(h0:Nat.blt 0 m=true)
 (hx:S.opd x=.ept id vr k i j) (hv:S.ver id=vr) (hb:S.blk id=.row e k es) (hi:es[i]?=some ps) (hl:Nat.ble (j+m) k=true)
 (hy:np S y As) (hn:As.length=m) (he:es.set i (cH ps j As)=es'):aw n P ops o ((2*id+1)::(az x++az y)) .any [(id,vr,.row e k es')] S:=
 DX hp ho hk.h h0 hx hv hb hi hl hy hn he
theorem KZ {α:Type}{x ix:Operand}{kk:IntKind}{l:List α}{f:α→List PV}(hp:Pl n o t)(ho:o.op=.indexAddr ty x ix)(hT:gx P ty (.slice e))(hk:gN P e k)(h0:Nat.blt 0 k=true)(hx:S.opd x=.per (cA k (l.map f)))(hi:S.opd ix=iC kk z)(hz:0≤z)(hlt:z.toNat<l.length) :
 aw n P ops o (az x++az ix) (.per (fM (f (l[z.toNat]'hlt)))) [] S:=iO hp ho hT hk h0 hx hi (i:=z.toNat) ab (kn hlt)
theorem DZ {e':TypeId}{x ix:Operand}{vr e:Nat}{kk:IntKind}(hp:Pl n o t)(ho:o.op=.indexAddr ty x ix)(hT:gx P ty (.slice e'))(hk:gN P e' k)(h0:Nat.blt 0 k=true)(hx:S.opd x=.row id vr)(hv:S.ver id=vr)(hb:S.blk id=.row e k es)(hi:S.opd ix=iC kk z)(hz:0≤z)(hlt:z.toNat<es.length) :
 aw n P ops o ((2*id+1)::(az x++az ix)) (.ept id vr k z.toNat 0) [] S:=rx hp ho hT hk h0 hx hv hb hi ab hlt
theorem lJ {x ix:Operand}{kk:IntKind}{s:ByteArray}(hp:Pl n o t)(ho:o.op=.index ty x ix)(hT:gx P ty .string)(hx:S.opd x=sC s)(hi:S.opd ix=iC kk z)(hz:0≤z)(hlt:z.toNat<s.data.toList.length) :
 aw n P ops o (az x++az ix) (iC .u8 ((s.data.toList[z.toNat]'hlt).toNat:Int)) [] S:=gZ hp ho hT hx hi (i:=z.toNat) ab (V4 hlt)
theorem Ps {x:Operand}{s u:ByteArray}(hp:Pl n o t)(ho:o.op=.binOp .add ty x y ty')(hx:S.opd x=sC s)(hy:S.opd y=sC u)(hb:s.size+u.size≤9223372036854775807):aw n P ops o (az x++az y) (sC (s++u)) [] S:=
 aV hp fun C T g a w hA hR=>by
  have h1:=aP (x:=x) hA (fun k h=>by simp[h]) hR hx
  have h2:=aP (x:=y) hA (fun k h=>by simp[h]) hR hy
  refine⟨.string (s++u),fy ho h1 h2 ?_,rfl⟩
  rw[show eqGuard .add ty x y (.string s) (.string u)=pure ()from rfl]
  simp[binOp,Op.stringOp]
  omega
theorem Pt {x:Operand}(hp:Pl n o t)(ho:o.op=.binOp .eql ty x (.const (.pointer none)) ty')(hT:gx P ty (.pointer e))(hx:oi F S x):aw n P ops o F (bC false) [] S:=KV hp ho hT.h hx
theorem Pu {x:Operand}(hp:Pl n o t)(ho:o.op=.binOp .neq ty x (.const (.pointer none)) ty')(hT:gx P ty (.pointer e))(hx:oi F S x):aw n P ops o F (bC true) [] S:=KW hp ho hT.h hx
theorem K0 {x:Operand}(hp:Pl n o t)(ho:o.op=.binOp .eql ty x (.const (.pointer none)) ty')(hT:gx P ty (.pointer e))(hx:S.opd x=.per (ak (.pointer none))):aw n P ops o (az x) (bC true) [] S:=H9 hp ho hT.h hx
theorem K1 {x:Operand}(hp:Pl n o t)(ho:o.op=.binOp .neq ty x (.const (.pointer none)) ty')(hT:gx P ty (.pointer e))(hx:S.opd x=.per (ak (.pointer none))):aw n P ops o (az x) (bC false) [] S:=Ia hp ho hT.h hx
theorem kF.mono {sg:List (Nat×Nat)}{x:Operand}(h:kF F S sg x c)(hF:∀k∈F,k∈F'):kF F' S sg x c:=fun n C T g a w hA hR=>h n C T g a w ⟨fun t ht=>hA.1 t (hF _ ht),fun i hi=>hA.2 i (hF _ hi)⟩ hR
def Dy (sg:List (Nat×Nat)):List Nat:=sg.map fun p=>2*p.2+1
inductive sy (S:St)(sg:List (Nat×Nat)):List Operand→List Cnt→Prop
 | nil:sy S sg [] []
 | cons {x:Operand} {c:Cnt} {xs:List Operand} {cs:List Cnt} (h:kF (eN S x++Dy sg) S sg x c) (t:sy S sg xs cs):sy S sg (x::xs) (c::cs)
theorem sy.gives {sg:List (Nat×Nat)}(h:sy S sg xs cs){F:List Nat}(hF:∀k∈fN S xs,k∈F)(hS:∀k∈Dy sg,k∈F):mG F S sg xs cs:=by
 induction h with
 | nil=>exact .nil
 | cons h t ih=>exact .cons (h.mono (fun k hk=>by
  rcases Wz.1 hk with q|q
  ·exact hF k (by simp[fN,q])
  ·exact hS k q)) (ih (fun k hk=>hF k (by simp only[fN,List.flatMap_cons,Wz];exact .inr hk)))
section
variable {sg:List (Nat×Nat)} {x:Operand}
theorem pD (hx:S.opd x=.per A):kF (eN S x++Dy sg) S sg x (.per A):=fun n C T g a w hA hR=>by
 have h:=aG (x:=x) hA (fun k h=>by simp[eN,h]) hR
 rw[hx]at h
 exact A.mono (V8 _) (fun _ _ _=>rfl) (fun b _ h=>xf b h) h
theorem pE (hx:S.opd x=.per (cA k es)):kF (eN S x++Dy sg) S sg x (.bor k es):=Sj hx (fun k h=>by simp[eN,h])
theorem pF (hx:S.opd x=.bor k es):kF (eN S x++Dy sg) S sg x (.bor k es):=fun n C T g a w hA hR=>by
 have h:=aG (x:=x) hA (fun k h=>by simp[eN,h]) hR
 rw[hx]at h
 exact eH.mono (V8 _) (fun _ _ _=>rfl) (fun _ _ _=>rfl) (fun b _ h=>Bq b h) (fun b _ h=>xf b h) h
theorem nw (hok:J9 sg=true)(h:(S.opd x).mp true (ku sg) S.ver z0=c):kF (eN S x++Dy sg) S sg x c:=Si hok (fun k h=>by simp[eN,h]) (fun p hp=>by simp only[Dy,Wz,List.mem_map];exact .inr ⟨p,hp,rfl⟩) h
end
theorem uq {sg:List (Nat×Nat)}:∀p∈sg,2*p.2+1∈Dy sg:=fun p hp=>List.mem_map.2 ⟨p,hp,rfl⟩
theorem VK {pre:List (Nat×Blk)}(sg:List (Nat×Nat))(hf:dh P f As pre r post)(hp:H3 n o:=by exact⟨rfl,rfl⟩)(ho:kp o (.func f) xs:=by exact⟨_,rfl⟩)(hok:KN sg=true:=by rfl)
 (hg:sy S sg xs As:=by first|((repeat (first|exact sy.nil|(refine sy.cons ?_ ?_;focus (first|exact pD rfl|exact pE rfl|exact gq_row rfl rfl rfl rfl|exact pF rfl|exact gq_nil rfl|exact gq_nil' rfl|exact nw rfl rfl))));done)|fail) (hpre:m8 S sg pre:=by first|((repeat (first|exact m8.nil|(refine m8.cons rfl rfl ?_)));done)|fail):aw n P ops o (fN S xs++Dy sg) (r.mp false (kV sg) z0 (wn S.ver sg)) (nr S post sg sg) S:=
 lH (cs:=[]) sg hp ho DS (by simpa using hf) hok (fun p h=>by simp[uq p h]) (hg.gives (fun _ h=>by simp[h]) (fun _ h=>by simp[h])) hpre
theorem Vx {x:Operand}{B:Blk}{vr:Nat}(hf:dh P f (.ptr 1000 0 0::As) [(1000,B)] r post)(hp:H3 n o:=by exact⟨rfl,rfl⟩)(ho:kp o (.func f) (x::xs):=by exact⟨_,rfl⟩)
 (hx:S.opd x=.ptr id vr 0:=by rfl) (hv:S.ver id=vr:=by rfl) (hb:(S.blk id).mp true (ku [(1000,id)]) S.ver z0=B:=by rfl) (hg:sy S [(1000,id)] xs As:=by first|((repeat (first|exact sy.nil|(refine sy.cons ?_ ?_;focus (first|exact pD rfl|exact pE rfl|exact gq_row rfl rfl rfl rfl|exact pF rfl|exact gq_nil rfl|exact gq_nil' rfl|exact nw rfl rfl))));done)|fail) :
 aw n P ops o (fN S (x::xs)++Dy [(1000,id)]) (r.mp false (kV [(1000,id)]) z0 (fun _=>vr)) [(id,vr,(eO 1000 post).mp false (kV [(1000,id)]) z0 (fun _=>vr))] S:=by
 have hok:KN [(1000,id)]=true:=by
  simp[KN,J9,kV,ku,KK,fq]
 have h:=lH (n:=n) (P:=P) (ops:=ops) (o:=o) (F:=fN S (x::xs)++Dy [(1000,id)]) (S:=S) (cs:=[]) (xs:=x::xs) (As:=.ptr 1000 0 0::As) (pre:=[(1000,B)]) (post:=post) (r:=r) [(1000,id)] hp ho DS (by simpa using hf) hok (fun p h=>by simp[uq p h]) (.cons ?_ (hg.gives (fun _ h=>?_) (fun _ h=>by simp[h]))) (.cons (j:=id) (by simp[kV]) hb .nil)
 ·have hnv:∀i j,kV [(1000,id)] i=some j→wn S.ver [(1000,id)] j=(fun _=>vr) j:=fun i j e=>by
   have e':=tv e
   simp at e'
   obtain⟨rfl,rfl⟩:=e'
   simp[wn,ku,hv,show fq 1000=true from rfl]
  rw[lG (old':=z0) (fun _ _ _=>rfl) hnv]at h
  have hu:nr S post [(1000,id)] [(1000,id)]=[(id,vr,(eO 1000 post).mp false (kV [(1000,id)]) z0 (fun _=>vr))]:=by
   show [(id,wn S.ver [(1000,id)] id,(eO 1000 post).mp false (kV [(1000,id)]) z0 (wn S.ver [(1000,id)]))]=_
   rw[rB (old':=z0) (fun _ _ _=>rfl) hnv,hnv 1000 id (by simp[kV])]
  rw[hu]at h
  exact h
 ·refine(nw (x:=x) (S:=S) (sg:=[(1000,id)]) (c:=.ptr 1000 0 0) (by have:=hok;unfold KN at this;rw[Wi]at this;exact this.1) ?_).mono (fun k hk=>?_)
  ·rw[hx]
   simp[Cnt.mp,wy,ku,hv]
  ·rcases Wz.1 hk with q|q
   ·simp[fN,q]
   ·simp[q]
 ·simp only[fN,List.flatMap_cons,Wz]at h ⊢;exact .inl (.inr h)
theorem Vy (hf:dh P f As [] r post)(_:o.dst=some t:=by rfl)(hp:H3 n o:=by exact⟨rfl,rfl⟩)(ho:kp o (.func f) xs:=by exact⟨_,rfl⟩)(hfx:fq t=false:=by rfl)
 (hg:sy S [(3000,t)] xs As:=by first|((repeat (first|exact sy.nil|(refine sy.cons ?_ ?_;focus (first|exact pD rfl|exact pE rfl|exact gq_row rfl rfl rfl rfl|exact pF rfl|exact gq_nil rfl|exact gq_nil' rfl|exact nw rfl rfl))));done)|fail):aw n P ops o (fN S xs++Dy [(3000,t)]) (r.mp false (kV [(3000,t)]) z0 (wn S.ver [(3000,t)])) (nr S post [(3000,t)] [(3000,t)]) S:=by
 have hok:KN [(3000,t)]=true:=by simp[KN,J9,kV,ku,KK,hfx]
 exact lH (cs:=[]) [(3000,t)] hp ho DS (by simpa using hf) hok (fun p h=>by simp[uq p h]) (hg.gives (fun _ h=>by simp[h]) (fun _ h=>by simp[h])) .nil
theorem UZ {r:Ret}(hf:Fn P f As r)(hp:Pl n o t:=by exact⟨rfl,rfl,rfl⟩)(ho:j4 o f xs:=by exact⟨_,rfl⟩)(hpl:r.plain=true:=by rfl)(hg:GL S xs As:=by first|((repeat (first|exact GL.nil|(refine GL.cons ?_ ?_;focus (first|exact ep rfl|exact eR rfl|exact gk rfl rfl rfl|exact eS rfl|exact gl rfl|exact eM rfl))));done)|fail):aw n P ops o (fN S xs) (ud t 0 r) [] S:=yU hp ho hf hpl hg
theorem Ka {e:Nat}(hf:Fn P f As (.own e k es))(hp:Pl n o t:=by exact⟨rfl,rfl,rfl⟩)(ho:j4 o f xs:=by exact⟨_,rfl⟩)(hg:GL S xs As:=by first|((repeat (first|exact GL.nil|(refine GL.cons ?_ ?_;focus (first|exact ep rfl|exact eR rfl|exact gk rfl rfl rfl|exact eS rfl|exact gl rfl|exact eM rfl))));done)|fail) :
 aw n P ops o ((2*t+1)::fN S xs) (.row t (S.ver t+1)) [(t,S.ver t+1,.row e k es)] S:=uh hp ho hf hg
theorem TS {e:Nat}{u:Value}(hf:Fn P f As (.tup2 (.own e k es) (.per (ak u))))(hp:Pl n o t:=by exact⟨rfl,rfl,rfl⟩)(ho:j4 o f xs:=by exact⟨_,rfl⟩)(hg:GL S xs As:=by first|((repeat (first|exact GL.nil|(refine GL.cons ?_ ?_;focus (first|exact ep rfl|exact eR rfl|exact gk rfl rfl rfl|exact eS rfl|exact gl rfl|exact eM rfl))));done)|fail) :
 aw n P ops o ((2*t+1)::fN S xs) (.tup2 (.row t (S.ver t+1)) (.per (ak u))) [(t,S.ver t+1,.row e k es)] S:=sx hp ho hf hg
end
def Cnt.fz (id vr:Nat)(A:Cnt)(B:Nat→Cnt):Cnt→Cnt
 | .row i r=>bif Nat.beq i id&&Nat.beq r vr then A else .row i r
 | .ptr i r off=>bif Nat.beq i id&&Nat.beq r vr then B off else .ptr i r off
 | .ept i r k q j=>bif Nat.beq i id&&Nat.beq r vr then .any else .ept i r k q j
 | .vw i r k q j=>bif Nat.beq i id&&Nat.beq r vr then .any else .vw i r k q j
 | .tup2 c d=>.tup2 (Cnt.fz id vr A B c) (Cnt.fz id vr A B d)
 | .tup3 c d e=>.tup3 (Cnt.fz id vr A B c) (Cnt.fz id vr A B d) (Cnt.fz id vr A B e)
 | .clo1 f c=>.clo1 f (Cnt.fz id vr A B c)
 | .clo2 f c d=>.clo2 f (Cnt.fz id vr A B c) (Cnt.fz id vr A B d)
 | .clo3 f c d e=>.clo3 f (Cnt.fz id vr A B c) (Cnt.fz id vr A B d) (Cnt.fz id vr A B e)
 | .aggN=>.aggN
 | .aggK c r=>.aggK (Cnt.fz id vr A B c) (Cnt.fz id vr A B r)
 | .grd _ _=>.any
 | .any=>.any
 | .per A=>.per A
 | .bor k es=>.bor k es
 | .bpt cs=>.bpt cs
def Blk.fz (id vr:Nat)(A:Cnt)(B:Nat→Cnt):Blk→Blk
 | .none=>.none
 | .box e cells=>.box e (cells.map (Cnt.fz id vr A B))
 | .row e k es=>.row e k es
 | .mix e es c=>.mix e es (Cnt.fz id vr A B c)
 | .obj A=>.obj A
def St.fz (S:St)(id vr:Nat)(A:Cnt)(B:Nat→Cnt):St:=
 ⟨fun t=>Cnt.fz id vr A B (S.get t),fun i=>bif Nat.beq i id then .none else(S.blk i).fz id vr A B,fun i=>bif Nat.beq i id then vr+1 else S.ver i⟩
section
variable {P:Program} {n:Nat} {S:St} {C:Ctx} {g g':Gh} {w:World}
theorem yX {vr vr':Nat→Nat}{A:Cnt}{B:Nat→Cnt}(hst:pa C (fun i=>i=id) vr vr' g g' w w)(hA:∀v,v=g.rh id→crep C vr' g' w v A)(hB:∀off v,v=.pointer (some ⟨g.ph id,off,none⟩)→crep C vr' g' w v (B off)) :
 ∀{c:Cnt} {v:Value},crep C vr g w v c→crep C vr' g' w v (Cnt.fz id (vr id) A B c):=by
 have key:∀{i r:Nat} {c c':Cnt} {v:Value},(i=id→r=vr id→crep C vr' g' w v c)→crep C vr' g' w v c'→crep C vr' g' w v (bif Nat.beq i id&&Nat.beq r (vr id)then c else c'):=by
  intro i r c c' v h1 h2
  cases hb:Nat.beq i id with
  | false=>exact h2
  | true=>
   cases hr:Nat.beq r (vr id)with
   | false=>exact h2
   | true=>exact h1 (bq.1 hb) (bq.1 hr)
 intro c
 induction c with
 | row i r=>intro v h;exact key (fun e1 e2=>hA v (by rw[←e1];exact h.2 (by rw[e1];exact e2))) (hst.crep h)
 | ptr i r off=>intro v h;exact key (fun e1 e2=>hB off v (by rw[←e1];exact h.2 (by rw[e1];exact e2))) (hst.crep h)
 | ept i r k q j=>intro v h;exact key (fun _ _=>trivial) (hst.crep h)
 | vw i r k q j=>intro v h;exact key (fun _ _=>trivial) (hst.crep h)
 | per A'=>intro v h;exact hst.crep (c:=.per A') h
 | bor k es=>intro v h;exact hst.crep (c:=.bor k es) h
 | bpt cs=>intro v h;exact hst.crep (c:=.bpt cs) h
 | any=>intro v _;trivial
 | grd b c ih=>intro v _;trivial
 | tup2 c d ih1 ih2=>rintro v ⟨x,y,e,h1,h2⟩;exact⟨x,y,e,ih1 h1,ih2 h2⟩
 | tup3 c d e ih1 ih2 ih3=>rintro v ⟨x,y,z,e,h1,h2,h3⟩;exact⟨x,y,z,e,ih1 h1,ih2 h2,ih3 h3⟩
 | clo1 f c ih=>rintro v ⟨x,e,h1⟩;exact⟨x,e,ih h1⟩
 | clo2 f c d ih1 ih2=>rintro v ⟨x,y,e,h1,h2⟩;exact⟨x,y,e,ih1 h1,ih2 h2⟩
 | clo3 f c d e ih1 ih2 ih3=>rintro v ⟨x,y,z,e,h1,h2,h3⟩;exact⟨x,y,z,e,ih1 h1,ih2 h2,ih3 h3⟩
 | aggN=>exact fun h=>h
 | aggK c r ih1 ih2=>rintro v ⟨x,vs,e,o,h1,h2⟩;exact⟨x,vs,e,o,ih1 h1,ih2 h2⟩
theorem Pv (hi:i≠id){vr vr':Nat→Nat}{A:Cnt}{B:Nat→Cnt}(hst:pa C (fun i=>i=id) vr vr' g g' w w)(hdom:∀b id,g.ow b=some id→b<w.heap.size)
 (hA:∀v,v=g.rh id→crep C vr' g' w v A) (hB:∀off v,v=.pointer (some ⟨g.ph id,off,none⟩)→crep C vr' g' w v (B off)) {Bk:Blk} (h:brep C vr g w i Bk):brep C vr' g' w i (Bk.fz id (vr id) A B):=by
 have hv:vr' i=vr i:=by
  rcases hst.ver i with e|⟨e,_⟩
  ·exact e
  ·exact absurd e hi
 obtain⟨hph,hrh⟩:=hst.gh i hv
 have hne:∀{b:Nat},g.ow b=some i→∀j,j=id→g.ow b≠some j:=fun e j hj e'=>by
  rw[e]at e';cases e';exact hi hj
 cases Bk with
 | none=>trivial
 | row e k es=>exact hst.brep (B:=.row e k es) hdom hi h
 | obj A'=>exact hst.brep (B:=.obj A') hdom hi h
 | box e cells=>
  obtain⟨cs,h1,h2,h3,h4⟩:=h
  have hb:=hdom _ _ h2
  refine⟨cs,by rw[hph];exact h1,by rw[hph,hst.ow _ hb (hne h2)];exact h2,by simp[h3],fun j c hj=>?_⟩
  rw[List.getElem?_map]at hj
  cases hc:cells[j]? with
  | none=>rw[hc]at hj;cases hj
  | some c'=>
   rw[hc]at hj;cases hj
   obtain⟨y,q1,q2,q3⟩:=h4 j c' hc
   exact⟨y,q1,q2,yX hst hA hB q3⟩
 | mix e es c=>
  obtain⟨cap,cs,h1,h2,h3,h4,h5,h6,h7,y,q1,q2,q3⟩:=h
  have hb:=hdom _ _ h3
  refine⟨cap,cs,by rw[hrh,hph];exact h1,by rw[hph];exact h2,by rw[hph,hst.ow _ hb (hne h3)];exact h3,h4,h5,h6,fun j A' hj=>?_,y,q1,q2,yX hst hA hB q3⟩
  obtain⟨y',r1,r2,r3⟩:=h7 j A' hj
  exact⟨y',r1,r2,A'.mono (V8 _) (fun _ _ _=>rfl) hst.n r3⟩
theorem xg (id vr:Nat){A:Cnt}{B:Nat→Cnt}(hv:S.ver id=vr)
 (hX:∀(C:Ctx)(g:Gh)(w:World)(n:Nat)(a:Act),RG C n S g a w→∀g':Gh,(∀b,g'.ow b=if g.ow b=some id then none else g.ow b)→g'.ph=g.ph→g'.rh=g.rh→∀vr',(∀b,b<w.heap.size→g'.N C b→g.N C b) →
   (∀v,v=g.rh id→crep C vr' g' w v A)∧(∀off v,v=.pointer (some ⟨g.ph id,off,none⟩)→crep C vr' g' w v (B off))):Le n S (S.fz id vr A B):=by
 rintro C a w ⟨g,hR⟩
 subst hv
 let g':Gh:=⟨fun b=>if g.ow b=some id then none else g.ow b,g.ph,g.rh⟩
 have hg':∀b,g'.ow b=if g.ow b=some id then none else g.ow b:=fun _=>rfl
 have hvr:∀i,(S.fz id (S.ver id) A B).ver i=if i=id then S.ver id+1 else S.ver i:=fun i=>by
  show(bif Nat.beq i id then S.ver id+1 else S.ver i)=_
  by_cases h:i=id
  ·simp[h]
  ·simp[h,gB h]
 have hst:pa C (fun i=>i=id) S.ver (S.fz id (S.ver id) A B).ver g g' w w:=by
  refine⟨V8 _,fun _ _ _=>rfl,fun b _ hn=>?_,fun b _ hn=>?_,fun b i e=>?_,fun i=>?_,fun _ _=>⟨rfl,rfl⟩,fun _ _=>⟨rfl,rfl⟩,rfl,rfl,rfl⟩
  ·rw[hg',V3 (hn id rfl)]
  ·rw[hg']at hn
   by_cases h:g.ow b=some id
   ·rw[h];simp
   ·rwa [V3 h]at hn
  ·rw[hg']at e
   by_cases h:g.ow b=some id
   ·rw[V6 h]at e;cases e
   ·rw[V3 h]at e;exact hR.dom b i e
  ·rw[hvr]
   by_cases h:i=id
   ·subst h;exact .inr ⟨rfl,by rw[V6 rfl];omega⟩
   ·rw[V3 h];exact .inl rfl
 obtain⟨hA,hB⟩:=hX C g w n a hR g' hg' rfl rfl (S.fz id (S.ver id) A B).ver hst.n
 refine⟨g',hR.defers,hR.tsz,hR.nle,hR.keep,hR.os,hR.tape,hR.output,hR.size,hR.old,hR.n0,hR.n0l,hst.dom,fun t=>yX hst hA hB (hR.slots t),fun i=>?_⟩
 show brep C _ g' w i (bif Nat.beq i id then .none else(S.blk i).fz id (S.ver id) A B)
 cases hb:Nat.beq i id with
 | true=>trivial
 | false=>exact Pv (fun e=>by rw[bq.2 e]at hb;cases hb) hst (fun b id e=>(hR.dom b id e).1) hA hB (hR.blks i)
theorem jj (id vr e k:Nat)(hv:S.ver id=vr)(hb:S.blk id=.row e k es):Le n S (S.fz id vr (.per (cA k es)) (fun _=>.any)):=
 xg id vr hv fun C g w n a hR g' hg' _ _ vr' hn=>⟨fun v hval=>by
  have hbb:=hR.blks id
  rw[hb]at hbb
  rw[hval]
  show eH (g'.N C) (g'.N C) k es w (g.rh id)
  rcases hbb with⟨q1,rfl⟩|⟨cap,cs,q1,q2,q3,q4,q5,q6,q7⟩
  ·exact⟨none,0,0,0,by rw[q1];rfl,au,bz,fun _=>rfl,au,fun i cs hi=>by simp at hi⟩
  ·have hd:=hR.dom _ _ q3
   refine⟨_,cap,g.ph id,0,q1,q4,q5,au,fun _=>⟨rfl,hd.1,fun hn=>?_⟩,fun i ps hi=>?_⟩
   ·rcases hn with hn|hn
    ·have:=hR.n0 _ hn
     rcases hd.2 with q|q
     ·omega
     ·exact hR.n0l _ hn q
    ·rw[hg',V6 q3]at hn;exact hn rfl
   ·obtain⟨r1,r2⟩:=q7 i ps hi
    refine⟨r1,fun j A hj=>?_⟩
    obtain⟨y,s1,s2,s3⟩:=r2 j A hj
    exact⟨y,by rw[WF,eo q2];exact s1,s2,A.mono (V8 _) (fun _ _ _=>rfl) hn s3⟩,fun _ _ _=>trivial⟩
theorem rD (id vr e:Nat){As:List PV}(hv:S.ver id=vr)(hb:S.blk id=.box e cells)(hp:ru cells=some As):Le n S (S.fz id vr .any (fun off=>.per (fM (As.drop off)))):=
 xg id vr hv fun C g w n a hR g' hg' _ _ vr' hn=>⟨fun _ _=>trivial,fun off v hval=>by
  have hbb:=hR.blks id
  rw[hb,n8 hp]at hbb
  obtain⟨cs,h1,h2,h3,h4⟩:=hbb
  have hd:=hR.dom _ _ h2
  refine⟨g.ph id,off,hval,hd.1,fun hn=>?_,fun j A hj=>?_⟩
  ·rcases hn with hn|hn
   ·have:=hR.n0 _ hn
    rcases hd.2 with q|q
    ·omega
    ·exact hR.n0l _ hn q
   ·rw[hg',V6 h2]at hn;exact hn rfl
  ·rw[WO]at hj
   obtain⟨y,s1,s2,s3⟩:=h4 (off+j) (.per A) (by rw[List.getElem?_map,hj];rfl)
   exact⟨y,by rw[eo h1];exact s1,s2,A.mono (V8 _) (fun _ _ _=>rfl) hn s3⟩⟩
theorem F5 {S':St}(h:Le n S S')(k:sN P n fn S' r post):sN P n fn S r post:=fun C g a w hR=>by
 obtain⟨g',hR'⟩:=h C a w ⟨g,hR⟩
 exact k C g' a w hR'
theorem mH {S':St}{r:Ret}(h:Le n S S')(k:nm P n fn S' r):nm P n fn S r:=fun C a w hL hR=>k C a w hL (h C a w hR)
theorem Ic {τ:List (Nat×Nat)}{t vr:Nat}{As:List PV}(hT:dZ P ty true)(hk:gN P ty k)(h0:Nat.blt 0 k=true)(h:S.get t=.ptr id vr 0)(hv:S.ver id=vr)(hb:S.blk id=.box e cells)
 (hl:cells.length=k) (hc:ru cells=some As):Bn P n S τ (.cell t ty) (.per (cB As)):=Pg fun C g a w hR=>by
 obtain⟨d,hT,hd⟩:=hT.h
 have hk:=hk.h
 have hs:=hR.slots t
 rw[h]at hs
 have hB:=hR.blks id
 rw[hb]at hB
 obtain⟨cs,h2,_,h4,h5⟩:=hB
 have hm:=n8 hc
 have hlen:As.length=k:=by rw[←hl,hm];simp
 have h0:=Wc h0
 obtain⟨vs,g1,g2,g3⟩:=dY (N:=g.N C) (w:=w) (f:=fun j=>w.cell? ⟨g.ph id,0+j,none⟩) As (fun j A hj=>by
  obtain⟨y,q1,q2,q3⟩:=h5 j (.per A) (by rw[hm,List.getElem?_map,hj];rfl)
  exact⟨y,by rw[eo h2,WF];exact q1,q2,q3⟩)
 refine⟨.agg vs.toArray,?_,vs.toArray,rfl,g3⟩
 have:=fg (P:=P) (w:=w) (b:=g.ph id) (o:=0) hT hd (by rw[hk,g1,hlen]) ab g2
 show(do loadVar ty (←asAddr (a.tmps.getD t undef))).run P w=_
 rw[hs.2 hv.symm]
 simpa[Instr.loadAt,Instr.sureAddr,asAddr]using this
theorem Ie {τ:List (Nat×Nat)}{t vr:Nat}{c:Cnt}(hτ:J9 τ=true)(hT:dZ P ty true)(hk:gN P ty k)(h0:Nat.blt 0 k=true)(h:S.get t=.ptr id vr 0)(hv:S.ver id=vr)(hb:S.blk id=.box e cells)
 (hl:cells.length=k) (hc:(qn cells).mp false (kV τ) S.ver z0=c):Bn P n S τ (.cell t ty) c:=fun C g a w hR=>by
 obtain⟨d,hT,hd⟩:=hT.h
 have hk:=hk.h
 have h0:=Wc h0
 have hs:=hR.slots t
 rw[h]at hs
 have hB:=hR.blks id
 rw[hb]at hB
 obtain⟨cs,h2,_,h4,h5⟩:=hB
 refine⟨.agg cs,?_,?_⟩
 ·have:=fg (P:=P) (w:=w) (b:=g.ph id) (o:=0) (cs:=cs.toList) hT hd bn bn (fun j v hj=>by rw[eo h2,WF];simpa using hj)
  show(do loadVar ty (←asAddr (a.tmps.getD t undef))).run P w=_
  rw[hs.2 hv.symm]
  simpa[Instr.loadAt,Instr.sureAddr,asAddr]using this
 ·rw[←hc]
  refine la (fun b _ h=>KM b h) (fun h=>by cases h) (Sg hτ) (lI.2 ⟨cs.toList,au,by simpa using h4,fun j c hj=>?_⟩)
  obtain⟨y,q1,q2,q3⟩:=h5 j c hj
  exact⟨y,by simpa using q1,q2,q3⟩
theorem Rv {t vr:Nat}{As:List PV}(hT:dZ P ty true)(hk:gN P ty k)(h0:Nat.blt 0 k=true)(h:S.get t=.ptr id vr 0)(hv:S.ver id=vr)(hb:S.blk id=.box e cells)
 (hl:cells.length=k) (hc:ru cells=some As):cC P n S (.cell t ty) (.per (cB As)):=by
 obtain⟨d,hT,hd⟩:=hT.h
 exact KB hT hd hk.h h0 h hv hb hl hc
def Pw (id id':Nat)(i:Nat):Option Nat:=bif Nat.beq i id then some id' else bif Nat.beq i id' then none else some i
def U0 (vr:Nat→Nat)(id':Nat)(i:Nat):Nat:=bif Nat.beq i id' then vr id'+1 else vr i
def St.mv (S:St)(id id':Nat):St:=
 ⟨fun t=>(S.get t).mp true (Pw id id') S.ver (U0 S.ver id'),fun i=>bif Nat.beq i id' then(S.blk id).mp true (Pw id id') S.ver (U0 S.ver id')else bif Nat.beq i id then .none else(S.blk i).mp true (Pw id id') S.ver (U0 S.ver id'),U0 S.ver id'⟩
theorem Bx {id':Nat}(h:Pw id id' i=some j):(i=id∧j=id')∨(i≠id∧i≠id'∧j=i):=by
 unfold Pw at h
 by_cases h1:i=id
 ·subst h1;rw[Nat.beq_refl]at h;cases h;exact .inl ⟨rfl,rfl⟩
 ·rw[gB h1]at h
  by_cases h2:i=id'
  ·subst h2;rw[Nat.beq_refl]at h;cases h
  ·rw[gB h2]at h;cases h;exact .inr ⟨h1,h2,rfl⟩
theorem aN (id id':Nat)(hne:Nat.beq id id'=false:=by rfl)(hfx:fq id'=false:=by rfl):Le n S (S.mv id id'):=by
 rintro C a w ⟨g,hR⟩
 have hne':id≠id':=fun e=>by rw[bq.2 e]at hne;cases hne
 let g':Gh:=⟨fun b=>if g.ow b=some id then some id' else g.ow b,fun i=>if i=id' then g.ph id else g.ph i,fun i=>if i=id' then g.rh id else g.rh i⟩
 have how:∀b,g'.ow b=if g.ow b=some id then some id' else g.ow b:=fun _=>rfl
 have hM:∀b,g'.M b→g.M b:=fun b h e=>h (by rw[how,V3 (by rw[e];simp)];exact e)
 have hN:∀b,g'.N C b→g.N C b:=fun b h=>h.imp (fun q=>q) (fun q=>hM b q)
 have hρ:∀i j,Pw id id' i=some j→g'.ph j=g.ph i∧g'.rh j=g.rh i:=fun i j h=>by
  rcases Bx h with⟨rfl,rfl⟩|⟨h1,h2,rfl⟩
  ·exact⟨V6 rfl,V6 rfl⟩
  ·exact⟨V3 h2,V3 h2⟩
 have hoj:∀b i j,g.ow b=some i→Pw id id' i=some j→g'.ow b=some j:=fun b i j h1 h2=>by
  rcases Bx h2 with⟨rfl,rfl⟩|⟨q1,q2,rfl⟩
  ·rw[how,V6 h1]
  ·rw[how,V3 (by rw[h1];simpa using q1)];exact h1
 refine⟨g',hR.defers,hR.tsz,hR.nle,fun i hi=>?_,hR.os,hR.tape,hR.output,hR.size,hR.old,hR.n0,hR.n0l,fun b i e=>?_,fun t=>la (fun b _ h=>hN b h) (fun _ b _ h=>hM b h) hρ (hR.slots t),fun i=>?_⟩
 ·have:i≠id':=fun e=>by subst e;rw[hfx]at hi;cases hi
  exact⟨(V3 this).trans (hR.keep i hi).1,(V3 this).trans (hR.keep i hi).2⟩
 ·rw[how]at e
  split at e
  ·rename_i h;exact hR.dom b id h
  ·exact hR.dom b i e
 ·show brep C _ g' w i (bif Nat.beq i id' then _ else bif Nat.beq i id then _ else _)
  cases h1:Nat.beq i id' with
  | true=>
   obtain rfl:=bq.1 h1
   exact qk (fun b _ h=>hN b h) (fun _ b _ h=>hM b h) hρ hoj (fun b i e=>(hR.dom b i e).1) (i:=id) (by unfold Pw;rw[Nat.beq_refl];rfl) (hR.blks id)
  | false=>
   cases h2:Nat.beq i id with
   | true=>trivial
   | false=>exact qk (fun b _ h=>hN b h) (fun _ b _ h=>hM b h) hρ hoj (fun b i e=>(hR.dom b i e).1) (i:=i) (by unfold Pw;rw[h1,h2];rfl) (hR.blks i)
end
end Go.Proofs.YtaclhhkblbacgaaGreat
