/- Texts joined: AbsM. -/
import Derived.Test.YtliiahjpiagdkaaGreatJ03
import Derived.Laws.StructEq
import Derived.Laws.Pointers
namespace Go.Proofs.YtliiahjpiagdkaaGreat
open Go.RowKit
def xM (xs:List Value) (off k:Nat):List Value:=(xs.drop off).take k
def Nl (a b:Option Bool):Option Bool:=match a,b with
 | some x,some y=>some (x && y)
 | _,_=>none
def xN (P:Program):Nat → TypeId → List Value → List Value → Option Bool
 | 0,_,_,_=>none
 | d + 1,t,xs,ys=>match P.underlying t with
  | some .bool=>match xs,ys with
   | [.bool a],[.bool b]=>some (a == b)
   | _,_=>none
  | some (.int _)=>match xs,ys with
   | [.int k a],[.int k' b]=>if k = k' then some (a == b) else none
   | _,_=>none
  | some .string=>match xs,ys with
   | [.string a],[.string b]=>some (a == b)
   | _,_=>none
  | some (.struct fs)=>
   if P.stoodInHeld t then none else
   if fs.all (·.name != "_") then fs.toList.foldr (fun f r => Nl (xN P d f.type (xM xs f.offset (P.cellsOf f.type)) (xM ys f.offset (P.cellsOf f.type))) r) (some true) else none
  | _=>none
def lD (P:Program) (t:TypeId) (xs:List Value) (x:Value):Prop:=match P.underlying t with
 | some (.struct _)=>x = .agg xs.toArray
 | _=>xs = [x]
theorem DL {a b:Option Bool} {r:Bool} (h:Nl a b = some r):∃ x y,a = some x ∧ b = some y ∧ r = (x && y):=by
 cases a <;> cases b <;> simp [Nl] at h
 exact ⟨_,_,rfl,rfl,h.symm⟩
theorem Gg {xs:List Value} {off k:Nat} {x:Value} (h:xM xs off k = [x]):xs[off]? = some x:=by
 have h1:(xM xs off k)[0]? = some x:=by rw [h];rfl
 rw [xM,List.getElem?_take] at h1
 split at h1
 ·simpa using h1
 ·cases h1
theorem xO {P:Program} {w:World} {e:TypeId} {xs:List Value} {off:Nat} (h:(∃ x,xM xs off (P.cellsOf e) = [x] ∧ ∃ k,P.underlying e = some k ∧ (k = .bool ∨ (∃ q,k = .int q) ∨ k = .string)) ∨ ∃ fs,P.underlying e = some (.struct fs)) :
 ∃ a,(part e xs.toArray off).run P w = .ok a w ∧ lD P e (xM xs off (P.cellsOf e)) a:=by
 rcases h with ⟨x,h,k,hk,hh⟩|⟨fs,hk⟩
 ·have h1:=Gg h
  refine ⟨x,?_,?_⟩
  ·rcases hh with rfl|⟨q,rfl⟩|rfl <;> simp [part,isAgg,run_underlying hk,h1]
  ·rcases hh with rfl|⟨q,rfl⟩|rfl <;> simp [lD,hk,h]
 ·obtain ⟨i,hi⟩:=info_of_underlying hk
  refine ⟨.agg (xs.toArray.extract off (off + P.cellsOf e)),?_,?_⟩
  ·simp [part,isAgg,run_underlying hk,run_sizeOf w hi]
  ·simp only [lD,hk,xM,Value.agg.injEq]
   apply Array.toList_inj.1
   rw [Array.toList_extract]
   simp [List.extract]
theorem DM {P:Program} {d:Nat} {t:TypeId} {xs ys:List Value} {r:Bool} (h:xN P d t xs ys = some r) :
 ((∃ x,xs = [x] ∧ ∃ k,P.underlying t = some k ∧ (k = .bool ∨ (∃ q,k = .int q) ∨ k = .string)) ∨ ∃ fs,P.underlying t = some (.struct fs)) ∧
 ((∃ x,ys = [x] ∧ ∃ k,P.underlying t = some k ∧ (k = .bool ∨ (∃ q,k = .int q) ∨ k = .string)) ∨ ∃ fs,P.underlying t = some (.struct fs)):=by
 cases d with
 | zero=>simp [xN] at h
 | succ d=>
  unfold xN at h
  split at h
  ·rename_i hu;split at h
   ·exact ⟨.inl ⟨_,rfl,_,hu,.inl rfl⟩,.inl ⟨_,rfl,_,hu,.inl rfl⟩⟩
   ·cases h
  ·rename_i hu;split at h
   ·exact ⟨.inl ⟨_,rfl,_,hu,.inr (.inl ⟨_,rfl⟩)⟩,.inl ⟨_,rfl,_,hu,.inr (.inl ⟨_,rfl⟩)⟩⟩
   ·cases h
  ·rename_i hu;split at h
   ·exact ⟨.inl ⟨_,rfl,_,hu,.inr (.inr rfl)⟩,.inl ⟨_,rfl,_,hu,.inr (.inr rfl)⟩⟩
   ·cases h
  ·rename_i hu;exact ⟨.inr ⟨_,hu⟩,.inr ⟨_,hu⟩⟩
  ·cases h
theorem Co {P:Program} {w:World}:∀ (d:Nat) (t:TypeId) (xs ys:List Value) (x y:Value) (r:Bool),xN P d t xs ys = some r → lD P t xs x → lD P t ys y →
 (Op.equalIn d t x y).run P w = .ok r w
 | 0,_,_,_,_,_,_,h,_,_=>by simp [xN] at h
 | d + 1,t,xs,ys,x,y,r,h,hx,hy=>by
  unfold xN at h
  split at h
  ·rename_i hu;split at h
   ·simp only [lD,hu,List.cons.injEq,and_true] at hx hy
    subst hx;subst hy;cases h
    exact run_equalIn_bool' w d t _ _ hu
   ·cases h
  ·rename_i hu;split at h
   ·simp only [lD,hu,List.cons.injEq,and_true] at hx hy
    subst hx;subst hy
    split at h
    ·rename_i hk;subst hk;cases h
     exact run_equalIn_int w d t _ _ _ _ hu
    ·cases h
   ·cases h
  ·rename_i hu;split at h
   ·simp only [lD,hu,List.cons.injEq,and_true] at hx hy
    subst hx;subst hy;cases h
    rw [run_equalIn_string w d t _ _ hu,beq_toListBytes]
   ·cases h
  ·rename_i fs hu
   simp only [lD,hu] at hx hy
   subst hx;subst hy
   split at h
   ·cases h
   rename_i hs
   split at h
   ·rename_i hn
    have hfs:P.fieldsOf t = fs:=by simp [Program.fieldsOf,hu]
    rw [run_equalIn_struct w d t _ _ (by rw [hfs];exact hu) (by simpa using hs),hfs]
    have hn' : ∀ f ∈ fs.toList, f.name ≠ "_" := fun f hf => by
     have:=Array.all_eq_true_iff_forall_mem.1 hn f (Array.mem_toList_iff.1 hf)
     simpa using this
    clear hu hs hn hfs
    generalize fs.toList = l at *
    induction l generalizing r with
    | nil=>cases h;simp [Op.eqFields]
    | cons f l ih=>
     rw [List.foldr_cons] at h
     obtain ⟨a,b,h1,h2,rfl⟩:=DL h
     obtain ⟨p1,p2⟩:=DM h1
     obtain ⟨u,q1,q2⟩:=xO (w:=w) p1
     obtain ⟨v,q3,q4⟩:=xO (w:=w) p2
     have h3:=Co (w:=w) d _ _ _ _ _ _ h1 q2 q4
     have h4:=ih b h2 (fun g hg=>hn' g (by simp [hg]))
     simp only [Op.eqFields,hn' f (by simp),ne_eq,not_false_eq_true,if_true,Sem.run_bind,q1,q3,h3,Result.andThen_ok]
     cases a
     ·simp
     ·simpa using h4
   ·cases h
  ·cases h
variable {P:Program} {n t:Nat} {ops:Array Oper} {o:Oper} {S:St}
theorem rK {N:BP} {w:World} {vs:Array Value} {l:List Value} (h:fq N w vs (l.map av)):vs = l.toArray:=by
 obtain ⟨h1,h2⟩:=h
 rw [List.length_map] at h1
 apply Array.ext (by simpa using h1)
 intro i hi hj
 have hl:i < l.length:=by simpa using hj
 obtain ⟨y,q1,_,q3⟩:=h2 i (av l[i]) (by rw [List.getElem?_map,List.getElem?_eq_getElem hl];rfl)
 rw [Array.getElem?_eq_getElem hi] at q1
 cases q1
 exact q3
def Nm (q:Bool) (op:BinOp):Prop:=(q = false ∧ op = .eql) ∨ (q = true ∧ op = .neq)
theorem dR {op:BinOp} {q r:Bool} {ty ty':TypeId} {x y:Operand} {us vs:List Value} (hp:Pl n o t) (ho:o.op = .binOp op ty x y ty') (hx:S.opd x = .per (bX (us.map av))) (hy:S.opd y = .per (bX (vs.map av)))
 (hq:Nm q op) (hg:P.eqGuardType P.depth ty = false) (hs:(match P.underlying ty with|some (.struct _)=>true|_=>false) = true) (h:xN P 10000 ty us vs = some r):aw n P ops o (aA x ++ aA y) (bC (r != q)) [] S:=
 aM hp fun C T g a w hA hR=>by
  have h1:=aD (x:=x) hA (fun k h=>by simp [h]) hR
  have h2:=aD (x:=y) hA (fun k h=>by simp [h]) hR
  rw [hx] at h1
  rw [hy] at h2
  obtain ⟨as,e1,c1⟩:=h1
  obtain ⟨bs,e2,c2⟩:=h2
  have e3:=rK c1
  have e4:=rK c2
  have hv:∀ l:List Value,lD P ty l (.agg l.toArray):=fun l=>by
   unfold lD;split at hs
   ·simp only
   ·cases hs
  have hr:=Co (w:=w) 10000 ty us vs _ _ r h (hv us) (hv vs)
  refine ⟨.bool (r != q),?_,rfl⟩
  rcases hq with ⟨rfl,rfl⟩|⟨rfl,rfl⟩
  ·simp [execOp,ho,e1,e2,e3,e4,run_eqGuard_agg (P:=P) w .eql ty x y us.toArray vs.toArray hg,run_eql_struct,hr]
  ·simp [execOp,ho,e1,e2,e3,e4,run_eqGuard_agg (P:=P) w .neq ty x y us.toArray vs.toArray hg,run_neq_struct,hr]
end Go.Proofs.YtliiahjpiagdkaaGreat
namespace Go.Proofs.YtliiahjpiagdkaaGreat
open Go.RowKit
def tN (ρ:Nat → Option Nat) (old:Nat → Nat) (id r:Nat) (k:Nat → Cnt):Cnt:=match ρ id with
 | some j=>bif Nat.beq r (old id) then k j else .any
 | none=>.any
def Cnt.mp (bo:Bool) (ρ:Nat → Option Nat) (old new:Nat → Nat):Cnt → Cnt
 | .row id r=>tN ρ old id r fun j=>.row j (new j)
 | .ptr id r off=>tN ρ old id r fun j=>.ptr j (new j) off
 | .ept id r k i q=>tN ρ old id r fun j=>.ept j (new j) k i q
 | .vw id r k i q=>tN ρ old id r fun j=>.vw j (new j) k i q
 | .per A=>.per A
 | .bor k es=>bif bo then .bor k es else .any
 | .bpt cs=>bif bo then .bpt cs else .any
 | .tup2 c d=>.tup2 (c.mp bo ρ old new) (d.mp bo ρ old new)
 | .tup3 c d e=>.tup3 (c.mp bo ρ old new) (d.mp bo ρ old new) (e.mp bo ρ old new)
 | .clo1 f c=>.clo1 f (c.mp bo ρ old new)
 | .clo2 f c d=>.clo2 f (c.mp bo ρ old new) (d.mp bo ρ old new)
 | .clo3 f c d e=>.clo3 f (c.mp bo ρ old new) (d.mp bo ρ old new) (e.mp bo ρ old new)
 | .aggN=>.aggN
 | .aggK c r=>.aggK (c.mp bo ρ old new) (r.mp bo ρ old new)
 | .grd _ _=>.any
 | .any=>.any
def Blk.mp (bo:Bool) (ρ:Nat → Option Nat) (old new:Nat → Nat):Blk → Blk
 | .none=>.none
 | .box e cells=>.box e (cells.map (Cnt.mp bo ρ old new))
 | .row e k es=>.row e k es
 | .mix e es c=>.mix e es (c.mp bo ρ old new)
 | .obj A=>.obj A
section
variable {C C':Ctx} {vr vr':Nat → Nat} {g g':Gh} {w:World} {ρ:Nat → Option Nat} {bo:Bool}
theorem qV {id r:Nat} {v:Value} {k:Nat → Cnt} {old:Nat → Nat} (h:∀ j,ρ id = some j → r = old id → crep C' vr' g' w v (k j)):crep C' vr' g' w v (tN ρ old id r k):=by
 unfold tN
 cases hr:ρ id with
 | none=>trivial
 | some j=>
  simp only
  cases hb:Nat.beq r (old id) with
  | true=>exact h j hr (aG.1 hb)
  | false=>trivial
theorem kF (hN:∀ b,b < w.heap.size → g'.N C' b → g.N C b) (hM:bo = true → ∀ b,b < w.heap.size → g'.M b → g.M b) (hρ:∀ i j,ρ i = some j → g'.ph j = g.ph i ∧ g'.rh j = g.rh i) :
 ∀ {c:Cnt} {v:Value},crep C vr g w v c → crep C' vr' g' w v (c.mp bo ρ vr vr'):=by
 intro c
 induction c with
 | any=>intro v _;trivial
 | per A=>intro v h;exact A.mono (Nat.le_refl _) (fun _ _ _=>rfl) hN h
 | bor k es=>
  intro v h
  cases hb:bo with
  | true=>exact dW.mono (Nat.le_refl _) (fun _ _ _=>rfl) (fun _ _ _=>rfl) (hM hb) hN h
  | false=>trivial
 | bpt cs=>
  rintro v ⟨b,o,e,hb,hn,h⟩
  cases hbo:bo with
  | true=>exact ⟨b,o,e,hb,fun x=>hn (hM hbo b hb x),fun j A hj=>let ⟨y,g1,g2,g3⟩:=h j A hj;⟨y,g1,g2,A.mono (Nat.le_refl _) (fun _ _ _=>rfl) hN g3⟩⟩
  | false=>trivial
 | row id r=>intro v h;exact qV fun j hj e=>⟨Nat.le_refl _,fun _=>by rw [(hρ _ _ hj).2];exact h.2 e⟩
 | ptr id r off=>intro v h;exact qV fun j hj e=>⟨Nat.le_refl _,fun _=>by rw [(hρ _ _ hj).1];exact h.2 e⟩
 | ept id r k i q=>intro v h;exact qV fun j hj e=>⟨Nat.le_refl _,fun _=>by rw [(hρ _ _ hj).1];exact h.2 e⟩
 | vw id r k i q=>intro v h;exact qV fun j hj e=>⟨Nat.le_refl _,fun _=>by rw [(hρ _ _ hj).1];exact h.2 e⟩
 | grd b c ih=>intro v _;trivial
 | tup2 c d ih1 ih2=>rintro v ⟨x,y,e,h1,h2⟩;exact ⟨x,y,e,ih1 h1,ih2 h2⟩
 | tup3 c d e ih1 ih2 ih3=>rintro v ⟨x,y,z,e,h1,h2,h3⟩;exact ⟨x,y,z,e,ih1 h1,ih2 h2,ih3 h3⟩
 | clo1 f c ih=>rintro v ⟨x,e,h1⟩;exact ⟨x,e,ih h1⟩
 | clo2 f c d ih1 ih2=>rintro v ⟨x,y,e,h1,h2⟩;exact ⟨x,y,e,ih1 h1,ih2 h2⟩
 | clo3 f c d e ih1 ih2 ih3=>rintro v ⟨x,y,z,e,h1,h2,h3⟩;exact ⟨x,y,z,e,ih1 h1,ih2 h2,ih3 h3⟩
 | aggN=>exact fun h=>h
 | aggK c r ih1 ih2=>rintro v ⟨x,vs,e,o,h1,h2⟩;exact ⟨x,vs,e,o,ih1 h1,ih2 h2⟩
theorem ot (hN:∀ b,b < w.heap.size → g'.N C' b → g.N C b) (hM:bo = true → ∀ b,b < w.heap.size → g'.M b → g.M b) (hρ:∀ i j,ρ i = some j → g'.ph j = g.ph i ∧ g'.rh j = g.rh i)
 (how:∀ b i j,g.ow b = some i → ρ i = some j → g'.ow b = some j) (hlt:∀ b i,g.ow b = some i → b < w.heap.size) {i j:Nat} (hij:ρ i = some j) {B:Blk} (h:brep C vr g w i B):brep C' vr' g' w j (B.mp bo ρ vr vr'):=by
 obtain ⟨hp,hr⟩:=hρ i j hij
 have hper:∀ {A:PV} {v:Value},A.p (g.N C) w v → A.p (g'.N C') w v:=fun {A v} h=>A.mono (Nat.le_refl _) (fun _ _ _=>rfl) hN h
 cases B with
 | none=>trivial
 | box e cells=>
  obtain ⟨cs,h1,h2,h3,h4⟩:=h
  refine ⟨cs,by rw [hp];exact h1,by rw [hp];exact how _ _ _ h2 hij,by simp [h3],fun q c hq=>?_⟩
  rw [List.getElem?_map] at hq
  cases hc:cells[q]? with
  | none=>rw [hc] at hq;cases hq
  | some c'=>
   rw [hc] at hq;cases hq
   obtain ⟨y,q1,q2,q3⟩:=h4 q c' hc
   exact ⟨y,q1,q2,kF hN hM hρ q3⟩
 | row e k es=>
  rcases h with ⟨h1,h2⟩|⟨cap,cs,h1,h2,h3,h4,h5,h6,h7⟩
  ·exact .inl ⟨by rw [hr];exact h1,h2⟩
  ·refine .inr ⟨cap,cs,by rw [hr,hp];exact h1,by rw [hp];exact h2,by rw [hp];exact how _ _ _ h3 hij,h4,h5,h6,fun q ps hq=>⟨(h7 q ps hq).1,fun u A hu=>?_⟩⟩
   obtain ⟨y,q1,q2,q3⟩:=(h7 q ps hq).2 u A hu
   exact ⟨y,q1,q2,hper q3⟩
 | mix e es c=>
  obtain ⟨cap,cs,h1,h2,h3,h4,h5,h6,h7,y,q1,q2,q3⟩:=h
  refine ⟨cap,cs,by rw [hr,hp];exact h1,by rw [hp];exact h2,by rw [hp];exact how _ _ _ h3 hij,h4,h5,h6,fun q A hq=>?_,y,q1,q2,kF hN hM hρ q3⟩
  obtain ⟨y',s1,s2,s3⟩:=h7 q A hq
  exact ⟨y',s1,s2,hper s3⟩
 | obj A=>
  show A.p (fun b=>g'.ow b = some j) (g'.N C') w (g'.rh j)
  rw [hr]
  exact A.mono (F:=fun b=>g.ow b = some i) (fun b e=>how b i j e hij) (fun b e=>hlt b i e) (Nat.le_refl _) (fun _ _ _=>rfl) (fun _ _ _=>rfl) hN h
theorem kG {old old':Nat → Nat} {k k':Nat → Cnt} {id r:Nat} (ho:∀ j,ρ id = some j → old id = old' id) (hk:∀ j,ρ id = some j → k j = k' j):tN ρ old id r k = tN ρ old' id r k':=by
 unfold tN
 cases h:ρ id with
 | none=>rfl
 | some j=>simp only;rw [ho j h,hk j h]
theorem jT {old old' new new':Nat → Nat} (ho:∀ i j,ρ i = some j → old i = old' i) (hn:∀ i j,ρ i = some j → new j = new' j):∀ (c:Cnt),c.mp bo ρ old new = c.mp bo ρ old' new':=by
 intro c
 induction c with
 | any=>rfl
 | per A=>rfl
 | bor k es=>rfl
 | bpt cs=>rfl
 | row id r=>exact kG (ho id) (fun j h=>by rw [hn id j h])
 | ptr id r off=>exact kG (ho id) (fun j h=>by rw [hn id j h])
 | ept id r k i q=>exact kG (ho id) (fun j h=>by rw [hn id j h])
 | vw id r k i q=>exact kG (ho id) (fun j h=>by rw [hn id j h])
 | grd b c ih=>rfl
 | tup2 c d ih1 ih2=>simp only [Cnt.mp,ih1,ih2]
 | tup3 c d e ih1 ih2 ih3=>simp only [Cnt.mp,ih1,ih2,ih3]
 | clo1 f c ih=>simp only [Cnt.mp,ih]
 | clo2 f c d ih1 ih2=>simp only [Cnt.mp,ih1,ih2]
 | clo3 f c d e ih1 ih2 ih3=>simp only [Cnt.mp,ih1,ih2,ih3]
 | aggN=>rfl
 | aggK c r ih1 ih2=>simp only [Cnt.mp,ih1,ih2]
theorem pz {old old' new new':Nat → Nat} (ho:∀ i j,ρ i = some j → old i = old' i) (hn:∀ i j,ρ i = some j → new j = new' j) (B:Blk):B.mp bo ρ old new = B.mp bo ρ old' new':=by
 cases B with
 | box e cells=>simp only [Blk.mp];congr 1;exact List.map_congr_left (fun c _=>jT ho hn c)
 | mix e es c=>simp only [Blk.mp,jT ho hn c]
 | _=>rfl
end
def jy:List (Nat × Nat) → Nat → Option Nat
 | [],_=>none
 | (i,j) :: l,x=>bif Nat.beq x i then some j else jy l x
def iG:List (Nat × Nat) → Nat → Option Nat
 | [],_=>none
 | (i,j) :: l,x=>bif Nat.beq x j then some i else iG l x
def Gi:Option Nat → Nat → Bool
 | some x,y=>Nat.beq x y
 | none,_=>false
theorem uo {x:Option Nat} {y:Nat} (h:Gi x y = true):x = some y:=by
 cases x with
 | none=>cases h
 | some x=>rw [aG.1 h]
theorem qW {l:List (Nat × Nat)} {i j:Nat} (h:jy l i = some j):(i,j) ∈ l:=by
 induction l with
 | nil=>cases h
 | cons p l ih=>
  obtain ⟨a,b⟩:=p
  unfold jy at h
  cases hb:Nat.beq i a with
  | true=>rw [hb] at h;cases h;rw [aG.1 hb];exact List.mem_cons_self
  | false=>rw [hb] at h;exact List.mem_cons_of_mem _ (ih h)
theorem ou {l:List (Nat × Nat)} {i j:Nat} (h:iG l j = some i):(i,j) ∈ l:=by
 induction l with
 | nil=>cases h
 | cons p l ih=>
  obtain ⟨a,b⟩:=p
  unfold iG at h
  cases hb:Nat.beq j b with
  | true=>rw [hb] at h;cases h;rw [aG.1 hb];exact List.mem_cons_self
  | false=>rw [hb] at h;exact List.mem_cons_of_mem _ (ih h)
def Gj (l:List (Nat × Nat)):Bool:=l.all fun p=>Gi (jy l p.1) p.2 && Gi (iG l p.2) p.1
theorem iQ {l:List (Nat × Nat)} (h:Gj l = true) {i j:Nat}:jy l i = some j ↔ iG l j = some i:=by
 unfold Gj at h
 rw [List.all_eq_true] at h
 constructor
 ·intro e
  have:=h _ (qW e)
  rw [Bool.and_eq_true] at this
  exact uo this.2
 ·intro e
  have:=h _ (ou e)
  rw [Bool.and_eq_true] at this
  exact uo this.1
structure O0 (C:Ctx) (w w':World) (g':Gh):Prop where
 os:w'.os = w.os
 tape:w'.tape = w.tape
 output:w'.output = w.output
 size:w.heap.size ≤ w'.heap.size
 old:∀ b,b < w.heap.size → ¬ C.L b → w'.heap[b]? = w.heap[b]?
 dom:∀ b id,g'.ow b = some id → b < w'.heap.size ∧ (w.heap.size ≤ b ∨ C.L b)
 keep:∀ id,cV id = true → g'.ph id = C.G0.ph id ∧ g'.rh id = C.G0.rh id
abbrev z0:Nat → Nat:=fun _=>0
structure de (P:Program) (f:FuncId) (As:List Cnt) (pre:List (Nat × Blk)) (r:Cnt) (post:List (Nat × Blk)):Prop where
 ent:MU P f
 run:∀ (C:Ctx) (w:World) (vs:List Value),C.W0 = w → (∀ b,C.N0 b → b < w.heap.size ∧ ¬ C.L b) → (∀ b id,C.G0.ow b = some id → b < w.heap.size ∧ C.L b) →
  vs.length = As.length → (∀ (i:Nat) (v:Value) (c:Cnt),vs[i]? = some v → As[i]? = some c → crep C z0 C.G0 w v c) → (∀ id,brep C z0 C.G0 w id (cW id pre)) →
  Calls P f vs.toArray w (fun e w'=>∃ v g',e = .returned v ∧ O0 C w w' g' ∧ crep C z0 g' w' v r ∧ ∀ id,brep C z0 g' w' id (cW id post))
def Gk (As:List Cnt) (pre:List (Nat × Blk)):St:=⟨fun t=>(As[t]?).getD .any,fun i=>cW i pre,z0⟩
def rL (P:Program) (n:Nat) (fn:Func) (S:St) (r:Cnt) (post:List (Nat × Blk)):Prop:=
 ∀ (C:Ctx) (g:Gh) a w,RG C n S g a w → ∃ v g',(results fn a.tmps).run P w = .ok v w ∧ O0 C C.W0 w g' ∧ crep C z0 g' w v r ∧ ∀ id,brep C z0 g' w id (cW id post)
theorem DN {P : Program} {f : FuncId} {fn : Func} {body : Code} {As : List Cnt} {pre : List (Nat × Blk)} {r : Cnt} {post : List (Nat × Blk)} {n : Nat} (hf : P.funcs[f]? = some fn) (hb : fn.body = some body) (hm : (fn.name == "runtime.NumGoroutine") = false) (hn : fn.ntmps = n) (hl : As.length ≤ n)
 (h:AW P n body (fun e S=>(e = .ret ∨ e = .normal) ∧ rL P n fn S r post) (Gk As pre)) (hn1:Nat.ble n 1000 = true:=by rfl):de P f As pre r post:=by
 refine ⟨⟨fn,hf,hm,by rw [hb];rfl⟩,?_⟩
 intro C w vs hw hN hd hlen hargs hpre
 subst hw
 refine calls_of_wp hf hb ?_
 have hsz:(vs.toArray ++ Array.replicate (fn.ntmps - vs.toArray.size) undef).size = n:=by simp;omega
 have hR:R C n (Gk As pre) { tmps:=vs.toArray ++ Array.replicate (fn.ntmps - vs.toArray.size) undef,defers:=[] } C.W0:=by
  refine ⟨C.G0,rfl,hsz,Nat.le_of_ble_eq_true hn1,fun _ _=>⟨rfl,rfl⟩,rfl,rfl,rfl,Nat.le_refl _,fun _ _ _=>rfl,fun b hb=>(hN b hb).1,fun b hb=>(hN b hb).2,fun b id e=>⟨(hd b id e).1,.inr (hd b id e).2⟩,fun t=>?_,hpre⟩
  show crep _ z0 C.G0 _ _ ((As[t]?).getD .any)
  cases hA:As[t]? with
  | none=>trivial
  | some c=>
   have ht:t < As.length:=by
    rcases Nat.lt_or_ge t As.length with h|h
    ·exact h
    ·rw [List.getElem?_eq_none h] at hA;cases hA
   have hv:t < vs.length:=by omega
   refine hargs t _ c ?_ hA
   rw [Array.getD_eq_getD_getElem?,Array.getElem?_append_left (by simpa using hv)]
   simp [hv]
 refine wp_mono (h.run _ _ _ hR) ?_
 rintro e a' w' ⟨S',⟨he,hres⟩,g,hg⟩
 obtain ⟨v,g',h1,h2,h3,h4⟩:=hres _ g a' w' hg
 rcases he with rfl|rfl <;> exact ⟨hg.defers,v,h1,v,g',rfl,h2,h3,h4⟩
def Gh.ex (g:Gh) (τ:List (Nat × Nat)):Gh:=⟨fun b=>(g.ow b).bind (jy τ),fun i=>match iG τ i with|some j=>g.ph j|none=>g.ph i,fun i=>match iG τ i with|some j=>g.rh j|none=>g.rh i⟩
def OQ (τ:List (Nat × Nat)):Bool:=Gj τ && τ.all fun p=>!cV p.2 || Nat.beq p.1 p.2
section
variable {P:Program} {n:Nat} {S T:St} {C:Ctx} {g:Gh} {a:Act} {w:World} {τ:List (Nat × Nat)}
theorem KP (b:Nat) (h:(g.ex τ).N C b):g.N C b:=by
 rcases h with h|h
 ·exact .inl h
 ·refine .inr (fun e=>h ?_)
  show (g.ow b).bind (jy τ) = none
  rw [e];rfl
theorem O1 (h:Gj τ = true):∀ i j,jy τ i = some j → (g.ex τ).ph j = g.ph i ∧ (g.ex τ).rh j = g.rh i:=fun i j e=>by
 have:=(iQ h).1 e
 unfold Gh.ex
 simp only [this];exact ⟨trivial,trivial⟩
theorem Nn:∀ b i j,g.ow b = some i → jy τ i = some j → (g.ex τ).ow b = some j:=fun b i j h1 h2=>by
 show (g.ow b).bind (jy τ) = some j
 rw [h1];exact h2
def Al (P:Program) (n:Nat) (S:St) (τ:List (Nat × Nat)) (rv:ResultVar) (c:Cnt):Prop:=∀ (C:Ctx) (g:Gh) a w,RG C n S g a w → ∃ v,(PL a.tmps rv).run P w = .ok v w ∧ crep C z0 (g.ex τ) w v c
inductive aW (S:St) (τ:List (Nat × Nat)):List (Nat × Blk) → Prop
 | nil:aW S τ []
 | cons {i j:Nat} {B:Blk} {l:List (Nat × Blk)} (hj:iG τ i = some j) (h:(S.blk j).mp false (jy τ) S.ver z0 = B) (k:aW S τ l):aW S τ ((i,B) :: l)
theorem aW.look {l:List (Nat × Blk)} (h:aW S τ l) (i:Nat):cW i l = .none ∨ ∃ j,iG τ i = some j ∧ cW i l = (S.blk j).mp false (jy τ) S.ver z0:=by
 induction h with
 | nil=>exact .inl rfl
 | @cons i' j B l hj h k ih=>
  unfold cW
  cases hb:Nat.beq i i' with
  | true=>exact .inr ⟨j,by rw [aG.1 hb];exact hj,h.symm⟩
  | false=>exact ih
theorem ox {fn:Func} {r:Cnt} {post:List (Nat × Blk)} (τ:List (Nat × Nat)) (hτ:OQ τ = true) (hpost:aW S τ post)
 (hr:∀ (C:Ctx) (g:Gh) a w,RG C n S g a w → ∃ v,(results fn a.tmps).run P w = .ok v w ∧ crep C z0 (g.ex τ) w v r):rL P n fn S r post:=by
 intro C g a w hR
 obtain ⟨v,h1,h2⟩:=hr C g a w hR
 unfold OQ at hτ
 rw [Bool.and_eq_true,List.all_eq_true] at hτ
 refine ⟨v,g.ex τ,h1,⟨hR.os,hR.tape,hR.output,hR.size,hR.old,fun b id e=>?_,fun id hf=>?_⟩,h2,fun id=>?_⟩
 ·change (g.ow b).bind (jy τ) = some id at e
  cases ho:g.ow b with
  | none=>rw [ho] at e;cases e
  | some j=>exact hR.dom b j ho
 ·unfold Gh.ex
  simp only
  cases hl:iG τ id with
  | none=>exact hR.keep id hf
  | some j=>
   have:=hτ.2 _ (ou hl)
   simp only [hf,Bool.not_true,Bool.false_or] at this
   rw [aG.1 this];exact hR.keep id hf
 ·rcases hpost.look id with q|⟨j,hj,q⟩
  ·rw [q];trivial
  ·rw [q]
   exact ot (fun b _ h=>KP b h) (fun h=>by cases h) (O1 hτ.1) Nn (fun b i e=>(hR.dom b i e).1) ((iQ hτ.1).2 hj) (hR.blks j)
theorem Cp {fn:Func} {post:List (Nat × Blk)} (τ:List (Nat × Nat)) (hf:fn.results = #[]) (hτ:OQ τ = true) (hpost:aW S τ post):rL P n fn S .any post:=
 ox τ hτ hpost fun C g a w hR=>⟨.tuple #[],by rw [gI,hf];simp,trivial⟩
theorem cc {fn:Func} {rv:ResultVar} {c:Cnt} {post:List (Nat × Blk)} (τ:List (Nat × Nat)) (hf:fn.results = #[rv]) (hτ:OQ τ = true) (hpost:aW S τ post) (h:Al P n S τ rv c):rL P n fn S c post:=
 ox τ hτ hpost fun C g a w hR=>by
  obtain ⟨v,h1,h2⟩:=h C g a w hR
  exact ⟨v,by rw [gI,hf];simp [h1],h2⟩
theorem oy {fn:Func} {rv rv':ResultVar} {c c':Cnt} {post:List (Nat × Blk)} (τ:List (Nat × Nat)) (hf:fn.results = #[rv,rv']) (hτ:OQ τ = true) (hpost:aW S τ post) (h:Al P n S τ rv c) (h':Al P n S τ rv' c'):rL P n fn S (.tup2 c c') post:=
 ox τ hτ hpost fun C g a w hR=>by
  obtain ⟨v,h1,h2⟩:=h C g a w hR
  obtain ⟨v',h1',h2'⟩:=h' C g a w hR
  exact ⟨.tuple #[v,v'],by rw [gI,hf];simp [h1,h1'],v,v',rfl,h2,h2'⟩
theorem MW {fn:Func} {rv rv' rv'':ResultVar} {c c' c'':Cnt} {post:List (Nat × Blk)} (τ:List (Nat × Nat)) (hf:fn.results = #[rv,rv',rv'']) (hτ:OQ τ = true) (hpost:aW S τ post) (h:Al P n S τ rv c) (h':Al P n S τ rv' c') (h'':Al P n S τ rv'' c''):rL P n fn S (.tup3 c c' c'') post:=
 ox τ hτ hpost fun C g a w hR=>by
  obtain ⟨v,h1,h2⟩:=h C g a w hR
  obtain ⟨v',h1',h2'⟩:=h' C g a w hR
  obtain ⟨v'',h1'',h2''⟩:=h'' C g a w hR
  exact ⟨.tuple #[v,v',v''],by rw [gI,hf];simp [h1,h1',h1''],v,v',v'',rfl,h2,h2',h2''⟩
theorem uq {t:Nat} {c:Cnt} (hτ:Gj τ = true) (h:(S.get t).mp false (jy τ) S.ver z0 = c):Al P n S τ (.tmp t) c:=fun C g a w hR=>by
 refine ⟨_,rfl,?_⟩
 rw [← h]
 exact kF (fun b _ h=>KP b h) (fun h=>by cases h) (O1 hτ) (hR.slots t)
theorem cL {t:Nat} {k:IntKind} {z z':Int} (h:S.get t = .per (av (.int k z))) (hz:z = z'):Al P n S τ (.tmp t) (.per (av (.int k z'))):=fun C g a w hR=>by
 have:=hR.slots t
 rw [h] at this
 exact ⟨_,rfl,by rw [← hz];exact this⟩
theorem b0 {t:Nat} {z z':Bool} (h:S.get t = .per (av (.bool z))) (hz:z = z'):Al P n S τ (.tmp t) (.per (av (.bool z'))):=fun C g a w hR=>by
 have:=hR.slots t
 rw [h] at this
 exact ⟨_,rfl,by rw [← hz];exact this⟩
theorem vB {t:Nat} {z z':ByteArray} (h:S.get t = .per (av (.string z))) (hz:z = z'):Al P n S τ (.tmp t) (.per (av (.string z'))):=fun C g a w hR=>by
 have:=hR.slots t
 rw [h] at this
 exact ⟨_,rfl,by rw [← hz];exact this⟩
theorem vC {t:Nat} {A A':PV} (h:S.get t = .per A) (hz:A = A'):Al P n S τ (.tmp t) (.per A'):=fun C g a w hR=>by
 have:=hR.slots t
 rw [h] at this
 exact ⟨_,rfl,by rw [← hz];exact A.mono (Nat.le_refl _) (fun _ _ _=>rfl) (fun b _ h=>KP b h) this⟩
theorem KQ {rv:ResultVar} {A:PV} (h:∀ (C:Ctx) (g:Gh) a w,RG C n S g a w → ∃ v,(PL a.tmps rv).run P w = .ok v w ∧ A.p (g.N C) w v):Al P n S τ rv (.per A):=fun C g a w hR=>by
 obtain ⟨v,h1,h2⟩:=h C g a w hR
 exact ⟨v,h1,A.mono (Nat.le_refl _) (fun _ _ _=>rfl) (fun b _ h=>KP b h) h2⟩
end
def iR (o:Oper) (x0:Operand) (xs:List Operand):Prop:=∃ tys,o.op = .call { callee:=.value x0,args:=xs.toArray,argTypes:=tys }
def DP (n:Nat) (o:Oper):Prop:=o.guard = none ∧ (match o.dst with|none=>true|some t=>Nat.blt t n) = true
section
variable {P:Program} {n:Nat} {ops:Array Oper} {o:Oper} {F:List Nat} {S T:St} {C:Ctx} {g:Gh} {a:Act} {w w':World} {t:Nat} {sg:List (Nat × Nat)}
theorem DP.dOk (h:DP n o):dOk n o.dst:=fun t e=>by
 have:=h.2
 rw [e] at this;exact Nat.le_of_ble_eq_true this
theorem Pl.m (h:Pl n o t):DP n o:=⟨h.1,by rw [h.2.1];exact h.2.2⟩
theorem DP.wanted (h:DP n o) (a:Act):Region.wanted o (yielded ops a.tmps) = true:=by simp [Region.wanted,h.1]
def Gh.sub (g:Gh) (sg:List (Nat × Nat)):Gh:=⟨fun b=>(g.ow b).bind (iG sg),fun i=>match jy sg i with|some j=>g.ph j|none=>0,fun i=>match jy sg i with|some j=>g.rh j|none=>undef⟩
def gl (g:Gh) (sg:List (Nat × Nat)) (b:Nat):Bool:=((g.ow b).bind (iG sg)).isSome
def xP (C:Ctx) (g:Gh) (w:World) (sg:List (Nat × Nat)):Ctx:=⟨w,fun b=>b < w.heap.size ∧ g.N C b ∧ gl g sg b = false,fun b=>gl g sg b = true,g.sub sg⟩
def vD (F:List Nat) (S:St) (x0:Operand) (f:FuncId) (cs:List Cnt):Prop:=∀ (n:Nat) (C:Ctx) (T:St) (g:Gh) (a:Act) (w:World),dd F T S → RG C n T g a w →
 ∃ caps:List Value,a.eval x0 = .func (.func f) #[] caps.toArray ∧ caps.length = cs.length ∧ ∀ (j:Nat) (v:Value) (c:Cnt),caps[j]? = some v → cs[j]? = some c → crep C T.ver g w v c
theorem rM (b:Nat) (h:(g.sub sg).N (xP C g w sg) b):g.N C b:=by
 rcases h with h|h
 ·exact h.2.1
 ·refine .inr (fun e=>h ?_)
  show (g.ow b).bind (iG sg) = none
  rw [e];rfl
theorem xQ (b:Nat) (h:(g.sub sg).M b):g.M b:=fun e=>h (by show (g.ow b).bind (iG sg) = none;rw [e];rfl)
theorem xR (h:Gj sg = true):∀ i j,iG sg i = some j → (g.sub sg).ph j = g.ph i ∧ (g.sub sg).rh j = g.rh i:=fun i j e=>by
 have:=(iQ h).2 e
 unfold Gh.sub
 simp only [this];exact ⟨trivial,trivial⟩
theorem KR:∀ b i j,g.ow b = some i → iG sg i = some j → (g.sub sg).ow b = some j:=fun b i j h1 h2=>by
 show (g.ow b).bind (iG sg) = some j
 rw [h1];exact h2
def eU (F:List Nat) (S:St) (sg:List (Nat × Nat)) (x:Operand) (c:Cnt):Prop:=∀ (n:Nat) (C:Ctx) (T:St) (g:Gh) (a:Act) (w:World),dd F T S → RG C n T g a w →
 crep (xP C g w sg) z0 (g.sub sg) w (a.eval x) c
theorem Np {x:Operand} {c:Cnt} (hok:Gj sg = true) (hF:∀ k ∈ aA x,k ∈ F) (hS:∀ p ∈ sg,2 * p.2 + 1 ∈ F) (h:(S.opd x).mp true (iG sg) S.ver z0 = c):eU F S sg x c:=fun n C T g a w hA hR=>by
 rw [← h,jT (old':=T.ver) (new':=z0) (fun i j e=>((hA.2 i (hS _ (ou e))).2).symm) (fun _ _ _=>rfl)]
 exact kF (fun b _ h=>rM b h) (fun _ b _ h=>xQ b h) (xR hok) (aD hA hF hR)
theorem Nq {x:Operand} {k:Nat} {es:List (List PV)} (hx:S.opd x = .per (cD k es)) (hF:∀ k ∈ aA x,k ∈ F):eU F S sg x (.bor k es):=fun n C T g a w hA hR=>by
 have h:=aD (x:=x) hA hF hR
 rw [hx] at h
 exact dW.mono (Nat.le_refl _) (fun _ _ _=>rfl) (fun _ _ _=>rfl) (fun b _ h=>.inr (xQ b h)) (fun b _ h=>rM b h) h
theorem Gl {id e k:Nat} {es:List (List PV)} {top N':BP} (ht:∀ b,g.ow b = some id → ¬ top b) (hn:∀ b,b < w.heap.size → N' b → g.N C b) (hR:RG C n T g a w) (h:brep C T.ver g w id (.row e k es)):dW top N' k es w (g.rh id):=by
 rcases h with ⟨h1,rfl⟩|⟨cap,cs,h1,h2,h3,h4,h5,h6,h7⟩
 ·exact ⟨none,0,0,0,by rw [h1];rfl,by simp,by decide,fun _=>rfl,by simp,fun i cs hi=>by simp at hi⟩
 ·have hlt:=(hR.dom _ _ h3).1
  refine ⟨_,cap,g.ph id,0,h1,h4,h5,by simp,fun _=>⟨rfl,hlt,ht _ h3⟩,fun i ps hi=>?_⟩
  obtain ⟨q1,q2⟩:=h7 i ps hi
  refine ⟨q1,fun j A hj=>?_⟩
  obtain ⟨y,r1,r2,r3⟩:=q2 j A hj
  exact ⟨y,by rw [Nat.zero_add,eo h2];exact r1,r2,A.mono (Nat.le_refl _) (fun _ _ _=>rfl) hn r3⟩
theorem Nr {x:Operand} {id vr e k:Nat} {es:List (List PV)} (hx:S.opd x = .row id vr) (hv:S.ver id = vr) (hb:S.blk id = .row e k es) (hF:∀ k ∈ aA x,k ∈ F) (hF':2 * id + 1 ∈ F) (hid:iG sg id = none):eU F S sg x (.bor k es):=fun n C T g a w hA hR=>by
 obtain ⟨h1,h2⟩:=ko (x:=x) hA hF hF' hR hx hv hb
 rw [h1]
 exact Gl (fun b hb h=>h (by show (g.ow b).bind (iG sg) = none;rw [hb];exact hid)) (fun b _ h=>rM b h) hR h2
theorem Ns {x:Operand} {k:Nat} (hx:S.opd x = .per (av (.slice none 0 0))) (hF:∀ k ∈ aA x,k ∈ F):eU F S sg x (.bor k []):=fun n C T g a w hA hR=>by
 have h:=aV (x:=x) hA hF hR hx
 rw [h]
 exact ⟨none,0,0,0,rfl,by simp,by decide,fun _=>rfl,by simp,fun i cs hi=>by simp at hi⟩
theorem KS {x:Operand} {k:Nat} (hx:S.opd x = .per (av (.slice none 0 0))) (hF:∀ k ∈ aA x,k ∈ F):eU F S sg x (.per (cD k [])):=fun n C T g a w hA hR=>by
 have h:=aV (x:=x) hA hF hR hx
 rw [h]
 exact ⟨none,0,0,0,rfl,by simp,by decide,fun _=>rfl,by simp,fun i cs hi=>by simp at hi⟩
inductive kH (F:List Nat) (S:St) (sg:List (Nat × Nat)):List Operand → List Cnt → Prop
 | nil:kH F S sg [] []
 | cons {x:Operand} {c:Cnt} {xs:List Operand} {cs:List Cnt} (h:eU F S sg x c) (t:kH F S sg xs cs):kH F S sg (x :: xs) (c :: cs)
theorem kH.rep {xs:List Operand} {cs:List Cnt} (h:kH F S sg xs cs) (hA:dd F T S) (hR:RG C n T g a w):(xs.map a.eval).length = cs.length ∧ ∀ (i:Nat) (v:Value) (c:Cnt),(xs.map a.eval)[i]? = some v → cs[i]? = some c → crep (xP C g w sg) z0 (g.sub sg) w v c:=by
 induction h with
 | nil=>exact ⟨rfl,fun i v c hi=>by simp at hi⟩
 | cons h t ih=>
  refine ⟨by simp [ih.1],fun i v c hi hc=>?_⟩
  cases i with
  | zero=>
   simp at hi hc;subst hi;subst hc
   exact h n C T g a w hA hR
  | succ i=>exact ih.2 i v c (by simpa using hi) (by simpa using hc)
inductive lg (S:St) (sg:List (Nat × Nat)):List (Nat × Blk) → Prop
 | nil:lg S sg []
 | cons {i j:Nat} {B:Blk} {l:List (Nat × Blk)} (hj:jy sg i = some j) (h:(S.blk j).mp true (iG sg) S.ver z0 = B) (k:lg S sg l):lg S sg ((i,B) :: l)
theorem lg.look {l:List (Nat × Blk)} (h:lg S sg l) (i:Nat):cW i l = .none ∨ ∃ j,jy sg i = some j ∧ cW i l = (S.blk j).mp true (iG sg) S.ver z0:=by
 induction h with
 | nil=>exact .inl rfl
 | @cons i' j B l hj h k ih=>
  unfold cW
  cases hb:Nat.beq i i' with
  | true=>exact .inr ⟨j,by rw [aG.1 hb];exact hj,h.symm⟩
  | false=>exact ih
theorem KT {f:FuncId} {x0:Operand} {xs:List Operand} {caps:List Value} {K:Act → World → Prop} {R:Value → World → Prop} (hE:MU P f) (ho:iR o x0 xs) (h0:a.eval x0 = .func (.func f) #[] caps.toArray)
 (h:Calls P f (xs.map a.eval ++ caps).toArray w (fun e w'=>∃ v,e = .returned v ∧ R v w')) (hk:∀ v w',R v w' → K (a.put o.dst v) w') :
 o.wp P a w K (fun _ _ _=>False):=by
 obtain ⟨fn,h1,h2,h3⟩:=hE
 obtain ⟨tys,ho⟩:=ho
 unfold Oper.wp
 have:(execOp a.eval o).run P w = .ok (.enter f (xs.map a.eval ++ caps).toArray) w:=by
  simp only [execOp,ho,resolve,h0,Deferred.ofValue,Sem.run_bind,Sem.run_pure,Result.andThen_ok,invoke,callFunc,List.map_toArray]
  simp only [program,Sem.run,Result.andThen_ok,h1,h2,h3,Bool.false_eq_true,if_false]
  simp
 rw [this,Oper.upon_enter]
 refine Calls.mono h ?_
 rintro e w' ⟨v,rfl,hv⟩
 exact hk v w' hv
def tG (vr:Nat → Nat) (sg:List (Nat × Nat)) (j:Nat):Nat:=match iG sg j with
 | some i=>bif cV i then vr j else vr j + 1
 | none=>vr j
def Gm (sg:List (Nat × Nat)):Bool:=Gj sg && sg.all fun p=>!cV p.2 || cV p.1
def lF (S:St) (post:List (Nat × Blk)) (sg:List (Nat × Nat)):List (Nat × Nat) → Upd
 | []=>[]
 | (i,j) :: l=>(j,tG S.ver sg j,(cW i post).mp false (jy sg) z0 (tG S.ver sg)) :: lF S post sg l
theorem oz {post:List (Nat × Blk)} (l:List (Nat × Nat)) (j:Nat):ub (lF S post sg l) j = match iG l j with
 | some i=>some (tG S.ver sg j,(cW i post).mp false (jy sg) z0 (tG S.ver sg))
 | none=>none:=by
 induction l with
 | nil=>rfl
 | cons p l ih=>
  obtain ⟨i,j'⟩:=p
  simp only [lF,ub,iG]
  cases hb:Nat.beq j j' with
  | true=>rw [aG.1 hb];rfl
  | false=>exact ih
theorem jU {f:FuncId} {x0:Operand} {xs:List Operand} {As cs:List Cnt} {pre post:List (Nat × Blk)} {r:Cnt} (sg:List (Nat × Nat)) (hp:DP n o) (ho:iR o x0 xs) (hh:vD F S x0 f cs)
 (hf:de P f (As ++ cs.map (Cnt.mp true (iG sg) S.ver z0)) pre r post) (hok:Gm sg = true) (hS:∀ p ∈ sg,2 * p.2 + 1 ∈ F) (hg:kH F S sg xs As) (hpre:lg S sg pre) :
 aw n P ops o F (r.mp false (jy sg) z0 (tG S.ver sg)) (lF S post sg sg) S:=by
 refine ⟨?_⟩
 intro C T hA a w ⟨g,hR⟩
 unfold ia
 rw [if_pos (hp.wanted a)]
 unfold Gm at hok
 rw [Bool.and_eq_true,List.all_eq_true] at hok
 obtain ⟨hok,hfx⟩:=hok
 obtain ⟨caps,c1,c2,c3⟩:=hh n C T g a w hA hR
 obtain ⟨g1,g2⟩:=hg.rep hA hR
 have hver:∀ i j,jy sg i = some j → S.ver j = T.ver j:=fun i j e=>((hA.2 j (hS _ (qW e))).2).symm
 have hver2:∀ i j,iG sg j = some i → S.ver j = T.ver j:=fun i j e=>((hA.2 j (hS _ (ou e))).2).symm
 have hlent:∀ b,gl g sg b = true → ∃ j i,g.ow b = some j ∧ iG sg j = some i:=fun b hb=>by
  unfold gl at hb
  cases ho:g.ow b with
  | none=>rw [ho] at hb;cases hb
  | some j=>
   rw [ho] at hb
   cases hl:iG sg j with
   | none=>rw [Option.bind_some,hl] at hb;cases hb
   | some i=>exact ⟨j,i,rfl,hl⟩
 have hunl:∀ b,gl g sg b = false → ∀ j i,g.ow b = some j → iG sg j ≠ some i:=fun b hb j i h1 h2=>by
  unfold gl at hb
  rw [h1,Option.bind_some,h2] at hb;cases hb
 refine KT (caps:=caps) (R:=fun v w'=>∃ g',O0 (xP C g w sg) w w' g' ∧ crep (xP C g w sg) z0 g' w' v r ∧ ∀ id,brep (xP C g w sg) z0 g' w' id (cW id post)) hf.ent ho c1 ?_ ?_
 ·refine Calls.mono (hf.run (xP C g w sg) w (xs.map a.eval ++ caps) rfl (fun b h=>⟨h.1,by have:=h.2.2;exact fun e=>by rw [show gl g sg b = true from e] at this;cases this⟩) (fun b id e=>?_) (by simp [g1,c2]) ?_ (fun id=>?_)) ?_
  ·have e':(g.ow b).bind (iG sg) = some id:=e
   refine ⟨?_,show gl g sg b = true by unfold gl;rw [e'];rfl⟩
   cases ho:g.ow b with
   | none=>rw [ho] at e';cases e'
   | some j=>exact (hR.dom b j ho).1
  ·intro i v c hi hc
   rcases Nat.lt_or_ge i As.length with hlt|hge
   ·rw [List.getElem?_append_left (by omega)] at hi
    rw [List.getElem?_append_left hlt] at hc
    exact g2 i v c hi hc
   ·rw [List.getElem?_append_right (by omega)] at hi
    rw [List.getElem?_append_right hge,List.getElem?_map] at hc
    rw [g1] at hi
    cases hcc:cs[i - As.length]? with
    | none=>rw [hcc] at hc;cases hc
    | some c'=>
     rw [hcc] at hc;cases hc
     rw [jT (old':=T.ver) (new':=z0) (fun i j e=>hver2 j i e) (fun _ _ _=>rfl)]
     exact kF (fun b _ h=>rM b h) (fun _ b _ h=>xQ b h) (xR hok) (c3 _ v c' hi hcc)
  ·rcases hpre.look id with q|⟨j,hj,q⟩
   ·rw [q];trivial
   ·rw [q,pz (old':=T.ver) (new':=z0) (fun i j e=>hver2 j i e) (fun _ _ _=>rfl)]
    have h3:=hR.blks j
    rw [(hA.2 j (hS _ (qW hj))).1] at h3
    exact ot (fun b _ h=>rM b h) (fun _ b _ h=>xQ b h) (xR hok) KR (fun b i e=>(hR.dom b i e).1) ((iQ hok).1 hj) h3
  ·rintro e w' ⟨v,g',h1,h2⟩
   exact ⟨v,h1,g',h2⟩
 ·rintro v w' ⟨gf,hfr,hr,hb⟩
  let g':Gh:=⟨fun b=>if b < w.heap.size ∧ gl g sg b = false then g.ow b else (gf.ow b).bind (jy sg),fun j=>match iG sg j with|some i=>gf.ph i|none=>g.ph j,fun j=>match iG sg j with|some i=>gf.rh i|none=>g.rh j⟩
  have how':∀ b,g'.ow b = if b < w.heap.size ∧ gl g sg b = false then g.ow b else (gf.ow b).bind (jy sg):=fun _=>rfl
  have hρ:∀ i j,jy sg i = some j → g'.ph j = gf.ph i ∧ g'.rh j = gf.rh i:=fun i j e=>by
   have:=(iQ hok).1 e
   refine ⟨?_,?_⟩
   ·show (match iG sg j with|some i=>gf.ph i|none=>g.ph j) = _
    rw [this]
   ·show (match iG sg j with|some i=>gf.rh i|none=>g.rh j) = _
    rw [this]
  have hsame:∀ j,iG sg j = none → g'.ph j = g.ph j ∧ g'.rh j = g.rh j:=fun j e=>by
   refine ⟨?_,?_⟩
   ·show (match iG sg j with|some i=>gf.ph i|none=>g.ph j) = _
    rw [e]
   ·show (match iG sg j with|some i=>gf.rh i|none=>g.rh j) = _
    rw [e]
  have hgf:∀ b i,gf.ow b = some i → ¬ (b < w.heap.size ∧ gl g sg b = false):=fun b i e h=>by
   rcases (hfr.dom b i e).2 with q|q
   ·omega
   ·rw [show gl g sg b = true from q] at h;cases h.2
  have hN:∀ b,b < w'.heap.size → g'.N C b → gf.N (xP C g w sg) b:=fun b hbw h=>by
   rcases h with h|h
   ·have h1:=hR.n0 b h
    have h2:=hR.size
    have hno:g.ow b = none:=by
     cases ho:g.ow b with
     | none=>rfl
     | some j=>
      rcases (hR.dom b j ho).2 with q|q
      ·omega
      ·exact absurd q (hR.n0l b h)
    exact .inl ⟨by omega,.inl h,by unfold gl;rw [hno];rfl⟩
   ·rw [how'] at h
    split at h
    ·rename_i hc
     exact .inl ⟨hc.1,.inr h,hc.2⟩
    ·refine .inr (fun e=>h ?_)
     rw [e];rfl
  have hst:ln C (fun i=>ub (lF S post sg sg) i ≠ none) T.ver (T.app o.dst (r.mp false (jy sg) z0 (tG S.ver sg)) (lF S post sg sg)).ver g g' w w':=by
   have hub:∀ j,ub (lF S post sg sg) j ≠ none ↔ ∃ i,iG sg j = some i:=fun j=>by
    rw [oz]
    cases iG sg j <;> simp
   have hnot:∀ b,(∀ i,ub (lF S post sg sg) i ≠ none → g.ow b ≠ some i) → gl g sg b = false:=fun b hn=>by
    cases hb:gl g sg b with
    | false=>rfl
    | true=>
     obtain ⟨j,i,h1,h2⟩:=hlent b hb
     exact absurd h1 (hn j ((hub j).2 ⟨i,h2⟩))
   refine ⟨hfr.size,fun b hb' hn=>hfr.old b hb' (fun e=>by have q:=hnot b hn;rw [show gl g sg b = true from e] at q;cases q),fun b hb' hn=>?_,fun b hb' hn=>?_,fun b id e=>?_,fun j=>?_,fun j hj=>?_,fun j hj=>?_,hfr.os,hfr.tape,hfr.output⟩
   ·rw [how',if_pos ⟨hb',hnot b hn⟩]
   ·rw [how'] at hn
    split at hn
    ·exact hn
    ·rename_i hc
     have:gl g sg b = true:=by
      cases h:gl g sg b with
      | true=>rfl
      | false=>exact absurd ⟨hb',h⟩ hc
     obtain ⟨j,i,h1,_⟩:=hlent b this
     rw [h1];simp
   ·rw [how'] at e
    split at e
    ·exact ⟨Nat.lt_of_lt_of_le (hR.dom b id e).1 hfr.size,(hR.dom b id e).2⟩
    ·cases ho:gf.ow b with
     | none=>rw [ho] at e;cases e
     | some i=>
      obtain ⟨d1,d2⟩:=hfr.dom b i ho
      refine ⟨d1,?_⟩
      rcases d2 with q|q
      ·exact .inl (Nat.le_trans hR.size q)
      ·obtain ⟨j,i',h1,_⟩:=hlent b q
       exact (hR.dom b j h1).2
   ·rw [St.app_ver,oz]
    cases hl:iG sg j with
    | none=>exact .inl rfl
    | some i=>
     simp only [Option.map_some,Option.getD_some,tG,hl]
     rw [hver2 i j hl]
     cases cV i with
     | true=>exact .inl rfl
     | false=>exact .inr ⟨by simp,by simp⟩
   ·rw [St.app_ver,oz] at hj
    cases hl:iG sg j with
    | none=>exact hsame j hl
    | some i=>
     rw [hl] at hj
     simp only [Option.map_some,Option.getD_some,tG,hl] at hj
     rw [hver2 i j hl] at hj
     cases hx:cV i with
     | false=>rw [hx] at hj;simp at hj
     | true=>
      have k:=hfr.keep i hx
      have s:=xR (g:=g) hok j i hl
      have q:=hρ i j ((iQ hok).2 hl)
      exact ⟨q.1.trans (k.1.trans s.1),q.2.trans (k.2.trans s.2)⟩
   ·cases hl:iG sg j with
    | none=>exact hsame j hl
    | some i=>
     have hx:cV i = true:=by
      have:=hfx _ (ou hl)
      simpa [hj] using this
     have k:=hfr.keep i hx
     have s:=xR (g:=g) hok j i hl
     have q:=hρ i j ((iQ hok).2 hl)
     exact ⟨q.1.trans (k.1.trans s.1),q.2.trans (k.2.trans s.2)⟩
  have hnew:∀ i j,jy sg i = some j → tG S.ver sg j = (T.app o.dst (r.mp false (jy sg) z0 (tG S.ver sg)) (lF S post sg sg)).ver j:=fun i j e=>by
   rw [St.app_ver,oz,(iQ hok).1 e];rfl
  refine ⟨g',hR.appL hp.dOk hst ?_ (fun j v B hu=>?_)⟩
  ·have hc:=kF (bo:=false) (vr:=z0) (vr':=(T.app o.dst (r.mp false (jy sg) z0 (tG S.ver sg)) (lF S post sg sg)).ver) hN (fun h=>by cases h) hρ hr
   rw [← jT (old:=z0) (new:=tG S.ver sg) (fun _ _ _=>rfl) hnew] at hc
   exact hc
  ·rw [oz] at hu
   cases hl:iG sg j with
   | none=>rw [hl] at hu;cases hu
   | some i=>
    rw [hl] at hu;cases hu
    rw [pz (old':=z0) (fun _ _ _=>rfl) hnew]
    exact ot (bo:=false) hN (fun h=>by cases h) hρ (fun b i j h1 h2=>by rw [how',if_neg (hgf b i h1),h1];exact h2) (fun b i e=>(hfr.dom b i e).1) ((iQ hok).2 hl) (hb i)
theorem Am {f:FuncId}:vD F S (.func f) f []:=fun n C T g a w hA hR=>⟨[],rfl,rfl,fun j v c h=>by simp at h⟩
theorem xS {x0:Operand} {f:FuncId} (hx:S.opd x0 = .per (av (.func (.func f) #[] #[]))) (hF:∀ k ∈ aA x0,k ∈ F):vD F S x0 f []:=fun n C T g a w hA hR=>
 ⟨[],aV hA hF hR hx,rfl,fun j v c h=>by simp at h⟩
end
end Go.Proofs.YtliiahjpiagdkaaGreat
namespace Go.Proofs.YtliiahjpiagdkaaGreat
open Go.RowKit
section
variable {P:Program} {n:Nat} {ops:Array Oper} {o:Oper} {F:List Nat} {S T:St} {C:Ctx} {g:Gh} {a:Act} {w w':World} {t:Nat}
def rN:List Cnt → Cnt
 | []=>.aggN
 | c :: r=>.aggK c (rN r)
def jF:Cnt → Option (List Cnt)
 | .aggN=>some []
 | .aggK c r=>(jF r).map (c :: ·)
 | _=>none
theorem lG:∀ {c:Cnt} {l:List Cnt},jF c = some l → c = rN l:=by
 intro c
 induction c with
 | aggN=>intro l h;cases h;rfl
 | aggK c r _ ih2=>
  intro l h
  simp only [jF] at h
  cases hr:jF r with
  | none=>rw [hr] at h;cases h
  | some l'=>rw [hr] at h;cases h;rw [ih2 hr];rfl
 | _=>intro l h;cases h
def lH (C:Ctx) (vr:Nat → Nat) (g:Gh) (w:World) (vs:List Value) (cs:List Cnt):Prop:=
 vs.length = cs.length ∧ ∀ (j:Nat) (c:Cnt),cs[j]? = some c → ∃ y,vs[j]? = some y ∧ y.oneCell' = true ∧ crep C vr g w y c
theorem lI {vr:Nat → Nat}:∀ {cs:List Cnt} {v:Value},crep C vr g w v (rN cs) ↔ ∃ vs:List Value,v = .agg vs.toArray ∧ lH C vr g w vs cs:=by
 intro cs
 induction cs with
 | nil=>
  intro v
  constructor
  ·intro h;exact ⟨[],h,rfl,fun j c hj=>by simp at hj⟩
  ·rintro ⟨vs,h,h1,_⟩
   obtain rfl:vs = []:=List.eq_nil_of_length_eq_zero (by simpa using h1)
   exact h
 | cons c cs ih=>
  intro v
  constructor
  ·rintro ⟨x,vs,h,h1,h2,h3⟩
   obtain ⟨vs',e,q1,q2⟩:=ih.1 h3
   have:vs = vs':=by simpa using e
   subst this
   refine ⟨x :: vs,h,by simp [q1],fun j c' hj=>?_⟩
   cases j with
   | zero=>simp at hj;subst hj;exact ⟨x,rfl,h1,h2⟩
   | succ j=>exact q2 j c' (by simpa using hj)
  ·rintro ⟨vs,h,q1,q2⟩
   cases vs with
   | nil=>simp at q1
   | cons x vs=>
    obtain ⟨y,r1,r2,r3⟩:=q2 0 c rfl
    simp at r1;subst r1
    exact ⟨x,vs,h,r2,r3,ih.2 ⟨vs,rfl,by simpa using q1,fun j c' hj=>q2 (j + 1) c' (by simpa using hj)⟩⟩
def lJ (F:List Nat) (S:St) (c:Cnt):Prop:=∀ (n:Nat) (C:Ctx) (T:St) (g:Gh) (a:Act) (w:World) (v:Value),dd F T S → RG C n T g a w → crep C T.ver g w v c → v.oneCell' = true ∧ v.cells = #[v]
theorem Gn {A:PV} (h:na A):lJ F S (.per A):=fun _ _ _ _ _ _ _ _ _ hc=>h _ _ _ hc
theorem Gp {id vr off:Nat} (hv:S.ver id = vr) (hF:2 * id + 1 ∈ F):lJ F S (.ptr id vr off):=fun n C T g a w v hA hR hc=>by
 rw [hc.2 (by rw [(hA.2 id hF).2,hv])];exact ⟨rfl,rfl⟩
theorem Gq {id vr e k:Nat} {es:List (List PV)} (hv:S.ver id = vr) (hb:S.blk id = .row e k es) (hF:2 * id + 1 ∈ F):lJ F S (.row id vr):=fun n C T g a w v hA hR hc=>by
 rw [hc.2 (by rw [(hA.2 id hF).2,hv])]
 have h:=hR.blks id
 rw [(hA.2 id hF).1,hb] at h
 rcases h with ⟨h1,_⟩|⟨cap,cs,h1,_⟩ <;> (rw [h1];exact ⟨rfl,rfl⟩)
theorem Gr {id vr:Nat} {A:OV} (hv:S.ver id = vr) (hb:S.blk id = .obj A) (hF:2 * id + 1 ∈ F):lJ F S (.row id vr):=fun n C T g a w v hA hR hc=>by
 rw [hc.2 (by rw [(hA.2 id hF).2,hv])]
 have h:=hR.blks id
 rw [(hA.2 id hF).1,hb] at h
 exact A.one h
theorem DQ {f:FuncId} {c:Cnt}:lJ F S (.clo1 f c):=fun n C T g a w v hA hR hc=>by obtain ⟨x,e,_⟩:=hc;rw [e];exact ⟨rfl,rfl⟩
theorem DR {f:FuncId} {c d:Cnt}:lJ F S (.clo2 f c d):=fun n C T g a w v hA hR hc=>by obtain ⟨x,y,e,_⟩:=hc;rw [e];exact ⟨rfl,rfl⟩
theorem DS {f:FuncId} {c d e:Cnt}:lJ F S (.clo3 f c d e):=fun n C T g a w v hA hR hc=>by obtain ⟨x,y,z,e,_⟩:=hc;rw [e];exact ⟨rfl,rfl⟩
theorem Gs {e:TypeId} {x:Operand} {c:Cnt} (hp:Pl n o t) (ho:o.op = .box e x) (hx:S.opd x = c) (hF:∀ k ∈ aA x,k ∈ F) (hFt:2 * t + 1 ∈ F) (h1:lJ F S c) :
 aw n P ops o F (.ptr t (S.ver t + 1) 0) [(t,S.ver t + 1,.box e [c])] S:=
 rC hp hFt fun C T g a w hA hR=>by
  have h:=aD (x:=x) hA hF hR
  rw [hx] at h
  obtain ⟨g1,g2⟩:=h1 _ _ _ _ _ _ _ hA hR h
  refine ⟨.pointer (some ⟨w.heap.size,0,none⟩),w.alloc (.cells #[a.eval x] e),w.heap.size,?_,(bw.refl w).alloc _,Nat.le_refl _,ie _ _,fun vr' hvr hst=>⟨?_,?_⟩⟩
  ·simp only [execOp,ho,Instr.box,newVar,newRow,g2,newObj,Sem.run_bind,Sem.run_pure]
   rfl
  ·exact gk (by rw [hvr,if_pos rfl]) rfl
  ·refine lz rfl (fun j c' hj=>?_)
   cases j with
   | zero=>simp at hj;subst hj;exact ⟨_,rfl,g1,hst.crep h⟩
   | succ j=>simp at hj
theorem xT {e:TypeId} {x:Operand} {cs:List Cnt} (hp:Pl n o t) (ho:o.op = .box e x) (hx:jF (S.opd x) = some cs) :
 aw n P ops o ((2 * t + 1) :: aA x) (.ptr t (S.ver t + 1) 0) [(t,S.ver t + 1,.box e cs)] S:=
 rC hp (by simp) fun C T g a w hA hR=>by
  have h:=aD (x:=x) hA (fun k h=>by simp [h]) hR
  rw [lG hx] at h
  obtain ⟨vs,hv,h1,h2⟩:=lI.1 h
  refine ⟨.pointer (some ⟨w.heap.size,0,none⟩),w.alloc (.cells vs.toArray e),w.heap.size,?_,(bw.refl w).alloc _,Nat.le_refl _,ie _ _,fun vr' hvr hst=>⟨?_,?_⟩⟩
  ·simp only [execOp,ho,hv,Instr.box,newVar,newRow,Value.cells,newObj,Sem.run_bind,Sem.run_pure]
   rfl
  ·exact gk (by rw [hvr,if_pos rfl]) rfl
  ·refine lz (by simp [h1]) (fun j c hj=>?_)
   obtain ⟨y,g1,g2,g3⟩:=h2 j c hj
   exact ⟨y,by simpa using g1,g2,hst.crep g3⟩
theorem nd {ty:TypeId} {x y:Operand} {id vr off k:Nat} {e:TypeId} {cells new:List Cnt} (hp:Dx o) (ho:o.op = .store ty x y) (hk:P.cellsOf ty = k) (h0:Nat.blt 0 k = true)
 (hx:S.opd x = .ptr id vr off) (hv:S.ver id = vr) (hb:S.blk id = .box e cells) (hl:Nat.ble (off + k) cells.length = true) (hnl:new.length = k) (hF0:2 * id + 1 ∈ F) (hFx:∀ k ∈ aA x,k ∈ F)
 (hy:∀ C T g a w,dd F T S → RG C n T g a w → (a.eval y).cells.size = k ∧ ∀ (j:Nat) (c:Cnt),new[j]? = some c → ∃ u,(a.eval y).cells[j]? = some u ∧ u.oneCell' = true ∧ crep C T.ver g w u c) :
 aw n P ops o F .any [(id,vr,.box e (iM cells off new))] S:=by
 refine ⟨?_⟩
 intro C T hA a w ⟨g,hR⟩
 obtain ⟨h1,cs,h2,h3,h4,h5⟩:=pn hA hFx hF0 hR hx hv hb
 obtain ⟨hys,hyc⟩:=hy C T g a w hA hR
 have h0:=Nat.le_of_ble_eq_true h0
 have hl:=Nat.le_of_ble_eq_true hl
 have hvt:=(hA.2 id hF0).2
 unfold ia
 rw [if_pos (by simp [Region.wanted,hp.1])]
 unfold Oper.wp
 have hone:∀ u ∈ (a.eval y).cells.toList,u.oneCell' = true:=by
  intro u hu
  obtain ⟨j,hj,rfl⟩:=List.getElem_of_mem hu
  have hj':j < new.length:=by rw [hnl,← hys];simpa using hj
  obtain ⟨u',g1,g2,_⟩:=hyc j new[j] (by simp [hj'])
  have:(a.eval y).cells.toList[j] = u':=by
   have:=g1;simp at hj;rw [Array.getElem?_eq_getElem hj] at this;simpa using this
  rw [this];exact g2
 have hrun:=lB (P:=P) (ty:=ty) (off:=off) h2 (by rw [hk,hys]) (by omega) (by omega) hone
 have hex:(execOp a.eval o).run P w = .ok .skip (w.setRow (g.ph id) (cs.toList.take off ++ (a.eval y).cells.toList ++ cs.toList.drop (off + (a.eval y).cells.size)).toArray):=by
  simp only [execOp,ho,h1,Sem.run_bind,hrun];rfl
 rw [hex,Oper.upon_skip]
 have hst:=qQ (cs':=(cs.toList.take off ++ (a.eval y).cells.toList ++ cs.toList.drop (off + (a.eval y).cells.size)).toArray) hR rfl h2 h3
 have hver:(T.app o.dst .any [(id,vr,.box e (iM cells off new))]).ver = T.ver:=by
  funext i
  rw [St.app_some_ver]
  split
  ·rename_i h;subst h;rw [hvt,hv]
  ·rfl
 refine ⟨g,hR.app1 (c:=.any) (fun t h=>by rw [hp.2] at h;cases h) (by rw [hver];exact hst) trivial ?_⟩
 rw [hver]
 refine ⟨_,setRow_heap _ _ _ _ _ _ h2,h3,?_,fun j c hj=>?_⟩
 ·simp [iM];omega
 ·unfold iM at hj
  have hta:(cells.take off).length = off:=by simp;omega
  have htb:(cs.toList.take off).length = off:=by simp;omega
  rcases Nat.lt_or_ge j off with hlt|hge
  ·rw [List.getElem?_append_left (by omega),List.getElem?_take,if_pos hlt] at hj
   obtain ⟨u,q1,q2,q3⟩:=h5 j c hj
   refine ⟨u,?_,q2,hst.crep q3⟩
   rw [List.getElem?_toArray,List.append_assoc,List.getElem?_append_left (by omega),List.getElem?_take,if_pos hlt]
   simpa using q1
  ·rw [List.getElem?_append_right (by omega),hta] at hj
   rcases Nat.lt_or_ge j (off + k) with hlt|hge2
   ·rw [List.getElem?_append_left (by omega)] at hj
    obtain ⟨u,q1,q2,q3⟩:=hyc _ c hj
    refine ⟨u,?_,q2,hst.crep q3⟩
    rw [List.getElem?_toArray,List.append_assoc,List.getElem?_append_right (by omega),htb,List.getElem?_append_left (by simp;omega)]
    simpa using q1
   ·rw [List.getElem?_append_right (by omega),hnl,List.getElem?_drop] at hj
    obtain ⟨u,q1,q2,q3⟩:=h5 _ c hj
    refine ⟨u,?_,q2,hst.crep q3⟩
    rw [List.getElem?_toArray,List.append_assoc,List.getElem?_append_right (by omega),htb,List.getElem?_append_right (by simp;omega),List.getElem?_drop]
    simp only [Array.length_toList,hys,Array.getElem?_toList]
    rw [← q1]
theorem An {ty:TypeId} {x y:Operand} {id vr off:Nat} {e:TypeId} {cells:List Cnt} {c:Cnt} (hp:Dx o) (ho:o.op = .store ty x y) (hk:P.cellsOf ty = 1)
 (hx:S.opd x = .ptr id vr off) (hv:S.ver id = vr) (hb:S.blk id = .box e cells) (hl:Nat.ble (off + 1) cells.length = true) (hy:S.opd y = c) (hF0:2 * id + 1 ∈ F) (hFx:∀ k ∈ aA x,k ∈ F) (hFy:∀ k ∈ aA y,k ∈ F) (h1:lJ F S c) :
 aw n P ops o F .any [(id,vr,.box e (iM cells off [c]))] S:=
 nd hp ho hk rfl hx hv hb hl rfl hF0 hFx fun C T g a w hA hR=>by
  have h:=aD (x:=y) hA hFy hR
  rw [hy] at h
  obtain ⟨g1,g2⟩:=h1 _ _ _ _ _ _ _ hA hR h
  rw [g2]
  refine ⟨rfl,fun j c' hj=>?_⟩
  cases j with
  | zero=>simp at hj;subst hj;exact ⟨_,rfl,g1,h⟩
  | succ j=>simp at hj
theorem tP {ty:TypeId} {x y:Operand} {id vr off k:Nat} {e:TypeId} {cells cs:List Cnt} (hp:Dx o) (ho:o.op = .store ty x y) (hk:P.cellsOf ty = k) (h0:Nat.blt 0 k = true)
 (hx:S.opd x = .ptr id vr off) (hv:S.ver id = vr) (hb:S.blk id = .box e cells) (hl:Nat.ble (off + k) cells.length = true) (hy:jF (S.opd y) = some cs) (hn:Nat.beq cs.length k = true) :
 aw n P ops o ((2 * id + 1) :: (aA x ++ aA y)) .any [(id,vr,.box e (iM cells off cs))] S:=
 nd hp ho hk h0 hx hv hb hl (aG.1 hn) (by simp) (fun k h=>by simp [h]) fun C T g a w hA hR=>by
  have h:=aD (x:=y) hA (fun k h=>by simp [h]) hR
  rw [lG hy] at h
  obtain ⟨vs,hv,q1,q2⟩:=lI.1 h
  rw [hv]
  refine ⟨by show vs.toArray.size = k;have:=aG.1 hn;simp;omega,fun j c hj=>?_⟩
  obtain ⟨y',s1,s2,s3⟩:=q2 j c hj
  exact ⟨y',by show vs.toArray[j]? = _;simpa using s1,s2,s3⟩
theorem Gu {ty:TypeId} {d:TypeDesc} {x:Operand} {id vr off k:Nat} {e:TypeId} {cells:List Cnt} (hp:Pl n o t) (ho:o.op = .load ty x) (hT:P.underlying ty = some d) (hd:fV d = true) (hk:P.cellsOf ty = k) (h0:Nat.blt 0 k = true)
 (hx:S.opd x = .ptr id vr off) (hv:S.ver id = vr) (hb:S.blk id = .box e cells) (hl:Nat.ble (off + k) cells.length = true):aw n P ops o ((2 * id + 1) :: aA x) (rN ((cells.drop off).take k)) [] S:=
 aM hp fun C T g a w hA hR=>by
  obtain ⟨h1,cs,h2,_,h4,h5⟩:=pn hA (fun k h=>by simp [h]) (by simp) hR hx hv hb
  have h0:=Nat.le_of_ble_eq_true h0
  have hl:=Nat.le_of_ble_eq_true hl
  have hcell:∀ (j:Nat) (u:Value),((cs.toList.drop off).take k)[j]? = some u → w.cell? ⟨g.ph id,off + j,none⟩ = some u:=by
   intro j u hj
   rw [List.getElem?_take] at hj
   split at hj
   ·rw [List.getElem?_drop] at hj
    rw [eo h2];simpa using hj
   ·cases hj
  have hlen:((cs.toList.drop off).take k).length = k:=by simp;omega
  refine ⟨.agg ((cs.toList.drop off).take k).toArray,?_,lI.2 ⟨_,rfl,by simp;omega,fun j c hj=>?_⟩⟩
  ·simp only [execOp,ho,h1,Sem.run_bind,el (b:=g.ph id) (o:=off) hT hd (by rw [hk,hlen]) (by omega) hcell];rfl
  ·rw [List.getElem?_take] at hj
   split at hj
   ·rename_i hjk
    rw [List.getElem?_drop] at hj
    obtain ⟨y,q1,q2,q3⟩:=h5 _ _ hj
    exact ⟨y,by rw [List.getElem?_take,if_pos hjk,List.getElem?_drop];simpa using q1,q2,q3⟩
   ·cases hj
def KU (zs:List Cnt) (off:Nat) (ps:List Cnt):List Cnt:=zs.take off ++ (ps ++ zs.drop (off + ps.length))
def xU (place:Nat → Option (Nat × Nat)) (zs:List Cnt):List (Nat × List Cnt) → Option (List Cnt)
 | []=>some zs
 | (i,ps) :: rest=>match place i with
  | none=>none
  | some (off,size)=>bif Nat.beq ps.length size && Nat.ble (off + size) zs.length then xU place (KU zs off ps) rest else none
theorem Ao {vr:Nat → Nat} {cs:Array Value} {zs ps:List Cnt} {off:Nat} {vs:Array Value} (h:lH C vr g w cs.toList zs) (hv:lH C vr g w vs.toList ps) (hl:off + ps.length ≤ zs.length) :
 lH C vr g w (vs.zipIdx.foldl (fun cs (c,j)=>cs.setIfInBounds (off + j) c) cs).toList (KU zs off ps):=by
 have hvs:vs.size = ps.length:=by simpa using hv.1
 have hcs:cs.size = zs.length:=by simpa using h.1
 have hz:vs.zipIdx.foldl (fun cs (c,j)=>cs.setIfInBounds (off + j) c) cs = (vs.toList.zipIdx 0).foldl (fun cs (c,j)=>cs.setIfInBounds (off + j) c) cs:=by
  rw [← Array.foldl_toList,Array.toList_zipIdx]
 rw [hz]
 have hf:=fun i=>ui vs.toList 0 off cs i (by simp;omega)
 refine ⟨by rw [Array.length_toList,(hf 0).1];simp [KU];omega,fun j A hj=>?_⟩
 rw [Array.getElem?_toList,(hf j).2]
 unfold KU at hj
 have hta:(zs.take off).length = off:=by simp;omega
 simp only [Nat.add_zero,Array.length_toList]
 rcases Nat.lt_or_ge j off with hlt|hge
 ·rw [List.getElem?_append_left (by omega),List.getElem?_take,if_pos hlt] at hj
  rw [if_neg (by omega)]
  have:=h.2 j A hj
  simpa using this
 ·rw [List.getElem?_append_right (by omega),hta] at hj
  rcases Nat.lt_or_ge j (off + ps.length) with hlt|hge2
  ·rw [List.getElem?_append_left (by omega)] at hj
   rw [if_pos ⟨by omega,by omega⟩]
   exact hv.2 _ A hj
  ·rw [List.getElem?_append_right (by omega),List.getElem?_drop] at hj
   rw [if_neg (by omega)]
   have:=h.2 _ A hj
   rw [show off + ps.length + (j - off - ps.length) = j by omega] at this
   simpa using this
def Gv (F:List Nat) (S:St) (x:Operand) (ps:List Cnt):Prop:=(∃ As,S.opd x = .per (bX As) ∧ ps = As.map .per) ∨ (∃ c,S.opd x = c ∧ lJ F S c ∧ ps = [c]) ∨ jF (S.opd x) = some ps
inductive pA (F:List Nat) (S:St):List (Nat × Operand) → List (Nat × List Cnt) → Prop
 | nil:pA F S [] []
 | cons {i:Nat} {x:Operand} {ps:List Cnt} {l:List (Nat × Operand)} {l':List (Nat × List Cnt)} (h:Gv F S x ps) (k:pA F S l l'):pA F S ((i,x) :: l) ((i,ps) :: l')
theorem Gv.rep {x:Operand} {ps:List Cnt} (h:Gv F S x ps) (hA:dd F T S) (hF:∀ k ∈ aA x,k ∈ F) (hR:RG C n T g a w):lH C T.ver g w (a.eval x).cells.toList ps:=by
 have hr:=aD (x:=x) hA hF hR
 rcases h with ⟨As,h,rfl⟩|⟨c,h,h1,rfl⟩|h
 ·rw [h] at hr
  obtain ⟨vs,hv,hc⟩:=hr
  rw [hv]
  refine ⟨by show vs.toList.length = _;simpa using hc.1,fun j c hj=>?_⟩
  rw [List.getElem?_map] at hj
  cases hA':As[j]? with
  | none=>rw [hA'] at hj;cases hj
  | some A=>
   rw [hA'] at hj;cases hj
   obtain ⟨y,q1,q2,q3⟩:=hc.2 j A hA'
   exact ⟨y,by show vs.toList[j]? = _;simpa using q1,q2,q3⟩
 ·rw [h] at hr
  obtain ⟨q1,q2⟩:=h1 _ _ _ _ _ _ _ hA hR hr
  rw [q2]
  refine ⟨rfl,fun j c' hj=>?_⟩
  cases j with
  | zero=>simp at hj;subst hj;exact ⟨_,rfl,q1,hr⟩
  | succ j=>simp at hj
 ·rw [lG h] at hr
  obtain ⟨vs,hv,hc⟩:=lI.1 hr
  rw [hv];exact hc
theorem DU {place:Nat → Option (Nat × Nat)} {parts:List (Nat × Operand)} {pps:List (Nat × List Cnt)} (h:pA F S parts pps) (hA:dd F T S) (hF:∀ k ∈ fW parts,k ∈ F) (hR:RG C n T g a w) :
 ∀ {cells:Array Value} {zs cs:List Cnt},lH C T.ver g w cells.toList zs → xU place zs pps = some cs → ∃ out,Instr.fill place cells (parts.map fun (i,x)=>(i,a.eval x)) = some out ∧ lH C T.ver g w out.toList cs:=by
 induction h with
 | nil=>intro cells zs cs hc hf;cases hf;exact ⟨cells,rfl,hc⟩
 | @cons i x ps l l' h k ih=>
  intro cells zs cs hc hf
  have hx:=h.rep hA (fun k hk=>hF k (by simp [fW,hk])) hR
  unfold xU at hf
  cases hp:place i with
  | none=>simp only [hp] at hf;cases hf
  | some p=>
   obtain ⟨off,size⟩:=p
   simp only [hp] at hf
   cases hb:(Nat.beq ps.length size && Nat.ble (off + size) zs.length) with
   | false=>rw [hb] at hf;cases hf
   | true=>
    rw [hb] at hf
    simp only [cond_true] at hf
    rw [Bool.and_eq_true] at hb
    have h1:=aG.1 hb.1
    have h2:=Nat.le_of_ble_eq_true hb.2
    have hcs:cells.size = zs.length:=by simpa using hc.1
    have hxs:(a.eval x).cells.size = ps.length:=by simpa using hx.1
    obtain ⟨out,q1,q2⟩:=ih (fun k hk=>hF k (by simp only [fW,List.flatMap_cons,List.mem_append];exact .inr hk)) (Ao (off:=off) hc hx (by omega)) hf
    refine ⟨out,?_,q2⟩
    simp only [List.map_cons,Instr.fill,hp]
    rw [if_neg (by simp only [ne_eq,gt_iff_lt,Bool.or_eq_true,decide_eq_true_eq,not_or,Decidable.not_not];exact ⟨by omega,by omega⟩)]
    exact q1
theorem xV {vr:Nat → Nat} {vs:List Value} (h:vs.all (·.oneCell') = true):lH C vr g w vs (vs.map FW):=by
 refine ⟨by simp,fun j c hj=>?_⟩
 rw [List.getElem?_map] at hj
 cases hv:vs[j]? with
 | none=>rw [hv] at hj;cases hj
 | some y=>
  rw [hv] at hj;cases hj
  rw [List.all_eq_true] at h
  exact ⟨y,rfl,h y (List.mem_of_getElem? hv),rfl⟩
theorem DV {ty:TypeId} {z:Value} {ls:List (Nat × Nat)} {parts:List (Nat × Operand)} {pps:List (Nat × List Cnt)} {cs:List Cnt} (hp:Pl n o t) (ho:o.op = .build ty parts.toArray) (hl:xA P ty = some ls) (hz:(P.info? ty).bind (·.zero) = some z)
 (h1:z.cells.toList.all (·.oneCell') = true) (hF:∀ k ∈ fW parts,k ∈ F) (hpt:pA F S parts pps) (hf:xU (fun i=>ls[i]?) (z.cells.toList.map FW) pps = some cs):aw n P ops o F (rN cs) [] S:=
 aM hp fun C T g a w hA hR=>by
  obtain ⟨out,r1,r2⟩:=DU hpt hA hF hR (xV h1) hf
  refine ⟨.agg out,?_,lI.2 ⟨out.toList,by simp,r2⟩⟩
  simp only [execOp,ho,Sem.run_bind]
  rw [run_build w ty _ out (by rw [show ((parts.toArray.map fun (x:Nat × Operand)=>(x.1,a.eval x.2)).toList) = parts.map fun (i,x)=>(i,a.eval x) by simp];exact xB hl hz r1)]
  rfl
theorem KV {x:Operand} {id vr off:Nat} (hp:Pl n o t) (ho:o.op = .nilCheck x) (hx:S.opd x = .ptr id vr off) (hv:S.ver id = vr):aw n P ops o ((2 * id + 1) :: aA x) (.ptr id vr off) [] S:=
 aM hp fun C T g a w hA hR=>by
  have h:=aD (x:=x) hA (fun k h=>by simp [h]) hR
  rw [hx] at h
  have hv':=(hA.2 id (by simp)).2
  have hev:=h.2 (by omega)
  exact ⟨a.eval x,by simp only [execOp,ho,hev];rfl,h⟩
theorem Ap {x:Operand} {cs:List PV} (hp:Pl n o t) (ho:o.op = .nilCheck x) (hx:S.opd x = .per (dw cs)):aw n P ops o (aA x) (.per (dw cs)) [] S:=
 aM hp fun C T g a w hA hR=>by
  have h:=aD (x:=x) hA (fun k h=>by simp [h]) hR
  rw [hx] at h
  obtain ⟨b,q,hev,_⟩:=h
  exact ⟨a.eval x,by simp only [execOp,ho,hev];rfl,by rw [← hx];exact aD (x:=x) hA (fun k h=>by simp [h]) hR⟩
def mI (F:List Nat) (S:St) (x:Operand):Prop:=∀ (n:Nat) (C:Ctx) (T:St) (g:Gh) (a:Act) (w:World),dd F T S → RG C n T g a w → ∃ ad,a.eval x = .pointer (some ad)
theorem Gx {x:Operand} {id vr off:Nat} (hx:S.opd x = .ptr id vr off) (hv:S.ver id = vr):mI ((2 * id + 1) :: aA x) S x:=fun n C T g a w hA hR=>by
 have h:=aD (x:=x) hA (fun k h=>by simp [h]) hR
 rw [hx] at h
 have hv':=(hA.2 id (by simp)).2
 exact ⟨_,h.2 (by omega)⟩
theorem MX {x:Operand} {cs:List PV} (hx:S.opd x = .per (dw cs)):mI (aA x) S x:=fun n C T g a w hA hR=>by
 have h:=aD (x:=x) hA (fun k h=>by simp [h]) hR
 rw [hx] at h
 obtain ⟨b,q,hev,_⟩:=h
 exact ⟨_,hev⟩
theorem Cq {ty e:TypeId} {x y:Operand} {p:Option Addr} (hT:P.underlying ty = some (.pointer e)) (w:World):(do eqGuard .eql ty x y (.pointer p) (.pointer none);binOp .eql ty (.pointer p) (.pointer none)).run P w = .ok (.bool p.isNone) w:=by
 have h:P.underlying ty = some (.pointer (P.pointee ty)):=by unfold Program.pointee;rw [hT]
 rw [show eqGuard .eql ty x y (.pointer p) (.pointer none) = pure () from rfl]
 exact run_eql_pointer_nil w ty p h
theorem Cr {ty e:TypeId} {x y:Operand} {p:Option Addr} (hT:P.underlying ty = some (.pointer e)) (w:World):(do eqGuard .neq ty x y (.pointer p) (.pointer none);binOp .neq ty (.pointer p) (.pointer none)).run P w = .ok (.bool (!p.isNone)) w:=by
 have h:P.underlying ty = some (.pointer (P.pointee ty)):=by unfold Program.pointee;rw [hT]
 rw [show eqGuard .neq ty x y (.pointer p) (.pointer none) = pure () from rfl]
 exact run_neq_pointer_nil w ty p h
theorem ij {op:BinOp} {ty ty':TypeId} {x y:Operand} {u v r:Value} (ho:o.op = .binOp op ty x y ty') (hx:a.eval x = u) (hy:a.eval y = v) (h:(do eqGuard op ty x y u v;binOp op ty u v).run P w = .ok r w):(execOp a.eval o).run P w = .ok (.value r) w:=by
 simp only [execOp,ho,hx,hy,Sem.run_bind] at h ⊢
 rw [h];rfl
theorem Gy {ty ty' e:TypeId} {x:Operand} (hp:Pl n o t) (ho:o.op = .binOp .eql ty x (.const (.pointer none)) ty') (hT:P.underlying ty = some (.pointer e)) (hx:mI F S x):aw n P ops o F (bC false) [] S:=
 aM hp fun C T g a w hA hR=>by
  obtain ⟨ad,hev⟩:=hx n C T g a w hA hR
  exact ⟨.bool false,ij ho hev rfl (Cq hT w),rfl⟩
theorem Gz {ty ty' e:TypeId} {x:Operand} (hp:Pl n o t) (ho:o.op = .binOp .neq ty x (.const (.pointer none)) ty') (hT:P.underlying ty = some (.pointer e)) (hx:mI F S x):aw n P ops o F (bC true) [] S:=
 aM hp fun C T g a w hA hR=>by
  obtain ⟨ad,hev⟩:=hx n C T g a w hA hR
  exact ⟨.bool true,ij ho hev rfl (Cr hT w),rfl⟩
theorem DW {ty ty' e:TypeId} {x:Operand} (hp:Pl n o t) (ho:o.op = .binOp .eql ty x (.const (.pointer none)) ty') (hT:P.underlying ty = some (.pointer e)) (hx:S.opd x = .per (av (.pointer none))):aw n P ops o (aA x) (bC true) [] S:=
 aM hp fun C T g a w hA hR=>by
  have hev:=aV (x:=x) hA (fun k h=>by simp [h]) hR hx
  exact ⟨.bool true,ij ho hev rfl (Cq hT w),rfl⟩
theorem DX {ty ty' e:TypeId} {x:Operand} (hp:Pl n o t) (ho:o.op = .binOp .neq ty x (.const (.pointer none)) ty') (hT:P.underlying ty = some (.pointer e)) (hx:S.opd x = .per (av (.pointer none))):aw n P ops o (aA x) (bC false) [] S:=
 aM hp fun C T g a w hA hR=>by
  have hev:=aV (x:=x) hA (fun k h=>by simp [h]) hR hx
  exact ⟨.bool false,ij ho hev rfl (Cr hT w),rfl⟩
theorem KW {f:FuncId} (hp:Pl n o t) (ho:o.op = .makeFunc (.func f) #[] #[]):aw n P ops o [] (.per (av (.func (.func f) #[] #[]))) [] S:=
 aM hp fun C T g a w hA hR=>⟨_,by simp [execOp,ho,Instr.makeFunc],rfl⟩
theorem KX {f:FuncId} {x:Operand} (hp:Pl n o t) (ho:o.op = .makeFunc (.func f) #[] #[x]):aw n P ops o (aA x) (.clo1 f (S.opd x)) [] S:=
 aM hp fun C T g a w hA hR=>⟨.func (.func f) #[] #[a.eval x],by simp [execOp,ho,Instr.makeFunc],_,rfl,aD hA (fun k h=>by simp [h]) hR⟩
theorem KY {f:FuncId} {x y:Operand} (hp:Pl n o t) (ho:o.op = .makeFunc (.func f) #[] #[x,y]):aw n P ops o (aA x ++ aA y) (.clo2 f (S.opd x) (S.opd y)) [] S:=
 aM hp fun C T g a w hA hR=>⟨.func (.func f) #[] #[a.eval x,a.eval y],by simp [execOp,ho,Instr.makeFunc],_,_,rfl,aD hA (fun k h=>by simp [h]) hR,aD hA (fun k h=>by simp [h]) hR⟩
theorem KZ {f:FuncId} {x y z:Operand} (hp:Pl n o t) (ho:o.op = .makeFunc (.func f) #[] #[x,y,z]):aw n P ops o (aA x ++ aA y ++ aA z) (.clo3 f (S.opd x) (S.opd y) (S.opd z)) [] S:=
 aM hp fun C T g a w hA hR=>⟨.func (.func f) #[] #[a.eval x,a.eval y,a.eval z],by simp [execOp,ho,Instr.makeFunc],_,_,_,rfl,aD hA (fun k h=>by simp [h]) hR,aD hA (fun k h=>by simp [h]) hR,aD hA (fun k h=>by simp [h]) hR⟩
theorem Ar {ty:TypeId} {x y:Operand} {id vr e k i j m:Nat} {es es':List (List PV)} {ps As:List PV} (hp:Dx o) (ho:o.op = .store ty x y) (hk:P.cellsOf ty = m) (h0:Nat.blt 0 m = true)
 (hx:S.opd x = .ept id vr k i j) (hv:S.ver id = vr) (hb:S.blk id = .row e k es) (hi:es[i]? = some ps) (hl:Nat.ble (j + m) k = true)
 (hy:(S.opd y = .per (bX As)) ∨ ∃ A,S.opd y = .per A ∧ na A ∧ As = [A]) (hn:As.length = m) (he:es.set i (cG ps j As) = es') :
 aw n P ops o ((2 * id + 1) :: (aA x ++ aA y)) .any [(id,vr,.row e k es')] S:=by
 subst he
 refine ⟨?_⟩
 intro C T hA a w ⟨g,hR⟩
 have hxe:=aD (x:=x) hA (fun k h=>by simp [h]) hR
 rw [hx] at hxe
 have hvt:=(hA.2 id (by simp)).2
 have hev:=hxe.2 (by rw [hvt,hv])
 have hB:=hR.blks id
 rw [(hA.2 id (by simp)).1,hb] at hB
 have hye:fq (g.N C) w (a.eval y).cells As:=by
  have hr:=aD (x:=y) hA (fun k h=>by simp [h]) hR
  rcases hy with h|⟨A,h,h1,rfl⟩
  ·rw [h] at hr
   obtain ⟨vs,hv,hc⟩:=hr
   rw [hv];exact hc
  ·rw [h] at hr
   obtain ⟨q1,q2⟩:=h1 _ _ _ hr
   rw [q2]
   refine ⟨rfl,fun j A' hj=>?_⟩
   cases j with
   | zero=>simp at hj;subst hj;exact ⟨_,rfl,q1,hr⟩
   | succ j=>simp at hj
 rcases hB with ⟨_,rfl⟩|⟨cap,cs,q1,q2,q3,q4,q5,q6,q7⟩
 ·simp at hi
 have h0:=Nat.le_of_ble_eq_true h0
 have hl:=Nat.le_of_ble_eq_true hl
 have hil:i < es.length:=(List.getElem?_eq_some_iff.1 hi).1
 have hpk:ps.length = k:=(q7 i ps hi).1
 have hbound:i * k + k ≤ cs.size:=by
  have:=Nat.mul_le_mul_right k (show i + 1 ≤ cap by omega)
  rw [Nat.succ_mul] at this;omega
 have hys:=hye.1
 have hone:∀ u ∈ (a.eval y).cells.toList,u.oneCell' = true:=by
  intro u hu
  obtain ⟨q,hq,rfl⟩:=List.getElem_of_mem hu
  have hq':q < As.length:=by rw [← hys];simpa using hq
  obtain ⟨u',g1,g2,_⟩:=hye.2 q As[q] (by simp [hq'])
  have:(a.eval y).cells.toList[q] = u':=by
   simp at hq;rw [Array.getElem?_eq_getElem hq] at g1;simpa using g1
  rw [this];exact g2
 unfold ia
 rw [if_pos (by simp [Region.wanted,hp.1])]
 unfold Oper.wp
 have hrun:=lB (P:=P) (ty:=ty) (off:=i * k + j) q2 (by rw [hk,hys,hn]) (by omega) (by omega) hone
 have hex:(execOp a.eval o).run P w = .ok .skip (w.setRow (g.ph id) (cs.toList.take (i * k + j) ++ (a.eval y).cells.toList ++ cs.toList.drop (i * k + j + (a.eval y).cells.size)).toArray):=by
  simp only [execOp,ho,hev,Sem.run_bind,hrun];rfl
 rw [hex,Oper.upon_skip]
 have hst:=qQ (cs':=(cs.toList.take (i * k + j) ++ (a.eval y).cells.toList ++ cs.toList.drop (i * k + j + (a.eval y).cells.size)).toArray) hR rfl q2 q3
 have hver:(T.app o.dst .any [(id,vr,.row e k (es.set i (cG ps j As)))]).ver = T.ver:=by
  funext i'
  rw [St.app_some_ver]
  split
  ·rename_i h;subst h;rw [hvt,hv]
  ·rfl
 refine ⟨g,hR.app1 (c:=.any) (fun t h=>by rw [hp.2] at h;cases h) (by rw [hver];exact hst) trivial ?_⟩
 rw [hver]
 have hlen2:(es.set i (cG ps j As)).length = es.length:=by simp
 have hspl:(cG ps j As).length = k:=by simp [cG];omega
 refine .inr ⟨cap,_,by rw [hlen2];exact q1,setRow_heap _ _ _ _ _ _ q2,q3,by rw [hlen2];exact q4,q5,by simp;omega,fun i' ps' hi'=>?_⟩
 have hto:(cs.toList.take (i * k + j)).length = i * k + j:=by simp;omega
 -- a cell behind the store
 have hcell:∀ q,((cs.toList.take (i * k + j) ++ (a.eval y).cells.toList ++ cs.toList.drop (i * k + j + (a.eval y).cells.size)).toArray)[q]? = if i * k + j ≤ q ∧ q < i * k + j + m then (a.eval y).cells[q - (i * k + j)]? else cs[q]?:=by
  intro q
  rw [List.getElem?_toArray]
  rcases Nat.lt_or_ge q (i * k + j) with hlt|hge
  ·rw [if_neg (by omega),List.append_assoc,List.getElem?_append_left (by omega),List.getElem?_take,if_pos hlt];simp
  ·rw [List.append_assoc,List.getElem?_append_right (by omega),hto]
   rcases Nat.lt_or_ge q (i * k + j + m) with hlt|hge2
   ·rw [if_pos ⟨hge,hlt⟩,List.getElem?_append_left (by simp;omega)];simp
   ·rw [if_neg (by omega),List.getElem?_append_right (by simp;omega),List.getElem?_drop]
    simp only [Array.length_toList,hys,Array.getElem?_toList]
    congr 1;omega
 by_cases hii:i' = i
 ·subst hii
  rw [List.getElem?_set_self (by omega)] at hi'
  cases hi'
  refine ⟨hspl,fun q A hq=>?_⟩
  have hqk:q < k:=by
   have:=(List.getElem?_eq_some_iff.1 hq).1;omega
  rw [hcell]
  unfold cG at hq
  have hta:(ps.take j).length = j:=by simp;omega
  rcases Nat.lt_or_ge q j with hlt|hge
  ·rw [List.getElem?_append_left (by omega),List.getElem?_take,if_pos hlt] at hq
   rw [if_neg (by omega)]
   obtain ⟨u,s1,s2,s3⟩:=(q7 _ ps hi).2 q A hq
   exact ⟨u,s1,s2,A.mono hst.sz hst.keepN hst.n s3⟩
  ·rw [List.getElem?_append_right (by omega),hta] at hq
   rcases Nat.lt_or_ge q (j + m) with hlt|hge2
   ·rw [List.getElem?_append_left (by omega)] at hq
    rw [if_pos (by omega)]
    obtain ⟨u,s1,s2,s3⟩:=hye.2 _ A hq
    exact ⟨u,by rw [← s1];congr 1;omega,s2,A.mono hst.sz hst.keepN hst.n s3⟩
   ·rw [List.getElem?_append_right (by omega),List.getElem?_drop] at hq
    rw [if_neg (by omega)]
    obtain ⟨u,s1,s2,s3⟩:=(q7 _ ps hi).2 _ A hq
    exact ⟨u,by rw [← s1];congr 1;omega,s2,A.mono hst.sz hst.keepN hst.n s3⟩
 ·rw [List.getElem?_set_ne (Ne.symm hii)] at hi'
  obtain ⟨r1,r2⟩:=q7 i' ps' hi'
  refine ⟨r1,fun q A hq=>?_⟩
  obtain ⟨u,s1,s2,s3⟩:=r2 q A hq
  have hqk:q < k:=by
   have:=(List.getElem?_eq_some_iff.1 hq).1;omega
  rw [hcell,if_neg ?_]
  ·exact ⟨u,s1,s2,A.mono hst.sz hst.keepN hst.n s3⟩
  ·rintro ⟨h1,h2⟩
   rcases Nat.lt_or_gt_of_ne hii with hlt|hgt
   ·have:=Nat.mul_le_mul_right k (show i' + 1 ≤ i by omega)
    rw [Nat.succ_mul] at this;omega
   ·have:=Nat.mul_le_mul_right k (show i + 1 ≤ i' by omega)
    rw [Nat.succ_mul] at this;omega
theorem oA {t:Nat} {c c':Cnt} (h0:S.get t = c) (h:c = c'):S.put (some t) c' = S:=by
 subst h0;subst h
 refine St.ext' (fun u=>?_) (fun _=>⟨rfl,rfl⟩)
 rw [St.put_get]
 split
 ·rename_i e;rw [e]
 ·rfl
theorem mJ {l:List Oper} {Q:St → Prop} {j tg:Nat} {want b:Bool} (_:o.guard = some (j,want)) (_:(ops[j]?).bind (·.dst) = some tg) (hb:S.get tg = bC b)
 (h1:b = true → AL P n ops Q (o :: l) (S.put (some tg) (bC true))) (h2:b = false → AL P n ops Q (o :: l) (S.put (some tg) (bC false))):AL P n ops Q (o :: l) S:=by
 cases b with
 | true=>have:=h1 rfl;rwa [oA hb rfl] at this
 | false=>have:=h2 rfl;rwa [oA hb rfl] at this
theorem mK {l:List Oper} {Q:St → Prop} {done:List (List Nat × List Nat)} {j tg:Nat} {want b:Bool} (_:o.guard = some (j,want)) (_:(ops[j]?).bind (·.dst) = some tg) (hb:S.get tg = bC b)
 (h1:b = true → AD P n ops Q done (o :: l) (S.put (some tg) (bC true))) (h2:b = false → AD P n ops Q done (o :: l) (S.put (some tg) (bC false))):AD P n ops Q done (o :: l) S:=by
 cases b with
 | true=>have:=h1 rfl;rwa [oA hb rfl] at this
 | false=>have:=h2 rfl;rwa [oA hb rfl] at this
end
end Go.Proofs.YtliiahjpiagdkaaGreat
namespace Go.Proofs.YtliiahjpiagdkaaGreat
open Go.RowKit
theorem K0 {p q:Int} (h:0 ≤ p):p.tmod q = p % q:=Int.tmod_eq_emod_of_nonneg h
theorem K1 {p q:Int} (h:0 ≤ p) (h1:-9223372036854775808 ≤ p / q) (h2:p / q ≤ 9223372036854775807):IntKind.i64.wrap (p.tdiv q) = p / q:=by
 rw [Int.tdiv_eq_ediv_of_nonneg h];exact cm h1 h2
theorem K2 {n:Nat} (h:n ≤ 9223372036854775806):IntKind.i64.wrap (((n + 1:Nat):Int) - 1) = (n:Int):=by
 rw [cm (by omega) (by omega)];omega
theorem GA {n:Nat} (h:n ≤ 9223372036854775806):IntKind.i64.wrap ((n:Int) + 1 - 1) = (n:Int):=by
 rw [cm (by omega) (by omega)];omega
theorem DY (c:UInt8):IntKind.i64.wrap (c.toNat:Int) = (c.toNat:Int):=cm (by omega) (by have:=c.toNat_lt;omega)
def Au:Cnt → List Nat
 | .row id _=>[2 * id + 1]
 | .ptr id _ _=>[2 * id + 1]
 | .ept id _ _ _ _=>[2 * id + 1]
 | .vw id _ _ _ _=>[2 * id + 1]
 | _=>[]
section
variable {P:Program} {n:Nat} {ops:Array Oper} {o:Oper} {F F':List Nat} {S:St} {t:Nat} {c:Cnt}
theorem lJ.mono (h:lJ F S c) (hF:∀ k ∈ F,k ∈ F'):lJ F' S c:=fun n C T g a w v hA hR hc=>h n C T g a w v ⟨fun t ht=>hA.1 t (hF _ ht),fun i hi=>hA.2 i (hF _ hi)⟩ hR hc
def rO (S:St) (c:Cnt):Prop:=lJ (Au c) S c
theorem dI {A:PV} (h:na A):rO S (.per A):=Gn h
theorem dJ {id vr off:Nat} (hv:S.ver id = vr):rO S (.ptr id vr off):=Gp hv (by simp [Au])
theorem dK {id vr e k:Nat} {es:List (List PV)} (hv:S.ver id = vr) (hb:S.blk id = .row e k es):rO S (.row id vr):=Gq hv hb (by simp [Au])
theorem dL {id vr:Nat} {A:OV} (hv:S.ver id = vr) (hb:S.blk id = .obj A):rO S (.row id vr):=Gr hv hb (by simp [Au])
theorem dg {f:FuncId} {c:Cnt}:rO S (.clo1 f c):=DQ
theorem dh {f:FuncId} {c d:Cnt}:rO S (.clo2 f c d):=DR
theorem di {f:FuncId} {c d e:Cnt}:rO S (.clo3 f c d e):=DS
theorem vE {e:TypeId} {x:Operand} (hp:Pl n o t) (ho:o.op = .box e x) (hx:S.opd x = c) (h1:rO S c) :
 aw n P ops o ((2 * t + 1) :: (aA x ++ Au c)) (.ptr t (S.ver t + 1) 0) [(t,S.ver t + 1,.box e [c])] S:=Gs hp ho hx (fun k h=>by simp [h]) (by simp) (lJ.mono h1 fun k h=>by simp [h])
theorem jV {ty:TypeId} {x y:Operand} {id vr off:Nat} {e:TypeId} {cells:List Cnt} (hp:Dx o) (ho:o.op = .store ty x y) (hk:cT P ty 1)
 (hx:S.opd x = .ptr id vr off) (hv:S.ver id = vr) (hb:S.blk id = .box e cells) (hl:Nat.ble (off + 1) cells.length = true) (hy:S.opd y = c) (h1:rO S c) :
 aw n P ops o ((2 * id + 1) :: (aA x ++ aA y ++ Au c)) .any [(id,vr,.box e (iM cells off [c]))] S:=
 An hp ho hk.h hx hv hb hl hy (by simp) (fun k h=>by simp [h]) (fun k h=>by simp [h]) (lJ.mono h1 fun k h=>by simp [h])
theorem vF {ty:TypeId} {x y:Operand} {id vr off k:Nat} {e:TypeId} {cells cs:List Cnt} (hp:Dx o) (ho:o.op = .store ty x y) (hk:cT P ty k) (h0:Nat.blt 0 k = true)
 (hx:S.opd x = .ptr id vr off) (hv:S.ver id = vr) (hb:S.blk id = .box e cells) (hl:Nat.ble (off + k) cells.length = true) (hy:jF (S.opd y) = some cs) (hn:Nat.beq cs.length k = true) :
 aw n P ops o ((2 * id + 1) :: (aA x ++ aA y)) .any [(id,vr,.box e (iM cells off cs))] S:=tP hp ho hk.h h0 hx hv hb hl hy hn
theorem K3 {ty:TypeId} {x:Operand} {id vr off k:Nat} {e:TypeId} {cells:List Cnt} (hp:Pl n o t) (ho:o.op = .load ty x) (hT:bD P ty true) (hk:cT P ty k) (h0:Nat.blt 0 k = true)
 (hx:S.opd x = .ptr id vr off) (hv:S.ver id = vr) (hb:S.blk id = .box e cells) (hl:Nat.ble (off + k) cells.length = true) (hc:rN ((cells.drop off).take k) = c):aw n P ops o ((2 * id + 1) :: aA x) c [] S:=by
 obtain ⟨d,h1,h2⟩:=hT.h;subst hc;exact Gu hp ho h1 h2 hk.h h0 hx hv hb hl
def Ct (S:St) (x:Operand) (ps:List Cnt):Prop:=(∃ As,S.opd x = .per (bX As) ∧ ps = As.map .per) ∨ (∃ c,S.opd x = c ∧ rO S c ∧ ps = [c]) ∨ jF (S.opd x) = some ps
theorem DZ {x:Operand} {As:List PV} (h:S.opd x = .per (bX As)):Ct S x (As.map .per):=.inl ⟨As,h,rfl⟩
theorem i4 {x:Operand} {c:Cnt} (h:S.opd x = c) (h1:rO S c):Ct S x [c]:=.inr (.inl ⟨c,h,h1,rfl⟩)
theorem K4 {x:Operand} {ps:List Cnt} (h:jF (S.opd x) = some ps):Ct S x ps:=.inr (.inr h)
inductive lK (S:St):List (Nat × Operand) → List (Nat × List Cnt) → Prop
 | nil:lK S [] []
 | cons {i:Nat} {x:Operand} {ps:List Cnt} {l:List (Nat × Operand)} {l':List (Nat × List Cnt)} (h:Ct S x ps) (k:lK S l l'):lK S ((i,x) :: l) ((i,ps) :: l')
def rP (S:St) (l:List (Nat × Operand)):List Nat:=l.flatMap fun x=>aA x.2 ++ Au (S.opd x.2)
theorem lK.toC {l:List (Nat × Operand)} {l':List (Nat × List Cnt)} (h:lK S l l') {F:List Nat} (hF:∀ k ∈ rP S l,k ∈ F):pA F S l l':=by
 induction h with
 | nil=>exact .nil
 | @cons i x ps l l' h k ih=>
  refine .cons ?_ (ih fun k hk=>hF k (by simp only [rP,List.flatMap_cons,List.mem_append];exact .inr hk))
  rcases h with h|⟨c,h,h1,rfl⟩|h
  ·exact .inl h
  ·exact .inr (.inl ⟨c,h,lJ.mono h1 (fun k hk=>hF k (by simp only [rP,List.flatMap_cons,List.mem_append];exact .inl (.inr (by rw [h];exact hk)))),rfl⟩)
  ·exact .inr (.inr h)
theorem GB {ty:TypeId} {z:Value} {ls:List (Nat × Nat)} {parts:List (Nat × Operand)} {pps:List (Nat × List Cnt)} {cs:List Cnt} (hp:Pl n o t) (ho:o.op = .build ty parts.toArray) (hl:ft P ty ls) (hz:dY P ty z)
 (h1:z.cells.toList.all (·.oneCell') = true) (hpt:lK S parts pps) (hf:xU (fun i=>ls[i]?) (z.cells.toList.map FW) pps = some cs) (hc:rN cs = c):aw n P ops o (rP S parts) c [] S:=by
 subst hc
 exact DV hp ho hl.h hz.h h1 (fun k hk=>by
  simp only [fW,List.mem_flatMap] at hk
  obtain ⟨x,q1,q2⟩:=hk
  simp only [rP,List.mem_flatMap,List.mem_append]
  exact ⟨x,q1,.inl q2⟩) (hpt.toC fun _ h=>h) hf
theorem aX {ty:TypeId} {x y:Operand} {id vr e k i j m:Nat} {es es':List (List PV)} {ps As:List PV} (hp:Dx o) (ho:o.op = .store ty x y) (hk:cT P ty m) (h0:Nat.blt 0 m = true)
 (hx:S.opd x = .ept id vr k i j) (hv:S.ver id = vr) (hb:S.blk id = .row e k es) (hi:es[i]? = some ps) (hl:Nat.ble (j + m) k = true)
 (hy:lC S y As) (hn:As.length = m) (he:es.set i (cG ps j As) = es'):aw n P ops o ((2 * id + 1) :: (aA x ++ aA y)) .any [(id,vr,.row e k es')] S:=
 Ar hp ho hk.h h0 hx hv hb hi hl hy hn he
theorem GC {α:Type} {ty e:TypeId} {x ix:Operand} {k:Nat} {kk:IntKind} {z:Int} {l:List α} {f:α → List PV} (hp:Pl n o t) (ho:o.op = .indexAddr ty x ix) (hT:dQ P ty (.slice e)) (hk:cT P e k) (h0:Nat.blt 0 k = true) (hx:S.opd x = .per (cD k (l.map f))) (hi:S.opd ix = iC kk z) (hz:0 ≤ z) (hlt:z.toNat < l.length) :
 aw n P ops o (aA x ++ aA ix) (.per (dw (f (l[z.toNat]'hlt)))) [] S:=kD hp ho hT hk h0 hx hi (i:=z.toNat) (by omega) (gX hlt)
theorem Av {α:Type} {ty e:TypeId} {x ix:Operand} {k:Nat} {kk:IntKind} {z:Int} {l:List α} {f:α → List PV} (hp:Pl n o t) (ho:o.op = .indexAddr ty x ix) (hT:dQ P ty (.slice e)) (hk:cT P e k) (h0:Nat.blt 0 k = true) (hx:S.opd x = .bor k (l.map f)) (hi:S.opd ix = iC kk z) (hz:0 ≤ z) (hlt:z.toNat < l.length) :
 aw n P ops o (aA x ++ aA ix) (.bpt (f (l[z.toNat]'hlt))) [] S:=jR hp ho hT hk h0 hx hi (i:=z.toNat) (by omega) (gX hlt)
theorem Aw {ty e':TypeId} {x ix:Operand} {id vr e k:Nat} {kk:IntKind} {z:Int} {es:List (List PV)} (hp:Pl n o t) (ho:o.op = .indexAddr ty x ix) (hT:dQ P ty (.slice e')) (hk:cT P e' k) (h0:Nat.blt 0 k = true) (hx:S.opd x = .row id vr) (hv:S.ver id = vr) (hb:S.blk id = .row e k es) (hi:S.opd ix = iC kk z) (hz:0 ≤ z) (hlt:z.toNat < es.length) :
 aw n P ops o ((2 * id + 1) :: (aA x ++ aA ix)) (.ept id vr k z.toNat 0) [] S:=pt hp ho hT hk h0 hx hv hb hi (by omega) hlt
theorem D0 {ty:TypeId} {x ix:Operand} {kk:IntKind} {z:Int} {s:ByteArray} (hp:Pl n o t) (ho:o.op = .index ty x ix) (hT:dQ P ty .string) (hx:S.opd x = sC s) (hi:S.opd ix = iC kk z) (hz:0 ≤ z) (hlt:z.toNat < s.data.toList.length) :
 aw n P ops o (aA x ++ aA ix) (iC .u8 ((s.data.toList[z.toNat]'hlt).toNat:Int)) [] S:=jS hp ho hT hx hi (i:=z.toNat) (by omega) (List.getElem?_eq_getElem hlt)
theorem K5 {ty ty':TypeId} {x y:Operand} {s u:ByteArray} (hp:Pl n o t) (ho:o.op = .binOp .add ty x y ty') (hx:S.opd x = sC s) (hy:S.opd y = sC u) (hb:s.size + u.size ≤ 9223372036854775807):aw n P ops o (aA x ++ aA y) (sC (s ++ u)) [] S:=
 aM hp fun C T g a w hA hR=>by
  have h1:=aV (x:=x) hA (fun k h=>by simp [h]) hR hx
  have h2:=aV (x:=y) hA (fun k h=>by simp [h]) hR hy
  refine ⟨.string (s ++ u),ij ho h1 h2 ?_,rfl⟩
  rw [show eqGuard .add ty x y (.string s) (.string u) = pure () from rfl]
  simp [binOp,Op.stringOp]
  omega
theorem K6 {ty ty' e:TypeId} {x:Operand} (hp:Pl n o t) (ho:o.op = .binOp .eql ty x (.const (.pointer none)) ty') (hT:dQ P ty (.pointer e)) (hx:mI F S x):aw n P ops o F (bC false) [] S:=Gy hp ho hT.h hx
theorem K7 {ty ty' e:TypeId} {x:Operand} (hp:Pl n o t) (ho:o.op = .binOp .neq ty x (.const (.pointer none)) ty') (hT:dQ P ty (.pointer e)) (hx:mI F S x):aw n P ops o F (bC true) [] S:=Gz hp ho hT.h hx
theorem GD {ty ty' e:TypeId} {x:Operand} (hp:Pl n o t) (ho:o.op = .binOp .eql ty x (.const (.pointer none)) ty') (hT:dQ P ty (.pointer e)) (hx:S.opd x = .per (av (.pointer none))):aw n P ops o (aA x) (bC true) [] S:=DW hp ho hT.h hx
theorem GF {ty ty' e:TypeId} {x:Operand} (hp:Pl n o t) (ho:o.op = .binOp .neq ty x (.const (.pointer none)) ty') (hT:dQ P ty (.pointer e)) (hx:S.opd x = .per (av (.pointer none))):aw n P ops o (aA x) (bC false) [] S:=DX hp ho hT.h hx
theorem eU.mono {sg:List (Nat × Nat)} {x:Operand} (h:eU F S sg x c) (hF:∀ k ∈ F,k ∈ F'):eU F' S sg x c:=fun n C T g a w hA hR=>h n C T g a w ⟨fun t ht=>hA.1 t (hF _ ht),fun i hi=>hA.2 i (hF _ hi)⟩ hR
def vG (sg:List (Nat × Nat)):List Nat:=sg.map fun p=>2 * p.2 + 1
inductive qm (S:St) (sg:List (Nat × Nat)):List Operand → List Cnt → Prop
 | nil:qm S sg [] []
 | cons {x:Operand} {c:Cnt} {xs:List Operand} {cs:List Cnt} (h:eU (cJ S x ++ vG sg) S sg x c) (t:qm S sg xs cs):qm S sg (x :: xs) (c :: cs)
theorem qm.gives {sg:List (Nat × Nat)} {xs:List Operand} {cs:List Cnt} (h:qm S sg xs cs) {F:List Nat} (hF:∀ k ∈ eh S xs,k ∈ F) (hS:∀ k ∈ vG sg,k ∈ F):kH F S sg xs cs:=by
 induction h with
 | nil=>exact .nil
 | cons h t ih=>exact .cons (h.mono (fun k hk=>by
  rcases List.mem_append.1 hk with q|q
  ·exact hF k (by simp [eh,q])
  ·exact hS k q)) (ih (fun k hk=>hF k (by simp only [eh,List.flatMap_cons,List.mem_append];exact .inr hk)))
section
variable {sg:List (Nat × Nat)} {x:Operand}
theorem nr {A:PV} (hx:S.opd x = .per A):eU (cJ S x ++ vG sg) S sg x (.per A):=fun n C T g a w hA hR=>by
 have h:=aD (x:=x) hA (fun k h=>by simp [cJ,h]) hR
 rw [hx] at h
 exact A.mono (Nat.le_refl _) (fun _ _ _=>rfl) (fun b _ h=>rM b h) h
theorem nt {k:Nat} {es:List (List PV)} (hx:S.opd x = .per (cD k es)):eU (cJ S x ++ vG sg) S sg x (.bor k es):=Nq hx (fun k h=>by simp [cJ,h])
theorem nu {k:Nat} {es:List (List PV)} (hx:S.opd x = .bor k es):eU (cJ S x ++ vG sg) S sg x (.bor k es):=fun n C T g a w hA hR=>by
 have h:=aD (x:=x) hA (fun k h=>by simp [cJ,h]) hR
 rw [hx] at h
 exact dW.mono (Nat.le_refl _) (fun _ _ _=>rfl) (fun _ _ _=>rfl) (fun b _ h=>xQ b h) (fun b _ h=>rM b h) h
theorem nv {id vr e k:Nat} {es:List (List PV)} (hx:S.opd x = .row id vr) (hv:S.ver id = vr) (hb:S.blk id = .row e k es) (hid:iG sg id = none):eU (cJ S x ++ vG sg) S sg x (.bor k es):=
 Nr hx hv hb (fun k h=>by simp [cJ,h]) (by simp [cJ,hx,KN]) hid
theorem nx {k:Nat} (hx:S.opd x = .per (av (.slice none 0 0))):eU (cJ S x ++ vG sg) S sg x (.bor k []):=Ns hx (fun k h=>by simp [cJ,h])
theorem kI {k:Nat} (hx:S.opd x = .per (av (.slice none 0 0))):eU (cJ S x ++ vG sg) S sg x (.per (cD k [])):=KS hx (fun k h=>by simp [cJ,h])
theorem lL (hok:Gj sg = true) (h:(S.opd x).mp true (iG sg) S.ver z0 = c):eU (cJ S x ++ vG sg) S sg x c:=Np hok (fun k h=>by simp [cJ,h]) (fun p hp=>by simp only [vG,List.mem_append,List.mem_map];exact .inr ⟨p,hp,rfl⟩) h
end
theorem rQ {sg:List (Nat × Nat)}:∀ p ∈ sg,2 * p.2 + 1 ∈ vG sg:=fun p hp=>List.mem_map.2 ⟨p,hp,rfl⟩
theorem QD {f:FuncId} {xs:List Operand} {As:List Cnt} {pre post:List (Nat × Blk)} {r:Cnt} (sg:List (Nat × Nat)) (hf:de P f As pre r post) (hp:DP n o:=by exact ⟨rfl,rfl⟩) (ho:iR o (.func f) xs:=by exact ⟨_,rfl⟩) (hok:Gm sg = true:=by rfl)
 (hg:qm S sg xs As:=by first|((repeat (first|exact qm.nil|(refine qm.cons ?_ ?_;focus (first|exact nr rfl|exact nt rfl|exact nv rfl rfl rfl rfl|exact nu rfl|exact nx rfl|exact kI rfl|exact lL rfl rfl))));done)|fail) (hpre:lg S sg pre:=by first|((repeat (first|exact lg.nil|(refine lg.cons rfl rfl ?_)));done)|fail):aw n P ops o (eh S xs ++ vG sg) (r.mp false (jy sg) z0 (tG S.ver sg)) (lF S post sg sg) S:=
 jU (cs:=[]) sg hp ho Am (by simpa using hf) hok (fun p h=>by simp [rQ p h]) (hg.gives (fun _ h=>by simp [h]) (fun _ h=>by simp [h])) hpre
theorem Qp {f:FuncId} {x:Operand} {xs:List Operand} {As:List Cnt} {B:Blk} {post:List (Nat × Blk)} {r:Cnt} {id vr:Nat} (hf:de P f (.ptr 1000 0 0 :: As) [(1000,B)] r post) (hp:DP n o:=by exact ⟨rfl,rfl⟩) (ho:iR o (.func f) (x :: xs):=by exact ⟨_,rfl⟩)
 (hx:S.opd x = .ptr id vr 0:=by rfl) (hv:S.ver id = vr:=by rfl) (hb:(S.blk id).mp true (iG [(1000,id)]) S.ver z0 = B:=by rfl) (hg:qm S [(1000,id)] xs As:=by first|((repeat (first|exact qm.nil|(refine qm.cons ?_ ?_;focus (first|exact nr rfl|exact nt rfl|exact nv rfl rfl rfl rfl|exact nu rfl|exact nx rfl|exact kI rfl|exact lL rfl rfl))));done)|fail) :
 aw n P ops o (eh S (x :: xs) ++ vG [(1000,id)]) (r.mp false (jy [(1000,id)]) z0 (fun _=>vr)) [(id,vr,(cW 1000 post).mp false (jy [(1000,id)]) z0 (fun _=>vr))] S:=by
 have hok:Gm [(1000,id)] = true:=by
  simp [Gm,Gj,jy,iG,Gi,cV]
 have h:=jU (n:=n) (P:=P) (ops:=ops) (o:=o) (F:=eh S (x :: xs) ++ vG [(1000,id)]) (S:=S) (cs:=[]) (xs:=x :: xs) (As:=.ptr 1000 0 0 :: As) (pre:=[(1000,B)]) (post:=post) (r:=r) [(1000,id)] hp ho Am (by simpa using hf) hok (fun p h=>by simp [rQ p h]) (.cons ?_ (hg.gives (fun _ h=>?_) (fun _ h=>by simp [h]))) (.cons (j:=id) (by simp [jy]) hb .nil)
 ·have hnv:∀ i j,jy [(1000,id)] i = some j → tG S.ver [(1000,id)] j = (fun _=>vr) j:=fun i j e=>by
   have e':=qW e
   simp at e'
   obtain ⟨rfl,rfl⟩:=e'
   simp [tG,iG,hv,show cV 1000 = true from rfl]
  rw [jT (old':=z0) (fun _ _ _=>rfl) hnv] at h
  have hu:lF S post [(1000,id)] [(1000,id)] = [(id,vr,(cW 1000 post).mp false (jy [(1000,id)]) z0 (fun _=>vr))]:=by
   show [(id,tG S.ver [(1000,id)] id,(cW 1000 post).mp false (jy [(1000,id)]) z0 (tG S.ver [(1000,id)]))] = _
   rw [pz (old':=z0) (fun _ _ _=>rfl) hnv,hnv 1000 id (by simp [jy])]
  rw [hu] at h
  exact h
 ·refine (lL (x:=x) (S:=S) (sg:=[(1000,id)]) (c:=.ptr 1000 0 0) (by have:=hok;unfold Gm at this;rw [Bool.and_eq_true] at this;exact this.1) ?_).mono (fun k hk=>?_)
  ·rw [hx]
   simp [Cnt.mp,tN,iG,hv]
  ·rcases List.mem_append.1 hk with q|q
   ·simp [eh,q]
   ·simp [q]
 ·simp only [eh,List.flatMap_cons,List.mem_append] at h ⊢;exact .inl (.inr h)
theorem Qq {f:FuncId} {xs:List Operand} {As:List Cnt} {post:List (Nat × Blk)} {r:Cnt} (hf:de P f As [] r post) (_:o.dst = some t:=by rfl) (hp:DP n o:=by exact ⟨rfl,rfl⟩) (ho:iR o (.func f) xs:=by exact ⟨_,rfl⟩) (hfx:cV t = false:=by rfl)
 (hg:qm S [(3000,t)] xs As:=by first|((repeat (first|exact qm.nil|(refine qm.cons ?_ ?_;focus (first|exact nr rfl|exact nt rfl|exact nv rfl rfl rfl rfl|exact nu rfl|exact nx rfl|exact kI rfl|exact lL rfl rfl))));done)|fail):aw n P ops o (eh S xs ++ vG [(3000,t)]) (r.mp false (jy [(3000,t)]) z0 (tG S.ver [(3000,t)])) (lF S post [(3000,t)] [(3000,t)]) S:=by
 have hok:Gm [(3000,t)] = true:=by simp [Gm,Gj,jy,iG,Gi,hfx]
 exact jU (cs:=[]) [(3000,t)] hp ho Am (by simpa using hf) hok (fun p h=>by simp [rQ p h]) (hg.gives (fun _ h=>by simp [h]) (fun _ h=>by simp [h])) .nil
theorem PM {f:FuncId} {xs:List Operand} {As:List Cnt} {r:Ret} (hf:Fn P f As r) (hp:Pl n o t:=by exact ⟨rfl,rfl,rfl⟩) (ho:iE o f xs:=by exact ⟨_,rfl⟩) (hpl:r.plain = true:=by rfl) (hg:GL S xs As:=by first|((repeat (first|exact GL.nil|(refine GL.cons ?_ ?_;focus (first|exact bq rfl|exact bI rfl|exact cP rfl rfl rfl|exact bJ rfl|exact cQ rfl|exact ce rfl))));done)|fail):aw n P ops o (eh S xs) (rF t 0 r) [] S:=gJ hp ho hf hpl hg
theorem FF {f:FuncId} {xs:List Operand} {As:List Cnt} {e k:Nat} {es:List (List PV)} (hf:Fn P f As (.own e k es)) (hp:Pl n o t:=by exact ⟨rfl,rfl,rfl⟩) (ho:iE o f xs:=by exact ⟨_,rfl⟩) (hg:GL S xs As:=by first|((repeat (first|exact GL.nil|(refine GL.cons ?_ ?_;focus (first|exact bq rfl|exact bI rfl|exact cP rfl rfl rfl|exact bJ rfl|exact cQ rfl|exact ce rfl))));done)|fail) :
 aw n P ops o ((2 * t + 1) :: eh S xs) (.row t (S.ver t + 1)) [(t,S.ver t + 1,.row e k es)] S:=jd hp ho hf hg
theorem O2 {f:FuncId} {xs:List Operand} {As:List Cnt} {e k:Nat} {es:List (List PV)} {u:Value} (hf:Fn P f As (.tup2 (.own e k es) (.per (av u)))) (hp:Pl n o t:=by exact ⟨rfl,rfl,rfl⟩) (ho:iE o f xs:=by exact ⟨_,rfl⟩) (hg:GL S xs As:=by first|((repeat (first|exact GL.nil|(refine GL.cons ?_ ?_;focus (first|exact bq rfl|exact bI rfl|exact cP rfl rfl rfl|exact bJ rfl|exact cQ rfl|exact ce rfl))));done)|fail) :
 aw n P ops o ((2 * t + 1) :: eh S xs) (.tup2 (.row t (S.ver t + 1)) (.per (av u))) [(t,S.ver t + 1,.row e k es)] S:=ii hp ho hf hg
end
end Go.Proofs.YtliiahjpiagdkaaGreat
namespace Go.Proofs.YtliiahjpiagdkaaGreat
open Go.RowKit
def Cnt.fz (id vr:Nat) (A:Cnt) (B:Nat → Cnt):Cnt → Cnt
 | .row i r=>bif Nat.beq i id && Nat.beq r vr then A else .row i r
 | .ptr i r off=>bif Nat.beq i id && Nat.beq r vr then B off else .ptr i r off
 | .ept i r k q j=>bif Nat.beq i id && Nat.beq r vr then .any else .ept i r k q j
 | .vw i r k q j=>bif Nat.beq i id && Nat.beq r vr then .any else .vw i r k q j
 | .tup2 c d=>.tup2 (Cnt.fz id vr A B c) (Cnt.fz id vr A B d)
 | .tup3 c d e=>.tup3 (Cnt.fz id vr A B c) (Cnt.fz id vr A B d) (Cnt.fz id vr A B e)
 | .clo1 f c=>.clo1 f (Cnt.fz id vr A B c)
 | .clo2 f c d=>.clo2 f (Cnt.fz id vr A B c) (Cnt.fz id vr A B d)
 | .clo3 f c d e=>.clo3 f (Cnt.fz id vr A B c) (Cnt.fz id vr A B d) (Cnt.fz id vr A B e)
 | .aggN=>.aggN
 | .aggK c r=>.aggK (Cnt.fz id vr A B c) (Cnt.fz id vr A B r)
 | .grd _ _=>.any
 | .any=>.any
 | .per A=>.per A
 | .bor k es=>.bor k es
 | .bpt cs=>.bpt cs
def Blk.fz (id vr:Nat) (A:Cnt) (B:Nat → Cnt):Blk → Blk
 | .none=>.none
 | .box e cells=>.box e (cells.map (Cnt.fz id vr A B))
 | .row e k es=>.row e k es
 | .mix e es c=>.mix e es (Cnt.fz id vr A B c)
 | .obj A=>.obj A
def St.fz (S:St) (id vr:Nat) (A:Cnt) (B:Nat → Cnt):St:=
 ⟨fun t=>Cnt.fz id vr A B (S.get t),fun i=>bif Nat.beq i id then .none else (S.blk i).fz id vr A B,fun i=>bif Nat.beq i id then vr + 1 else S.ver i⟩
section
variable {P:Program} {n:Nat} {S:St} {C:Ctx} {g g':Gh} {w:World}
theorem vH {id:Nat} {vr vr':Nat → Nat} {A:Cnt} {B:Nat → Cnt} (hst:ln C (fun i=>i = id) vr vr' g g' w w) (hA:∀ v,v = g.rh id → crep C vr' g' w v A) (hB:∀ off v,v = .pointer (some ⟨g.ph id,off,none⟩) → crep C vr' g' w v (B off)) :
 ∀ {c:Cnt} {v:Value},crep C vr g w v c → crep C vr' g' w v (Cnt.fz id (vr id) A B c):=by
 have key:∀ {i r:Nat} {c c':Cnt} {v:Value},(i = id → r = vr id → crep C vr' g' w v c) → crep C vr' g' w v c' → crep C vr' g' w v (bif Nat.beq i id && Nat.beq r (vr id) then c else c'):=by
  intro i r c c' v h1 h2
  cases hb:Nat.beq i id with
  | false=>exact h2
  | true=>
   cases hr:Nat.beq r (vr id) with
   | false=>exact h2
   | true=>exact h1 (aG.1 hb) (aG.1 hr)
 intro c
 induction c with
 | row i r=>intro v h;exact key (fun e1 e2=>hA v (by rw [← e1];exact h.2 (by rw [e1];exact e2))) (hst.crep h)
 | ptr i r off=>intro v h;exact key (fun e1 e2=>hB off v (by rw [← e1];exact h.2 (by rw [e1];exact e2))) (hst.crep h)
 | ept i r k q j=>intro v h;exact key (fun _ _=>trivial) (hst.crep h)
 | vw i r k q j=>intro v h;exact key (fun _ _=>trivial) (hst.crep h)
 | per A'=>intro v h;exact hst.crep (c:=.per A') h
 | bor k es=>intro v h;exact hst.crep (c:=.bor k es) h
 | bpt cs=>intro v h;exact hst.crep (c:=.bpt cs) h
 | any=>intro v _;trivial
 | grd b c ih=>intro v _;trivial
 | tup2 c d ih1 ih2=>rintro v ⟨x,y,e,h1,h2⟩;exact ⟨x,y,e,ih1 h1,ih2 h2⟩
 | tup3 c d e ih1 ih2 ih3=>rintro v ⟨x,y,z,e,h1,h2,h3⟩;exact ⟨x,y,z,e,ih1 h1,ih2 h2,ih3 h3⟩
 | clo1 f c ih=>rintro v ⟨x,e,h1⟩;exact ⟨x,e,ih h1⟩
 | clo2 f c d ih1 ih2=>rintro v ⟨x,y,e,h1,h2⟩;exact ⟨x,y,e,ih1 h1,ih2 h2⟩
 | clo3 f c d e ih1 ih2 ih3=>rintro v ⟨x,y,z,e,h1,h2,h3⟩;exact ⟨x,y,z,e,ih1 h1,ih2 h2,ih3 h3⟩
 | aggN=>exact fun h=>h
 | aggK c r ih1 ih2=>rintro v ⟨x,vs,e,o,h1,h2⟩;exact ⟨x,vs,e,o,ih1 h1,ih2 h2⟩
theorem K8 {id i:Nat} (hi:i ≠ id) {vr vr':Nat → Nat} {A:Cnt} {B:Nat → Cnt} (hst:ln C (fun i=>i = id) vr vr' g g' w w) (hdom:∀ b id,g.ow b = some id → b < w.heap.size)
 (hA:∀ v,v = g.rh id → crep C vr' g' w v A) (hB:∀ off v,v = .pointer (some ⟨g.ph id,off,none⟩) → crep C vr' g' w v (B off)) {Bk:Blk} (h:brep C vr g w i Bk):brep C vr' g' w i (Bk.fz id (vr id) A B):=by
 have hv:vr' i = vr i:=by
  rcases hst.ver i with e|⟨e,_⟩
  ·exact e
  ·exact absurd e hi
 obtain ⟨hph,hrh⟩:=hst.gh i hv
 have hne:∀ {b:Nat},g.ow b = some i → ∀ j,j = id → g.ow b ≠ some j:=fun e j hj e'=>by
  rw [e] at e';cases e';exact hi hj
 cases Bk with
 | none=>trivial
 | row e k es=>exact hst.brep (B:=.row e k es) hdom hi h
 | obj A'=>exact hst.brep (B:=.obj A') hdom hi h
 | box e cells=>
  obtain ⟨cs,h1,h2,h3,h4⟩:=h
  have hb:=hdom _ _ h2
  refine ⟨cs,by rw [hph];exact h1,by rw [hph,hst.ow _ hb (hne h2)];exact h2,by simp [h3],fun j c hj=>?_⟩
  rw [List.getElem?_map] at hj
  cases hc:cells[j]? with
  | none=>rw [hc] at hj;cases hj
  | some c'=>
   rw [hc] at hj;cases hj
   obtain ⟨y,q1,q2,q3⟩:=h4 j c' hc
   exact ⟨y,q1,q2,vH hst hA hB q3⟩
 | mix e es c=>
  obtain ⟨cap,cs,h1,h2,h3,h4,h5,h6,h7,y,q1,q2,q3⟩:=h
  have hb:=hdom _ _ h3
  refine ⟨cap,cs,by rw [hrh,hph];exact h1,by rw [hph];exact h2,by rw [hph,hst.ow _ hb (hne h3)];exact h3,h4,h5,h6,fun j A' hj=>?_,y,q1,q2,vH hst hA hB q3⟩
  obtain ⟨y',r1,r2,r3⟩:=h7 j A' hj
  exact ⟨y',r1,r2,A'.mono (Nat.le_refl _) (fun _ _ _=>rfl) hst.n r3⟩
theorem pB (id vr:Nat) {A:Cnt} {B:Nat → Cnt} (hv:S.ver id = vr)
 (hX:∀ (C:Ctx) (g:Gh) (w:World) (n:Nat) (a:Act),RG C n S g a w → ∀ g':Gh,(∀ b,g'.ow b = if g.ow b = some id then none else g.ow b) → g'.ph = g.ph → g'.rh = g.rh → ∀ vr',(∀ b,b < w.heap.size → g'.N C b → g.N C b) →
   (∀ v,v = g.rh id → crep C vr' g' w v A) ∧ (∀ off v,v = .pointer (some ⟨g.ph id,off,none⟩) → crep C vr' g' w v (B off))):Le n S (S.fz id vr A B):=by
 rintro C a w ⟨g,hR⟩
 subst hv
 let g':Gh:=⟨fun b=>if g.ow b = some id then none else g.ow b,g.ph,g.rh⟩
 have hg':∀ b,g'.ow b = if g.ow b = some id then none else g.ow b:=fun _=>rfl
 have hvr:∀ i,(S.fz id (S.ver id) A B).ver i = if i = id then S.ver id + 1 else S.ver i:=fun i=>by
  show (bif Nat.beq i id then S.ver id + 1 else S.ver i) = _
  by_cases h:i = id
  ·simp [h]
  ·simp [h,dm h]
 have hst:ln C (fun i=>i = id) S.ver (S.fz id (S.ver id) A B).ver g g' w w:=by
  refine ⟨Nat.le_refl _,fun _ _ _=>rfl,fun b _ hn=>?_,fun b _ hn=>?_,fun b i e=>?_,fun i=>?_,fun _ _=>⟨rfl,rfl⟩,fun _ _=>⟨rfl,rfl⟩,rfl,rfl,rfl⟩
  ·rw [hg',if_neg (hn id rfl)]
  ·rw [hg'] at hn
   by_cases h:g.ow b = some id
   ·rw [h];simp
   ·rwa [if_neg h] at hn
  ·rw [hg'] at e
   by_cases h:g.ow b = some id
   ·rw [if_pos h] at e;cases e
   ·rw [if_neg h] at e;exact hR.dom b i e
  ·rw [hvr]
   by_cases h:i = id
   ·subst h;exact .inr ⟨rfl,by rw [if_pos rfl];omega⟩
   ·rw [if_neg h];exact .inl rfl
 obtain ⟨hA,hB⟩:=hX C g w n a hR g' hg' rfl rfl (S.fz id (S.ver id) A B).ver hst.n
 refine ⟨g',hR.defers,hR.tsz,hR.nle,hR.keep,hR.os,hR.tape,hR.output,hR.size,hR.old,hR.n0,hR.n0l,hst.dom,fun t=>vH hst hA hB (hR.slots t),fun i=>?_⟩
 show brep C _ g' w i (bif Nat.beq i id then .none else (S.blk i).fz id (S.ver id) A B)
 cases hb:Nat.beq i id with
 | true=>trivial
 | false=>exact K8 (fun e=>by rw [aG.2 e] at hb;cases hb) hst (fun b id e=>(hR.dom b id e).1) hA hB (hR.blks i)
theorem je (id vr e k:Nat) {es:List (List PV)} (hv:S.ver id = vr) (hb:S.blk id = .row e k es):Le n S (S.fz id vr (.per (cD k es)) (fun _=>.any)):=
 pB id vr hv fun C g w n a hR g' hg' _ _ vr' hn=>⟨fun v hval=>by
  have hbb:=hR.blks id
  rw [hb] at hbb
  rw [hval]
  show dW (g'.N C) (g'.N C) k es w (g.rh id)
  rcases hbb with ⟨q1,rfl⟩|⟨cap,cs,q1,q2,q3,q4,q5,q6,q7⟩
  ·exact ⟨none,0,0,0,by rw [q1];rfl,by simp,by decide,fun _=>rfl,by simp,fun i cs hi=>by simp at hi⟩
  ·have hd:=hR.dom _ _ q3
   refine ⟨_,cap,g.ph id,0,q1,q4,q5,by simp,fun _=>⟨rfl,hd.1,fun hn=>?_⟩,fun i ps hi=>?_⟩
   ·rcases hn with hn|hn
    ·have:=hR.n0 _ hn
     rcases hd.2 with q|q
     ·omega
     ·exact hR.n0l _ hn q
    ·rw [hg',if_pos q3] at hn;exact hn rfl
   ·obtain ⟨r1,r2⟩:=q7 i ps hi
    refine ⟨r1,fun j A hj=>?_⟩
    obtain ⟨y,s1,s2,s3⟩:=r2 j A hj
    exact ⟨y,by rw [Nat.zero_add,eo q2];exact s1,s2,A.mono (Nat.le_refl _) (fun _ _ _=>rfl) hn s3⟩,fun _ _ _=>trivial⟩
theorem Ax (id vr e:Nat) {cells:List Cnt} {As:List PV} (hv:S.ver id = vr) (hb:S.blk id = .box e cells) (hp:po cells = some As):Le n S (S.fz id vr .any (fun off=>.per (dw (As.drop off)))):=
 pB id vr hv fun C g w n a hR g' hg' _ _ vr' hn=>⟨fun _ _=>trivial,fun off v hval=>by
  have hbb:=hR.blks id
  rw [hb,mF hp] at hbb
  obtain ⟨cs,h1,h2,h3,h4⟩:=hbb
  have hd:=hR.dom _ _ h2
  refine ⟨g.ph id,off,hval,hd.1,fun hn=>?_,fun j A hj=>?_⟩
  ·rcases hn with hn|hn
   ·have:=hR.n0 _ hn
    rcases hd.2 with q|q
    ·omega
    ·exact hR.n0l _ hn q
   ·rw [hg',if_pos h2] at hn;exact hn rfl
  ·rw [List.getElem?_drop] at hj
   obtain ⟨y,s1,s2,s3⟩:=h4 (off + j) (.per A) (by rw [List.getElem?_map,hj];rfl)
   exact ⟨y,by rw [eo h1];exact s1,s2,A.mono (Nat.le_refl _) (fun _ _ _=>rfl) hn s3⟩⟩
theorem dj {fn:Func} {S':St} {r:Cnt} {post:List (Nat × Blk)} (h:Le n S S') (k:rL P n fn S' r post):rL P n fn S r post:=fun C g a w hR=>by
 obtain ⟨g',hR'⟩:=h C a w ⟨g,hR⟩
 exact k C g' a w hR'
theorem mL {fn:Func} {S':St} {r:Ret} (h:Le n S S') (k:ql P n fn S' r):ql P n fn S r:=fun C a w hL hR=>k C a w hL (h C a w hR)
theorem pC {τ:List (Nat × Nat)} {t id vr k:Nat} {ty e:TypeId} {cells:List Cnt} {As:List PV} (hT:bD P ty true) (hk:cT P ty k) (h0:Nat.blt 0 k = true) (h:S.get t = .ptr id vr 0) (hv:S.ver id = vr) (hb:S.blk id = .box e cells)
 (hl:cells.length = k) (hc:po cells = some As):Al P n S τ (.cell t ty) (.per (bX As)):=KQ fun C g a w hR=>by
 obtain ⟨d,hT,hd⟩:=hT.h
 have hk:=hk.h
 have hs:=hR.slots t
 rw [h] at hs
 have hB:=hR.blks id
 rw [hb] at hB
 obtain ⟨cs,h2,_,h4,h5⟩:=hB
 have hm:=mF hc
 have hlen:As.length = k:=by rw [← hl,hm];simp
 have h0:=Nat.le_of_ble_eq_true h0
 obtain ⟨vs,g1,g2,g3⟩:=cU (N:=g.N C) (w:=w) (f:=fun j=>w.cell? ⟨g.ph id,0 + j,none⟩) As (fun j A hj=>by
  obtain ⟨y,q1,q2,q3⟩:=h5 j (.per A) (by rw [hm,List.getElem?_map,hj];rfl)
  exact ⟨y,by rw [eo h2,Nat.zero_add];exact q1,q2,q3⟩)
 refine ⟨.agg vs.toArray,?_,vs.toArray,rfl,g3⟩
 have:=el (P:=P) (w:=w) (b:=g.ph id) (o:=0) hT hd (by rw [hk,g1,hlen]) (by omega) g2
 show (do loadVar ty (← asAddr (a.tmps.getD t undef))).run P w = _
 rw [hs.2 hv.symm]
 simpa [Instr.loadAt,Instr.sureAddr,asAddr] using this
theorem bL {t id vr k:Nat} {ty e:TypeId} {cells:List Cnt} {As:List PV} (hT:bD P ty true) (hk:cT P ty k) (h0:Nat.blt 0 k = true) (h:S.get t = .ptr id vr 0) (hv:S.ver id = vr) (hb:S.blk id = .box e cells)
 (hl:cells.length = k) (hc:po cells = some As):cM P n S (.cell t ty) (.per (bX As)):=by
 obtain ⟨d,hT,hd⟩:=hT.h
 exact F9 hT hd hk.h h0 h hv hb hl hc
def K9 (id id':Nat) (i:Nat):Option Nat:=bif Nat.beq i id then some id' else bif Nat.beq i id' then none else some i
def PN (vr:Nat → Nat) (id':Nat) (i:Nat):Nat:=bif Nat.beq i id' then vr id' + 1 else vr i
def St.mv (S:St) (id id':Nat):St:=
 ⟨fun t=>(S.get t).mp true (K9 id id') S.ver (PN S.ver id'),fun i=>bif Nat.beq i id' then (S.blk id).mp true (K9 id id') S.ver (PN S.ver id') else bif Nat.beq i id then .none else (S.blk i).mp true (K9 id id') S.ver (PN S.ver id'),PN S.ver id'⟩
theorem xW {id id' i j:Nat} (h:K9 id id' i = some j):(i = id ∧ j = id') ∨ (i ≠ id ∧ i ≠ id' ∧ j = i):=by
 unfold K9 at h
 by_cases h1:i = id
 ·subst h1;rw [Nat.beq_refl] at h;cases h;exact .inl ⟨rfl,rfl⟩
 ·rw [dm h1] at h
  by_cases h2:i = id'
  ·subst h2;rw [Nat.beq_refl] at h;cases h
  ·rw [dm h2] at h;cases h;exact .inr ⟨h1,h2,rfl⟩
theorem aN (id id':Nat) (hne:Nat.beq id id' = false:=by rfl) (hfx:cV id' = false:=by rfl):Le n S (S.mv id id'):=by
 rintro C a w ⟨g,hR⟩
 have hne':id ≠ id':=fun e=>by rw [aG.2 e] at hne;cases hne
 let g':Gh:=⟨fun b=>if g.ow b = some id then some id' else g.ow b,fun i=>if i = id' then g.ph id else g.ph i,fun i=>if i = id' then g.rh id else g.rh i⟩
 have how:∀ b,g'.ow b = if g.ow b = some id then some id' else g.ow b:=fun _=>rfl
 have hM:∀ b,g'.M b → g.M b:=fun b h e=>h (by rw [how,if_neg (by rw [e];simp)];exact e)
 have hN:∀ b,g'.N C b → g.N C b:=fun b h=>h.imp (fun q=>q) (fun q=>hM b q)
 have hρ:∀ i j,K9 id id' i = some j → g'.ph j = g.ph i ∧ g'.rh j = g.rh i:=fun i j h=>by
  rcases xW h with ⟨rfl,rfl⟩|⟨h1,h2,rfl⟩
  ·exact ⟨if_pos rfl,if_pos rfl⟩
  ·exact ⟨if_neg h2,if_neg h2⟩
 have hoj:∀ b i j,g.ow b = some i → K9 id id' i = some j → g'.ow b = some j:=fun b i j h1 h2=>by
  rcases xW h2 with ⟨rfl,rfl⟩|⟨q1,q2,rfl⟩
  ·rw [how,if_pos h1]
  ·rw [how,if_neg (by rw [h1];simpa using q1)];exact h1
 refine ⟨g',hR.defers,hR.tsz,hR.nle,fun i hi=>?_,hR.os,hR.tape,hR.output,hR.size,hR.old,hR.n0,hR.n0l,fun b i e=>?_,fun t=>kF (fun b _ h=>hN b h) (fun _ b _ h=>hM b h) hρ (hR.slots t),fun i=>?_⟩
 ·have:i ≠ id':=fun e=>by subst e;rw [hfx] at hi;cases hi
  exact ⟨(if_neg this).trans (hR.keep i hi).1,(if_neg this).trans (hR.keep i hi).2⟩
 ·rw [how] at e
  split at e
  ·rename_i h;exact hR.dom b id h
  ·exact hR.dom b i e
 ·show brep C _ g' w i (bif Nat.beq i id' then _ else bif Nat.beq i id then _ else _)
  cases h1:Nat.beq i id' with
  | true=>
   obtain rfl:=aG.1 h1
   exact ot (fun b _ h=>hN b h) (fun _ b _ h=>hM b h) hρ hoj (fun b i e=>(hR.dom b i e).1) (i:=id) (by unfold K9;rw [Nat.beq_refl];rfl) (hR.blks id)
  | false=>
   cases h2:Nat.beq i id with
   | true=>trivial
   | false=>exact ot (fun b _ h=>hN b h) (fun _ b _ h=>hM b h) hρ hoj (fun b i e=>(hR.dom b i e).1) (i:=i) (by unfold K9;rw [h1,h2];rfl) (hR.blks i)
end
end Go.Proofs.YtliiahjpiagdkaaGreat
