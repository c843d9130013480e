/- Texts joined: AbsO AbsI IxW. -/
import Derived.Test.YtliiahjpiagdkaaGreatJ07
import Derived.Test.YtliiahjpiagdkaaGreatJ05
import Derived.Test.YtliiahjpiagdkaaGreatJ20
import Derived.Test.YtliiahjpiagdkaaGreatJ08
set_option maxRecDepth 10000
set_option maxHeartbeats 8000000
namespace Go.Proofs.YtliiahjpiagdkaaGreat
open Go.RowKit
def LW (A:PV) (h:na A):OV:=⟨fun _ N w v=>A.p N w v,fun _ _ hs _ hN hN' hp=>A.mono hs hN hN' hp,fun hp=>h _ _ _ hp⟩
def EE (e:Nat) (cs:List OV):OV where
 p F N w v:=∃ (b:Nat) (vs:Array Value) (Fs:Nat → BP),v = .pointer (some ⟨b,0,none⟩) ∧ F b ∧ w.heap[b]? = some (.cells vs e (0,0)) ∧ vs.size = cs.length ∧ (∀ j x,Fs j x → F x ∧ x ≠ b) ∧ (∀ i j x,i ≠ j → Fs i x → ¬ Fs j x) ∧
  ∀ (j:Nat) (A:OV),cs[j]? = some A → ∃ y,vs[j]? = some y ∧ A.p (Fs j) N w y
 mono:=by
  rintro F F' N N' w w' v h1 h2 h3 h4 h5 h6 ⟨b,vs,Fs,rfl,hb,hh,hs,hF,hD,hc⟩
  refine ⟨b,vs,Fs,rfl,h1 b hb,by rw [h4 b (h2 b hb) hb];exact hh,hs,fun j x hx=>⟨h1 x (hF j x hx).1,(hF j x hx).2⟩,hD,fun j A hj=>?_⟩
  obtain ⟨y,q1,q2⟩:=hc j A hj
  exact ⟨y,q1,A.mono (fun _ h=>h) (fun x hx=>h2 x (hF j x hx).1) h3 (fun x hx hf=>h4 x hx (hF j x hf).1) h5 h6 q2⟩
 one:=by
  rintro F N w v ⟨b,vs,Fs,rfl,_⟩
  exact ⟨rfl,rfl⟩
def ld (O:OV) (A:PV):Prop:=∀ {F N N':BP} {w:World} {v:Value},O.p F N w v → (∀ b,F b → b < w.heap.size ∧ ¬ N' b) → (∀ b,N' b → N b) → A.p N' w v
theorem EF {A:PV} {h:na A}:ld (LW A h) A:=fun hp _ hN=>A.mono (Nat.le_refl _) (fun _ _ _=>rfl) (fun b _ hb=>hN b hb) hp
theorem EG {e:Nat} {cs:List OV} {As:List PV} (hl:As.length = cs.length) (h:∀ (j:Nat) (O:OV) (A:PV),cs[j]? = some O → As[j]? = some A → ld O A):ld (EE e cs) (dw As):=by
 rintro F N N' w v ⟨b,vs,Fs,rfl,hb,hh,hs,hF,hD,hc⟩ hF' hN
 refine ⟨b,0,rfl,(hF' b hb).1,(hF' b hb).2,fun j A hj=>?_⟩
 have hlt:j < cs.length:=by
  rw [← hl]
  rcases Nat.lt_or_ge j As.length with q|q
  ·exact q
  ·rw [List.getElem?_eq_none q] at hj;cases hj
 obtain ⟨y,q1,q2⟩:=hc j cs[j] (List.getElem?_eq_getElem hlt)
 refine ⟨y,by rw [Nat.zero_add,eo hh];exact q1,(cs[j].one q2).1,h j _ A (List.getElem?_eq_getElem hlt) hj q2 (fun x hx=>hF' x (hF j x hx).1) hN⟩
inductive pZ:List OV → List PV → Prop
 | nil:pZ [] []
 | cons {O:OV} {A:PV} {l:List OV} {l':List PV} (h:ld O A) (k:pZ l l'):pZ (O :: l) (A :: l')
theorem pZ.get {l:List OV} {l':List PV} (h:pZ l l'):l'.length = l.length ∧ ∀ (j:Nat) (O:OV) (A:PV),l[j]? = some O → l'[j]? = some A → ld O A:=by
 induction h with
 | nil=>exact ⟨rfl,fun j O A h=>by simp at h⟩
 | cons h k ih=>
  refine ⟨by simp [ih.1],fun j O' A' h1 h2=>?_⟩
  cases j with
  | zero=>simp at h1 h2;subst h1;subst h2;exact h
  | succ j=>exact ih.2 j O' A' (by simpa using h1) (by simpa using h2)
theorem Bp {e:Nat} {cs:List OV} {As:List PV} (h:pZ cs As):ld (EE e cs) (dw As):=EG h.get.1 h.get.2
inductive UC where
 | p (A:PV) (h:na A)
 | o (id:Nat) (O:OV)
def UC.ov:UC → OV
 | .p A h=>LW A h
 | .o _ O=>O
def UC.cell (vr:Nat → Nat):UC → Cnt
 | .p A _=>.per A
 | .o id _=>.row id (vr id)
def IU:List UC → Nat → Option OV
 | [],_=>none
 | .p _ _ :: l,i=>IU l i
 | .o id O :: l,i=>bif Nat.beq i id then some O else IU l i
def dD:List UC → List Nat
 | []=>[]
 | .p _ _ :: l=>dD l
 | .o id _ :: l=>id :: dD l
def jr (i:Nat):List Nat → Bool
 | []=>false
 | j :: l=>bif Nat.beq i j then true else jr i l
def LX:List Nat → Bool
 | []=>true
 | i :: l=>(!jr i l) && LX l
def Pf:Blk → Bool
 | .none=>true
 | _=>false
theorem da {i:Nat} {l:List Nat}:jr i l = true ↔ i ∈ l:=by
 induction l with
 | nil=>simp [jr]
 | cons j l ih=>
  unfold jr
  cases hb:Nat.beq i j with
  | true=>simp [aG.1 hb]
  | false=>
   have:i ≠ j:=fun e=>by rw [aG.2 e] at hb;cases hb
   simp [ih,this]
theorem IV {us:List UC} {i:Nat}:i ∈ dD us ↔ ∃ O,IU us i = some O:=by
 induction us with
 | nil=>simp [dD,IU]
 | cons u us ih=>
  cases u with
  | p A h=>simpa [dD,IU] using ih
  | o id O=>
   simp only [dD,IU,List.mem_cons]
   cases hb:Nat.beq i id with
   | true=>simp [aG.1 hb]
   | false=>
    have:i ≠ id:=fun e=>by rw [aG.2 e] at hb;cases hb
    simp [ih,this]
theorem md {us:List UC} {j id:Nat} {O:OV} (h:us[j]? = some (.o id O)):id ∈ dD us:=by
 induction us generalizing j with
 | nil=>simp at h
 | cons u us ih=>
  cases j with
  | zero=>simp at h;subst h;simp [dD]
  | succ j=>
   have:=ih (by simpa using h)
   cases u <;> simp [dD,this]
theorem CY {us:List UC} (hd:LX (dD us) = true) {j j' id:Nat} {O O':OV} (h:us[j]? = some (.o id O)) (h':us[j']? = some (.o id O')):j = j':=by
 induction us generalizing j j' with
 | nil=>simp at h
 | cons u us ih=>
  have hd':LX (dD us) = true:=by
   cases u with
   | p A h=>exact hd
   | o i O=>simp only [dD,LX,Bool.and_eq_true] at hd;exact hd.2
  cases j with
  | zero=>
   cases j' with
   | zero=>rfl
   | succ j'=>
    simp at h;subst h
    have:=md (us:=us) (by simpa using h')
    simp only [dD,LX,Bool.and_eq_true,Bool.not_eq_true'] at hd
    rw [← da] at this
    rw [this] at hd;cases hd.1
  | succ j=>
   cases j' with
   | zero=>
    simp at h';subst h'
    have:=md (us:=us) (by simpa using h)
    simp only [dD,LX,Bool.and_eq_true,Bool.not_eq_true'] at hd
    rw [← da] at this
    rw [this] at hd;cases hd.1
   | succ j'=>
    have:=ih (j:=j) (j':=j') hd' (by simpa using h) (by simpa using h')
    rw [this]
theorem LY {us:List UC} {id:Nat} {O:OV} (h:IU us id = some O):∃ j:Nat,us[j]? = some (UC.o id O):=by
 induction us with
 | nil=>simp [IU] at h
 | cons u us ih=>
  cases u with
  | p A h'=>obtain ⟨j,hj⟩:=ih h;exact ⟨j + 1,by simpa using hj⟩
  | o i O'=>
   unfold IU at h
   cases hb:Nat.beq id i with
   | true=>rw [hb] at h;cases h;exact ⟨0,by rw [aG.1 hb];rfl⟩
   | false=>rw [hb] at h;obtain ⟨j,hj⟩:=ih h;exact ⟨j + 1,by simpa using hj⟩
section
variable {P:Program} {n:Nat} {S:St} {C:Ctx} {g g':Gh} {w w':World} {I:Nat → Prop}
theorem o3 {id:Nat} {vr vr':Nat → Nat} {A:Cnt} {B:Nat → Cnt} (hst:ln C I vr vr' g g' w w) (hA:∀ v,v = g.rh id → crep C vr' g' w v A) (hB:∀ off v,v = .pointer (some ⟨g.ph id,off,none⟩) → crep C vr' g' w v (B off)) :
 ∀ {c:Cnt} {v:Value},crep C vr g w v c → crep C vr' g' w v (Cnt.fz id (vr id) A B c):=by
 have key:∀ {i r:Nat} {c c':Cnt} {v:Value},(i = id → r = vr id → crep C vr' g' w v c) → crep C vr' g' w v c' → crep C vr' g' w v (bif Nat.beq i id && Nat.beq r (vr id) then c else c'):=by
  intro i r c c' v h1 h2
  cases hb:Nat.beq i id with
  | false=>exact h2
  | true=>
   cases hr:Nat.beq r (vr id) with
   | false=>exact h2
   | true=>exact h1 (aG.1 hb) (aG.1 hr)
 intro c
 induction c with
 | row i r=>intro v h;exact key (fun e1 e2=>hA v (by rw [← e1];exact h.2 (by rw [e1];exact e2))) (hst.crep h)
 | ptr i r off=>intro v h;exact key (fun e1 e2=>hB off v (by rw [← e1];exact h.2 (by rw [e1];exact e2))) (hst.crep h)
 | ept i r k q j=>intro v h;exact key (fun _ _=>trivial) (hst.crep h)
 | vw i r k q j=>intro v h;exact key (fun _ _=>trivial) (hst.crep h)
 | per A'=>intro v h;exact hst.crep (c:=.per A') h
 | bor k es=>intro v h;exact hst.crep (c:=.bor k es) h
 | bpt cs=>intro v h;exact hst.crep (c:=.bpt cs) h
 | any=>intro v _;trivial
 | grd b c ih=>intro v _;trivial
 | tup2 c d ih1 ih2=>rintro v ⟨x,y,e,h1,h2⟩;exact ⟨x,y,e,ih1 h1,ih2 h2⟩
 | tup3 c d e ih1 ih2 ih3=>rintro v ⟨x,y,z,e,h1,h2,h3⟩;exact ⟨x,y,z,e,ih1 h1,ih2 h2,ih3 h3⟩
 | clo1 f c ih=>rintro v ⟨x,e,h1⟩;exact ⟨x,e,ih h1⟩
 | clo2 f c d ih1 ih2=>rintro v ⟨x,y,e,h1,h2⟩;exact ⟨x,y,e,ih1 h1,ih2 h2⟩
 | clo3 f c d e ih1 ih2 ih3=>rintro v ⟨x,y,z,e,h1,h2,h3⟩;exact ⟨x,y,z,e,ih1 h1,ih2 h2,ih3 h3⟩
 | aggN=>exact fun h=>h
 | aggK c r ih1 ih2=>rintro v ⟨x,vs,e,o,h1,h2⟩;exact ⟨x,vs,e,o,ih1 h1,ih2 h2⟩
theorem yT {id i:Nat} (hi:¬ I i) {vr vr':Nat → Nat} {A:Cnt} {B:Nat → Cnt} (hst:ln C I vr vr' g g' w w) (hdom:∀ b id,g.ow b = some id → b < w.heap.size)
 (hA:∀ v,v = g.rh id → crep C vr' g' w v A) (hB:∀ off v,v = .pointer (some ⟨g.ph id,off,none⟩) → crep C vr' g' w v (B off)) {Bk:Blk} (h:brep C vr g w i Bk):brep C vr' g' w i (Bk.fz id (vr id) A B):=by
 have hv:vr' i = vr i:=by
  rcases hst.ver i with e|⟨e,_⟩
  ·exact e
  ·exact absurd e hi
 obtain ⟨hph,hrh⟩:=hst.gh i hv
 have hne:∀ {b:Nat},g.ow b = some i → ∀ j,I j → g.ow b ≠ some j:=fun e j hj e'=>by
  rw [e] at e';cases e';exact hi hj
 cases Bk with
 | none=>trivial
 | row e k es=>exact hst.brep (B:=.row e k es) hdom hi h
 | obj A'=>exact hst.brep (B:=.obj A') hdom hi h
 | box e cells=>
  obtain ⟨cs,h1,h2,h3,h4⟩:=h
  have hb:=hdom _ _ h2
  refine ⟨cs,by rw [hph];exact h1,by rw [hph,hst.ow _ hb (hne h2)];exact h2,by simp [h3],fun j c hj=>?_⟩
  rw [List.getElem?_map] at hj
  cases hc:cells[j]? with
  | none=>rw [hc] at hj;cases hj
  | some c'=>
   rw [hc] at hj;cases hj
   obtain ⟨y,q1,q2,q3⟩:=h4 j c' hc
   exact ⟨y,q1,q2,o3 hst hA hB q3⟩
 | mix e es c=>
  obtain ⟨cap,cs,h1,h2,h3,h4,h5,h6,h7,y,q1,q2,q3⟩:=h
  have hb:=hdom _ _ h3
  refine ⟨cap,cs,by rw [hrh,hph];exact h1,by rw [hph];exact h2,by rw [hph,hst.ow _ hb (hne h3)];exact h3,h4,h5,h6,fun j A' hj=>?_,y,q1,q2,o3 hst hA hB q3⟩
  obtain ⟨y',r1,r2,r3⟩:=h7 j A' hj
  exact ⟨y',r1,r2,A'.mono (Nat.le_refl _) (fun _ _ _=>rfl) hst.n r3⟩
def EH (S:St) (id:Nat) (us:List UC) (i:Nat):Nat:=bif (Nat.beq i id || jr i (dD us)) then S.ver i + 1 else S.ver i
def St.unf (S:St) (id e:Nat) (us:List UC):St:=
 ⟨fun t=>Cnt.fz id (S.ver id) (.ptr id (S.ver id + 1) 0) (fun _=>.any) (S.get t),
  fun i=>bif Nat.beq i id then .box e (us.map (UC.cell (EH S id us))) else match IU us i with
   | some O=>.obj O
   | none=>(S.blk i).fz id (S.ver id) (.ptr id (S.ver id + 1) 0) (fun _=>.any),
  EH S id us⟩
def M6 (S:St) (id:Nat) (us:List UC):Bool:=(!cV id) && LX (dD us) && (!jr id (dD us)) && (dD us).all fun i=>(!cV i) && Pf (S.blk i)
open Classical in
noncomputable def OT (us:List UC) (Fs:Nat → BP) (id x:Nat):Nat:=if h:∃ i,∃ (j:Nat) (O:OV),us[j]? = some (.o i O) ∧ Fs j x then Classical.choose h else id
open Classical in
noncomputable def NX (us:List UC) (vs:Array Value) (g:Gh) (i:Nat):Value:=if h:∃ (j:Nat),∃ O:OV,us[j]? = some (.o i O) then vs.getD (Classical.choose h) undef else g.rh i
theorem NY {us:List UC} {Fs:Nat → BP} {id x i j:Nat} {O:OV} (hD:∀ i j x,i ≠ j → Fs i x → ¬ Fs j x) (h:us[j]? = some (.o i O)) (hx:Fs j x):OT us Fs id x = i:=by
 unfold OT
 have hex:∃ i,∃ (j:Nat) (O:OV),us[j]? = some (.o i O) ∧ Fs j x:=⟨i,j,O,h,hx⟩
 rw [dif_pos hex]
 obtain ⟨j',O',h1,h2⟩:=Classical.choose_spec hex
 have:j' = j:=Classical.byContradiction fun hn=>hD j' j x hn h2 hx
 subst this
 rw [h] at h1;injection h1 with h1;injection h1 with h1 _;exact h1.symm
theorem NZ {us:List UC} {Fs:Nat → BP} {id x:Nat} (h:∀ j,¬ Fs j x):OT us Fs id x = id:=by
 unfold OT
 rw [dif_neg]
 rintro ⟨_,j,_,_,q⟩
 exact h j q
theorem IW {us:List UC} {vs:Array Value} {i j:Nat} {O:OV} (hd:LX (dD us) = true) (h:us[j]? = some (.o i O)):NX us vs g i = vs.getD j undef:=by
 unfold NX
 have hex:∃ (j:Nat),∃ O:OV,us[j]? = some (.o i O):=⟨j,O,h⟩
 rw [dif_pos hex]
 obtain ⟨O',h1⟩:=Classical.choose_spec hex
 rw [CY hd h1 h]
theorem IY {us:List UC} {vs:Array Value} {i:Nat} (h:i ∉ dD us):NX us vs g i = g.rh i:=by
 unfold NX
 rw [dif_neg]
 rintro ⟨j,O,h1⟩
 exact h (md h1)
theorem kS (id vr e:Nat) (us:List UC) (hv:S.ver id = vr) (hb:S.blk id = .obj (EE e (us.map UC.ov))) (hf:M6 S id us = true):Le n S (S.unf id e us):=by
 rintro C a w ⟨g,hR⟩
 unfold M6 at hf
 simp only [Bool.and_eq_true,Bool.not_eq_true',List.all_eq_true] at hf
 obtain ⟨⟨⟨hfx,hds⟩,hid⟩,hfr⟩:=hf
 have hid:id ∉ dD us:=fun h=>by rw [da.2 h] at hid;cases hid
 have hB:=hR.blks id
 rw [hb] at hB
 obtain ⟨b,vs,Fs,hrv,hFb,hh,hs,hF,hD,hc⟩:=hB
 have hF':∀ j x,Fs j x → g.ow x = some id ∧ x ≠ b:=hF
 have hFb':g.ow b = some id:=hFb
 let g':Gh:=⟨fun x=>if g.ow x = some id then some (OT us Fs id x) else g.ow x,fun i=>if i = id then b else g.ph i,NX us vs g⟩
 have how:∀ x,g'.ow x = if g.ow x = some id then some (OT us Fs id x) else g.ow x:=fun _=>rfl
 have hvr:∀ i,(S.unf id e us).ver i = EH S id us i:=fun _=>rfl
 have hvrn:∀ i,i ≠ id → i ∉ dD us → EH S id us i = S.ver i:=fun i h1 h2=>by
  unfold EH
  rw [dm h1]
  cases hm:jr i (dD us) with
  | false=>rfl
  | true=>exact absurd (da.1 hm) h2
 have hvri:∀ i,(i = id ∨ i ∈ dD us) → EH S id us i = S.ver i + 1:=fun i h=>by
  unfold EH
  rcases h with h|h
  ·rw [h,Nat.beq_refl];rfl
  ·rw [da.2 h,Bool.or_true];rfl
 have hfxI:∀ i,cV i = true → i ≠ id ∧ i ∉ dD us:=fun i hi=>⟨fun e=>(by rw [e,hfx] at hi;cases hi),fun h=>(by have:=hfr i h;rw [hi] at this;simp at this)⟩
 have hst:ln C (fun i=>i = id ∨ i ∈ dD us) S.ver (S.unf id e us).ver g g' w w:=by
  refine ⟨Nat.le_refl _,fun _ _ _=>rfl,fun x _ hn=>?_,fun x _ hn=>?_,fun x i e'=>?_,fun i=>?_,fun i hi=>?_,fun i hi=>?_,rfl,rfl,rfl⟩
  ·rw [how,if_neg (hn id (.inl rfl))]
  ·rw [how] at hn
   split at hn
   ·rename_i h;rw [h];simp
   ·exact hn
  ·rw [how] at e'
   split at e'
   ·rename_i h;exact hR.dom x id h
   ·exact hR.dom x i e'
  ·rw [hvr]
   by_cases h:i = id ∨ i ∈ dD us
   ·exact .inr ⟨h,by rw [hvri i h];omega⟩
   ·exact .inl (hvrn i (fun q=>h (.inl q)) (fun q=>h (.inr q)))
  ·rw [hvr] at hi
   have h:¬ (i = id ∨ i ∈ dD us):=fun q=>by rw [hvri i q] at hi;omega
   exact ⟨if_neg (fun q=>h (.inl q)),IY (fun q=>h (.inr q))⟩
  ·obtain ⟨h1,h2⟩:=hfxI i hi
   exact ⟨if_neg h1,IY h2⟩
 have hph:g'.ph id = b:=if_pos rfl
 have hA:∀ v,v = g.rh id → crep C (S.unf id e us).ver g' w v (.ptr id (S.ver id + 1) 0):=fun v hv=>⟨by rw [hvr,hvri id (.inl rfl)];exact Nat.le_refl _,fun _=>by rw [hv,hrv,hph]⟩
 refine ⟨g',hR.defers,hR.tsz,hR.nle,fun i hi=>?_,hR.os,hR.tape,hR.output,hR.size,hR.old,hR.n0,hR.n0l,hst.dom,fun t=>o3 (B:=fun _=>.any) hst hA (fun _ _ _=>trivial) (hR.slots t),fun i=>?_⟩
 ·obtain ⟨h1,h2⟩:=hst.fix i hi
  exact ⟨h1.trans (hR.keep i hi).1,h2.trans (hR.keep i hi).2⟩
 ·show brep C _ g' w i (bif Nat.beq i id then _ else _)
  cases hbi:Nat.beq i id with
  | true=>
   obtain rfl:=aG.1 hbi
   refine ⟨vs,by rw [hph];exact hh,by rw [hph,how,if_pos hFb',NZ (fun j hj=>(hF' j b hj).2 rfl)],by rw [hs];simp,fun j c hj=>?_⟩
   rw [List.getElem?_map] at hj
   cases hu:us[j]? with
   | none=>rw [hu] at hj;cases hj
   | some u=>
    rw [hu] at hj;cases hj
    obtain ⟨y,q1,q2⟩:=hc j u.ov (by rw [List.getElem?_map,hu];rfl)
    refine ⟨y,q1,(u.ov.one q2).1,?_⟩
    cases u with
    | p A h=>exact A.mono (Nat.le_refl _) (fun _ _ _=>rfl) hst.n q2
    | o i' O=>
     refine ⟨Nat.le_refl _,fun _=>?_⟩
     show y = NX us vs g i'
     rw [IW hds hu,Array.getD_eq_getD_getElem?,q1];rfl
  | false=>
   have hne:i ≠ id:=fun e'=>by rw [aG.2 e'] at hbi;cases hbi
   cases hl:IU us i with
   | some O=>
    obtain ⟨j,hj⟩:=LY hl
    obtain ⟨y,q1,q2⟩:=hc j O (by rw [List.getElem?_map,hj];rfl)
    show O.p (fun x=>g'.ow x = some i) (g'.N C) w (NX us vs g i)
    rw [IW hds hj,Array.getD_eq_getD_getElem?,q1]
    exact O.mono (F:=Fs j) (fun x hx=>by rw [how,if_pos (hF' j x hx).1,NY hD hj hx]) (fun x hx=>(hR.dom x id (hF' j x hx).1).1) (Nat.le_refl _) (fun _ _ _=>rfl) (fun _ _ _=>rfl) hst.n q2
   | none=>
    have hni:i ∉ dD us:=fun h=>by obtain ⟨O,hO⟩:=IV.1 h;rw [hl] at hO;cases hO
    exact yT (B:=fun _=>.any) (fun h=>h.elim hne hni) hst (fun b id e=>(hR.dom b id e).1) hA (fun _ _ _=>trivial) (hR.blks i)
def St.fold (S:St) (id e:Nat) (us:List UC):St:=
 ⟨fun t=>Cnt.fz id (S.ver id) .any (fun off=>bif Nat.beq off 0 then .row id (S.ver id + 1) else .any) (S.get t),
  fun i=>bif Nat.beq i id then .obj (EE e (us.map UC.ov)) else bif jr i (dD us) then .none else (S.blk i).fz id (S.ver id) .any (fun off=>bif Nat.beq off 0 then .row id (S.ver id + 1) else .any),
  EH S id us⟩
inductive kT (S:St):List UC → Prop
 | nil:kT S []
 | p {A:PV} {h:na A} {l:List UC} (k:kT S l):kT S (.p A h :: l)
 | o {i:Nat} {O:OV} {l:List UC} (h:S.blk i = .obj O) (k:kT S l):kT S (.o i O :: l)
theorem kT.get {us:List UC} (h:kT S us) {j i:Nat} {O:OV} (hj:us[j]? = some (.o i O)):S.blk i = .obj O:=by
 induction h generalizing j with
 | nil=>simp at hj
 | p k ih=>cases j with
  | zero=>simp at hj
  | succ j=>exact ih (by simpa using hj)
 | o h k ih=>cases j with
  | zero=>simp at hj;obtain ⟨rfl,rfl⟩:=hj;exact h
  | succ j=>exact ih (by simpa using hj)
def M7 (id:Nat) (us:List UC):Bool:=(!cV id) && LX (dD us) && (!jr id (dD us))
theorem rf (id vr e:Nat) (us:List UC) (hv:S.ver id = vr) (hb:S.blk id = .box e (us.map (UC.cell S.ver))) (hr:kT S us) (hf:M7 id us = true):Le n S (S.fold id e us):=by
 rintro C a w ⟨g,hR⟩
 unfold M7 at hf
 simp only [Bool.and_eq_true,Bool.not_eq_true'] at hf
 obtain ⟨⟨hfx,hds⟩,hid⟩:=hf
 have hid:id ∉ dD us:=fun h=>by rw [da.2 h] at hid;cases hid
 have hB:=hR.blks id
 rw [hb] at hB
 obtain ⟨cs,hh,hob,hs,hc⟩:=hB
 let g':Gh:=⟨fun x=>match g.ow x with
  | some i=>if jr i (dD us) then some id else some i
  | none=>none,g.ph,fun i=>if i = id then .pointer (some ⟨g.ph id,0,none⟩) else g.rh i⟩
 have how:∀ x i,g.ow x = some i → g'.ow x = if jr i (dD us) then some id else some i:=fun x i h=>by
  show (match g.ow x with|some i=>if jr i (dD us) then some id else some i|none=>none) = _
  rw [h]
 have hown:∀ x,g.ow x = none → g'.ow x = none:=fun x h=>by
  show (match g.ow x with|some i=>if jr i (dD us) then some id else some i|none=>none) = _
  rw [h]
 have hvr:∀ i,(S.fold id e us).ver i = EH S id us i:=fun _=>rfl
 have hvrn:∀ i,i ≠ id → i ∉ dD us → EH S id us i = S.ver i:=fun i h1 h2=>by
  unfold EH
  rw [dm h1]
  cases hm:jr i (dD us) with
  | false=>rfl
  | true=>exact absurd (da.1 hm) h2
 have hvri:∀ i,(i = id ∨ i ∈ dD us) → EH S id us i = S.ver i + 1:=fun i h=>by
  unfold EH
  rcases h with h|h
  ·rw [h,Nat.beq_refl];rfl
  ·rw [da.2 h,Bool.or_true];rfl
 have hst:ln C (fun i=>i = id ∨ i ∈ dD us) S.ver (S.fold id e us).ver g g' w w:=by
  refine ⟨Nat.le_refl _,fun _ _ _=>rfl,fun x _ hn=>?_,fun x _ hn=>?_,fun x i e'=>?_,fun i=>?_,fun i hi=>?_,fun i hi=>?_,rfl,rfl,rfl⟩
  ·cases ho:g.ow x with
   | none=>exact hown x ho
   | some i=>
    rw [how x i ho,if_neg]
    intro hm
    exact hn i (.inr (da.1 hm)) ho
  ·intro ho;exact hn (hown x ho)
  ·cases ho:g.ow x with
   | none=>rw [hown x ho] at e';cases e'
   | some i'=>exact hR.dom x i' ho
  ·rw [hvr]
   by_cases h:i = id ∨ i ∈ dD us
   ·exact .inr ⟨h,by rw [hvri i h];omega⟩
   ·exact .inl (hvrn i (fun q=>h (.inl q)) (fun q=>h (.inr q)))
  ·rw [hvr] at hi
   have h:¬ (i = id ∨ i ∈ dD us):=fun q=>by rw [hvri i q] at hi;omega
   exact ⟨rfl,if_neg (fun q=>h (.inl q))⟩
  ·exact ⟨rfl,if_neg (fun q=>by rw [q,hfx] at hi;cases hi)⟩
 have hA:∀ v,v = g.rh id → crep C (S.fold id e us).ver g' w v .any:=fun _ _=>trivial
 have hBo:∀ off v,v = .pointer (some ⟨g.ph id,off,none⟩) → crep C (S.fold id e us).ver g' w v (bif Nat.beq off 0 then .row id (S.ver id + 1) else .any):=fun off v hv'=>by
  cases h0:Nat.beq off 0 with
  | false=>trivial
  | true=>
   obtain rfl:=aG.1 h0
   refine ⟨by rw [hvr,hvri id (.inl rfl)];exact Nat.le_refl _,fun _=>?_⟩
   show v = if id = id then _ else _
   rw [if_pos rfl];exact hv'
 refine ⟨g',hR.defers,hR.tsz,hR.nle,fun i hi=>?_,hR.os,hR.tape,hR.output,hR.size,hR.old,hR.n0,hR.n0l,hst.dom,fun t=>o3 hst hA hBo (hR.slots t),fun i=>?_⟩
 ·obtain ⟨h1,h2⟩:=hst.fix i hi
  exact ⟨h1.trans (hR.keep i hi).1,h2.trans (hR.keep i hi).2⟩
 ·show brep C _ g' w i (bif Nat.beq i id then _ else _)
  cases hbi:Nat.beq i id with
  | true=>
   obtain rfl:=aG.1 hbi
   have hobn:g'.ow (g.ph i) = some i:=by
    rw [how _ _ hob];split <;> rfl
   show (EE e (us.map UC.ov)).p (fun x=>g'.ow x = some i) (g'.N C) w (if i = i then _ else _)
   rw [if_pos rfl]
   refine ⟨g.ph i,cs,fun j x=>∃ i' O,us[j]? = some (.o i' O) ∧ g.ow x = some i',rfl,hobn,hh,by rw [hs];simp,?_,?_,fun j O hj=>?_⟩
   ·rintro j x ⟨i',O,h1,h2⟩
    refine ⟨(how x i' h2).trans (if_pos (da.2 (md h1))),fun e'=>?_⟩
    rw [e',hob] at h2;cases h2
    exact hid (md h1)
   ·rintro j j' x hne ⟨i',O,h1,h2⟩ ⟨i'',O',h3,h4⟩
    rw [h2] at h4;cases h4
    exact hne (CY hds h1 h3)
   ·rw [List.getElem?_map] at hj
    cases hu:us[j]? with
    | none=>rw [hu] at hj;cases hj
    | some u=>
     rw [hu] at hj;cases hj
     obtain ⟨y,q1,q2,q3⟩:=hc j (u.cell S.ver) (by rw [List.getElem?_map,hu];rfl)
     refine ⟨y,q1,?_⟩
     cases u with
     | p A h=>exact A.mono (Nat.le_refl _) (fun _ _ _=>rfl) hst.n q3
     | o i' O=>
      have hbo:=hR.blks i'
      rw [hr.get hu] at hbo
      have q4:y = g.rh i':=q3.2 rfl
      rw [q4]
      exact O.mono (F:=fun x=>g.ow x = some i') (fun x hx=>⟨i',O,hu,hx⟩) (fun x hx=>(hR.dom x i' hx).1) (Nat.le_refl _) (fun _ _ _=>rfl) (fun _ _ _=>rfl) hst.n hbo
  | false=>
   have hne:i ≠ id:=fun e'=>by rw [aG.2 e'] at hbi;cases hbi
   show brep C _ g' w i (bif jr i (dD us) then _ else _)
   cases hm:jr i (dD us) with
   | true=>trivial
   | false=>
    have hni:i ∉ dD us:=fun h=>by rw [da.2 h] at hm;cases hm
    exact yT (fun h=>h.elim hne hni) hst (fun b id e=>(hR.dom b id e).1) hA hBo (hR.blks i)
theorem LZ (id vr:Nat) {A:PV} {h:na A} (hv:S.ver id = vr) (hb:S.blk id = .obj (LW A h)):Le n S (S.fz id vr (.per A) (fun _=>.any)):=
 pB id vr hv fun C g w n a hR g' hg' _ _ vr' hn=>⟨fun v hval=>by
  have hbb:=hR.blks id
  rw [hb] at hbb
  rw [hval]
  exact A.mono (Nat.le_refl _) (fun _ _ _=>rfl) hn hbb,fun _ _ _=>trivial⟩
end
class IZ (A:PV):Prop where
 h:∀ {N N':BP} {w:World} {v:Value},A.p N w v → A.p N' w v
instance {v:Value}:IZ (av v):=⟨fun h=>h⟩
class Bq (l:List PV):Prop where
 h:∀ A ∈ l,IZ A
instance:Bq []:=⟨fun _ h=>by simp at h⟩
instance {A:PV} {l:List PV} [h:IZ A] [k:Bq l]:Bq (A :: l):=⟨fun B hB=>by
 rcases List.mem_cons.1 hB with e|e
 ·subst e;exact h
 ·exact k.h B e⟩
instance {l:List PV} [k:Bq l]:IZ (bX l):=⟨fun ⟨vs,e,h1,h2⟩=>⟨vs,e,h1,fun j A hj=>let ⟨y,q1,q2,q3⟩:=h2 j A hj;⟨y,q1,q2,(k.h A (List.mem_of_getElem? hj)).h q3⟩⟩⟩
class Br (r:Ret):Prop where
 h:∀ {N N':BP} {w w':World} {v:Value},r.rep N w w' v → r.rep N' w w' v
instance {A:PV} [h:IZ A]:Br (.per A):=⟨fun q=>h.h q⟩
instance {c d:Ret} [h:Br c] [k:Br d]:Br (.tup2 c d):=⟨fun ⟨x,y,e,h1,h2⟩=>⟨x,y,e,h.h h1,k.h h2⟩⟩
class Pg (es:List (List PV)):Prop where
 h:∀ ps ∈ es,Bq ps
instance {α:Type} {f:α → List PV} {l:List α} [h:∀ x,Bq (f x)]:Pg (l.map f):=⟨fun ps hp=>by
 obtain ⟨x,_,rfl⟩:=List.mem_map.1 hp
 exact h x⟩
instance {e k:Nat} {es:List (List PV)} [h:Pg es]:Br (.own e k es):=⟨fun q=>by
 rcases q with q|⟨q,cap,cs,h1,h2,h3,h4,h5,h6,h7⟩
 ·exact .inl q
 ·exact .inr ⟨q,cap,cs,h1,h2,h3,h4,h5,h6,fun i ps hi=>⟨(h7 i ps hi).1,fun j A hj=>let ⟨y,q1,q2,q3⟩:=(h7 i ps hi).2 j A hj;⟨y,q1,q2,((h.h ps (List.mem_of_getElem? hi)).h A (List.mem_of_getElem? hj)).h q3⟩⟩⟩⟩
section
variable {P:Program} {n:Nat} {ops:Array Oper} {o:Oper} {F:List Nat} {S T:St} {C:Ctx} {g:Gh} {a:Act} {w w':World} {t:Nat}
def uT (C:Ctx) (g:Gh) (w:World) (ids:List Nat):BP:=fun b=>b < w.heap.size ∧ g.N C b ∧ ∀ i ∈ ids,g.ow b ≠ some i
def gU (F:List Nat) (S:St) (ids:List Nat) (x:Operand) (c:Cnt):Prop:=∀ (n:Nat) (C:Ctx) (T:St) (g:Gh) (a:Act) (w:World),dd F T S → RG C n T g a w →
 crep ⟨w,uT C g w ids,fun _=>False,g0⟩ (fun _=>0) g0 w (a.eval x) c
theorem P9 {ids:List Nat} {b:Nat} (h:(g0.N ⟨w,uT C g w ids,fun _=>False,g0⟩) b):uT C g w ids b:=by
 rcases h with h|h
 ·exact h
 ·exact absurd rfl h
inductive br (S:St) (ids:List Nat):Cnt → PV → Prop
 | per {A:PV}:br S ids (.per A) A
 | obj {id vr:Nat} {O:OV} {A:PV} (hv:S.ver id = vr) (hb:S.blk id = .obj O) (hl:ld O A) (hi:jr id ids = true):br S ids (.row id vr) A
 | row {id vr e k:Nat} {es:List (List PV)} (hv:S.ver id = vr) (hb:S.blk id = .row e k es) (hi:jr id ids = true):br S ids (.row id vr) (cD k es)
inductive bp (S:St) (ids:List Nat):List Cnt → List PV → Prop
 | nil:bp S ids [] []
 | cons {c:Cnt} {A:PV} {l:List Cnt} {l':List PV} (h:br S ids c A) (k:bp S ids l l'):bp S ids (c :: l) (A :: l')
theorem bp.get {ids:List Nat} {l:List Cnt} {l':List PV} (h:bp S ids l l'):l'.length = l.length ∧ ∀ (j:Nat) (c:Cnt) (A:PV),l[j]? = some c → l'[j]? = some A → br S ids c A:=by
 induction h with
 | nil=>exact ⟨rfl,fun j O A h=>by simp at h⟩
 | cons h k ih=>
  refine ⟨by simp [ih.1],fun j O' A' h1 h2=>?_⟩
  cases j with
  | zero=>simp at h1 h2;subst h1;subst h2;exact h
  | succ j=>exact ih.2 j O' A' (by simpa using h1) (by simpa using h2)
theorem br.rep {ids:List Nat} {c:Cnt} {A:PV} (h:br S ids c A) (hA:dd F T S) (hF:∀ i ∈ ids,2 * i + 1 ∈ F) (hR:RG C n T g a w) {v:Value} (hc:crep C T.ver g w v c):A.p (uT C g w ids) w v:=by
 cases h with
 | per=>exact A.mono (Nat.le_refl _) (fun _ _ _=>rfl) (fun b _ hb=>hb.2.1) hc
 | @obj id vr O A hv hb hl hi=>
  have hF':=hF id (da.1 hi)
  have h1:=hR.blks id
  rw [(hA.2 id hF').1,hb] at h1
  rw [hc.2 (by rw [(hA.2 id hF').2,hv])]
  exact hl h1 (fun b hb=>⟨(hR.dom b id hb).1,fun q=>q.2.2 id (da.1 hi) hb⟩) (fun b hb=>hb.2.1)
 | @row id vr e k es hv hb hi=>
  have hF':=hF id (da.1 hi)
  have h1:=hR.blks id
  rw [(hA.2 id hF').1,hb] at h1
  rw [hc.2 (by rw [(hA.2 id hF').2,hv])]
  show dW _ _ k es w (g.rh id)
  rcases h1 with ⟨q1,rfl⟩|⟨cap,cs,q1,q2,q3,q4,q5,q6,q7⟩
  ·exact ⟨none,0,0,0,by rw [q1];rfl,by simp,by decide,fun _=>rfl,by simp,fun i cs hi=>by simp at hi⟩
  ·refine ⟨_,cap,g.ph id,0,q1,q4,q5,by simp,fun _=>⟨rfl,(hR.dom _ _ q3).1,fun hn=>hn.2.2 id (da.1 hi) q3⟩,fun i ps hi=>?_⟩
   obtain ⟨r1,r2⟩:=q7 i ps hi
   refine ⟨r1,fun j A hj=>?_⟩
   obtain ⟨y,s1,s2,s3⟩:=r2 j A hj
   exact ⟨y,by rw [Nat.zero_add,eo q2];exact s1,s2,A.mono (Nat.le_refl _) (fun _ _ _=>rfl) (fun b _ hb=>hb.2.1) s3⟩
theorem L0 {ids:List Nat} {x:Operand} {c:Cnt} {A:PV} (hx:S.opd x = c) (h:br S ids c A) (hF:∀ k ∈ aA x,k ∈ F) (hI:∀ i ∈ ids,2 * i + 1 ∈ F):gU F S ids x (.per A):=fun n C T g a w hA hR=>by
 have hc:=aD (x:=x) hA hF hR
 rw [hx] at hc
 exact A.mono (Nat.le_refl _) (fun _ _ _=>rfl) (fun b _ hb=>P9 hb) (h.rep hA hI hR hc)
theorem N1 {ids:List Nat} {x:Operand} {id vr e:Nat} {cells:List Cnt} {As:List PV} (hx:S.opd x = .ptr id vr 0) (hv:S.ver id = vr) (hb:S.blk id = .box e cells) (hi:jr id ids = true) (h:bp S ids cells As) (hF:∀ k ∈ aA x,k ∈ F) (hI:∀ i ∈ ids,2 * i + 1 ∈ F):gU F S ids x (.per (dw As)):=fun n C T g a w hA hR=>by
 obtain ⟨h1,cs,h2,h3,h4,h5⟩:=pn hA hF (hI id (da.1 hi)) hR hx hv hb
 obtain ⟨hl,hg⟩:=h.get
 refine (dw As).mono (N:=uT C g w ids) (Nat.le_refl _) (fun _ _ _=>rfl) (fun b _ hb=>P9 hb) ⟨g.ph id,0,h1,(hR.dom _ _ h3).1,fun hn=>hn.2.2 id (da.1 hi) h3,fun j A hj=>?_⟩
 have hlt:j < cells.length:=by
  rw [← hl]
  rcases Nat.lt_or_ge j As.length with q|q
  ·exact q
  ·rw [List.getElem?_eq_none q] at hj;cases hj
 obtain ⟨y,q1,q2,q3⟩:=h5 j _ (List.getElem?_eq_getElem hlt)
 exact ⟨y,by rw [Nat.zero_add,eo h2];exact q1,q2,(hg j _ A (List.getElem?_eq_getElem hlt) hj).rep hA hI hR q3⟩
theorem N2 {ids:List Nat} {x:Operand} {k:Nat} {es:List (List PV)} (hx:S.opd x = .per (cD k es)) (hF:∀ k ∈ aA x,k ∈ F):gU F S ids x (.bor k es):=fun n C T g a w hA hR=>by
 have h:=aD (x:=x) hA hF hR
 rw [hx] at h
 exact qR (fun b hb=>(P9 hb).2.1) h
inductive kU (F:List Nat) (S:St) (ids:List Nat):List Operand → List Cnt → Prop
 | nil:kU F S ids [] []
 | cons {x:Operand} {c:Cnt} {xs:List Operand} {cs:List Cnt} (h:gU F S ids x c) (t:kU F S ids xs cs):kU F S ids (x :: xs) (c :: cs)
theorem kU.rep {ids:List Nat} {xs:List Operand} {cs:List Cnt} (h:kU F S ids xs cs) (hA:dd F T S) (hR:RG C n T g a w):qO (uT C g w ids) w (xs.map a.eval) cs:=by
 induction h with
 | nil=>exact ⟨rfl,fun i v c hi=>by simp at hi⟩
 | cons h t ih=>
  refine ⟨by simp [ih.1],fun i v c hi hc=>?_⟩
  cases i with
  | zero=>
   simp at hi hc;subst hi;subst hc
   exact h n C T g a w hA hR
  | succ i=>exact ih.2 i v c (by simpa using hi) (by simpa using hc)
theorem I0 {ids:List Nat} {f:FuncId} {xs:List Operand} {As:List Cnt} {r:Ret} (hp:Pl n o t) (ho:iE o f xs) (hf:Fn P f As r) (hpl:r.plain = true) (ha:Br r) (hg:kU F S ids xs As):aw n P ops o F (rF t 0 r) [] S:=by
 refine ⟨?_⟩
 intro C T hA a w ⟨g,hR⟩
 unfold ia
 rw [if_pos (hp.wanted a)]
 refine vt hf.ent ho (hf.run _ w (xs.map a.eval) (fun b h=>h.1) (hg.rep hA hR)) ?_
 rintro v w' ⟨hx,hr⟩
 exact ⟨g,hR.app0 hx hp.dOk (uf hR hpl (ha.h hr))⟩
end
section
variable {P:Program} {n:Nat} {S:St}
end
theorem L3 (l:List Ety) (n:Int) {i j:Nat}:∀ d:Nat,tW l n (j - i + d) i j = tW l n (j - i) i j:=by
 intro d
 induction d with
 | zero=>rfl
 | succ d ih=>rw [← ih];exact Bn l n (j - i + d) i j (by omega)
theorem I1 (l:List Ety) (n:Int) {i j f:Nat} (h:j - i ≤ f):tW l n f i j = tW l n (j - i) i j:=by
 obtain ⟨d,rfl⟩:∃ d,f = j - i + d:=⟨f - (j - i),by omega⟩
 exact L3 l n d
theorem L4 (l:List Ety) (n:Int) {i j h:Nat} (hij:i < j) (hh:(i + j) / 2 = h) :
 tW l n (j - i) i j = if jA l h - n < 0 then tW l n (j - (h + 1)) (h + 1) j else tW l n (h - i) i h:=by
 subst hh
 obtain ⟨f,hf⟩:∃ f,j - i = f + 1:=⟨j - i - 1,by omega⟩
 rw [hf,tW,if_pos hij]
 rw [I1 l n (f:=f) (i:=(i + j) / 2 + 1) (j:=j) (by omega),I1 l n (f:=f) (i:=i) (j:=(i + j) / 2) (by omega)]
theorem N3 (l:List Ety) (n:Int) (i:Nat):tW l n (i - i) i i = i:=by rw [Nat.sub_self];rfl
theorem p6 {l:List Ety} {i:Nat} (h:i < l.length):jA l i = l[i].1:=by
 unfold jA;rw [List.getElem?_eq_getElem h]
abbrev Qc (x:Ety):Cnt:=.per (bX (li x))
abbrev bt (l:List Ety):Blk:=.row 140 2 (l.map li)
abbrev Ph:Cnt:=.per (av (.func (.func 187) #[] #[]))
section
theorem I2 (x:Ety) (c:Int) (h1:1 ≤ x.1 ∧ x.1 ≤ 1099511627776) (h2:1 ≤ c ∧ c ≤ 1099511627776):de Tryz.prog 187 [Qc x,iC .i64 c] [] (.per (av (.int .i64 (x.1 - c)))) []:=by
 obtain ⟨a,k⟩:=x
 simp only at h1 ⊢
 generalize hd:a - c = d
 refine eR Tryz.func187 Tryz.ntmps187 ?_
 (refine eL hd ?_;repeat' first|apply ai|refine aj fun hc=>?_)
 refine ⟨(by first|exact .inl rfl|exact .inr rfl),cc [] rfl rfl .nil ?_⟩
 exact cL rfl rfl
theorem N4 (l:List Ety) (c:Int) (hl:l.length ≤ 1000000000) (hk:uR l) (h2:1 ≤ c ∧ c ≤ 1099511627776) :
 de Tryz.prog 186 [.row 1000 0,iC .i64 c,Ph] [(1000,bt l)] (.tup2 (.per (av (.int .i64 (f5 l c:Nat)))) (.per (av (.bool (yS l c))))) [(1000,bt l)]:=by
 have hp0:tW l c (l.length - 0) 0 l.length = f5 l c:=rfl
 have hb0:yS l c = (decide (f5 l c < l.length) && decide (jA l (f5 l c) - c = 0)):=rfl
 generalize yS l c = b at *
 generalize f5 l c = p at *
 refine eR Tryz.func186 Tryz.ntmps186 ?_
 (refine qp ?_;repeat' first|apply ai|refine aj fun hc=>?_)
 refine an (X:=Nat × Nat) (fun z=>z.1 ≤ z.2 ∧ z.2 ≤ l.length ∧ tW l c (z.2 - z.1) z.1 z.2 = p)
  (fun z=>ba [(0,.row 1000 0),(1,iC .i64 c),(2,Ph),(8,iC .i64 (l.length:Nat)),(9,iC .i64 (z.1:Nat)),(10,iC .i64 (z.2:Nat))] [(1000,bt l)]) (fun z=>z.2 - z.1) (0,l.length) ⟨Nat.zero_le _,Nat.le_refl _,hp0⟩ ?_ ?_
 ·exact ae
 ·rintro ⟨i,j⟩ ⟨g1,g2,g3⟩
  simp only at g1 g2 g3 ⊢
  clear hp0
  by_cases hij:i < j
  ·obtain ⟨h,hh⟩:∃ h:Nat,((i:Int) + (j:Int)) / 2 = (h:Nat):=⟨(i + j) / 2,by omega⟩
   have hih:i ≤ h:=by omega
   have hhj:h < j:=by omega
   have hhl:h < l.length:=by omega
   have hmm:=I2 l[h] c (hk _ (List.getElem_mem hhl)) h2
   have kL1:Hid ((l.map li)[h]? = some (li l[h])):=Lib.hid (by rw [List.getElem?_map,List.getElem?_eq_getElem hhl];rfl)
   rw [L4 l c (h:=h) hij (by omega),p6 hhl] at g3
   generalize l[h] = x at *
   clear hb0 hk
   by_cases hlt:x.1 - c < 0
   ·rw [if_pos hlt] at g3
    (refine lP hh ?_;repeat' first|apply ai|refine aj fun hc=>?_|((first|apply aO rfl|apply aP rfl|apply aQ rfl|apply aR rfl);(focus ((try (apply b8;(focus rfl);apply ah rfl rfl rfl rfl rfl));first|(exact Iy [] hmm)));refine lP hh ?_))
    refine ⟨(h + 1,j),⟨by simp only;omega,g2,g3⟩,by simp only;omega,?_⟩
    clear g3
    exact ae
   ·rw [if_neg hlt] at g3
    (refine lP hh ?_;repeat' first|apply ai|refine aj fun hc=>?_|((first|apply aO rfl|apply aP rfl|apply aQ rfl|apply aR rfl);(focus ((try (apply b8;(focus rfl);apply ah rfl rfl rfl rfl rfl));first|(exact Iy [] hmm)));refine lP hh ?_))
    refine ⟨(i,h),⟨by simp only;omega,by simp only;omega,g3⟩,by simp only;omega,?_⟩
    clear g3
    exact ae
  ·obtain rfl:i = j:=by omega
   rw [N3] at g3
   subst g3
   by_cases hn:i < l.length
   ·have hmm:=I2 l[i] c (hk _ (List.getElem_mem hn)) h2
    have kL1:Hid ((l.map li)[i]? = some (li l[i])):=Lib.hid (by rw [List.getElem?_map,List.getElem?_eq_getElem hn];rfl)
    rw [p6 hn,decide_eq_true hn,Bool.true_and] at hb0
    generalize l[i] = x at *
    subst hb0
    clear hk
    (refine qp ?_;repeat' first|apply ai|refine aj fun hc=>?_|((first|apply aO rfl|apply aP rfl|apply aQ rfl|apply aR rfl);(focus ((try (apply b8;(focus rfl);apply ah rfl rfl rfl rfl rfl));first|((apply bn 5;(focus rfl);exact aB ⟨rfl,rfl,rfl⟩ rfl inferInstance inferInstance rfl rfl rfl kL1.out rfl rfl rfl))|(exact Iy [] hmm)));refine qp ?_))
    refine P5 ?_ ?_
    ·exact cL rfl rfl
    ·exact b0 rfl (by first|rfl|(simp;done))
   ·rw [decide_eq_false hn,Bool.false_and] at hb0
    subst hb0
    clear hk
    (refine qp ?_;repeat' first|apply ai|refine aj fun hc=>?_)
    refine P5 ?_ ?_
    ·exact cL rfl rfl
    ·exact b0 rfl rfl
theorem CZ (l:List Ety) (c:Int) (hl:l.length ≤ 1000000000) (hk:uR l) (h2:1 ≤ c ∧ c ≤ 1099511627776) :
 de Tryz.prog 141 [.row 1000 0,iC .i64 c] [(1000,bt l)] (.tup2 (.per (av (.int .i64 (f5 l c:Nat)))) (.per (av (.bool (yS l c))))) [(1000,bt l)]:=by
 have h:=N4 l c hl hk h2
 generalize yS l c = b at *
 generalize f5 l c = p at *
 refine eR Tryz.func141 Tryz.ntmps141 ?_
 (have km1:=(show fv [(1000,1000)] _ _ _ _ _ _ from h);refine qp ?_;(repeat' first|apply ai|refine aj fun hc=>?_);all_goals clear km1)
 refine P5 ?_ ?_
 ·exact cL rfl rfl
 ·exact b0 rfl rfl
end
end Go.Proofs.YtliiahjpiagdkaaGreat
