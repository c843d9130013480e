/- Texts joined: Adapt So AbsY. -/
import Derived.Test.YtliiahjpiagdkaaGreatJ05
import Derived.Test.YtliiahjpiagdkaaGreatJ04
import Derived.Shelf.SlSortCmp.NoneTotal
import Derived.WalkSpells
set_option maxRecDepth 10000
set_option maxHeartbeats 8000000
namespace Go.Proofs.YtliiahjpiagdkaaGreat
open Go.RowKit
def eC {α:Type} (enc:α → List Value) (x:α):List PV:=(enc x).map av
theorem Nx {α:Type} {top N:BP} {k:Nat} {enc:α → List Value} {l:List α} {w:World} {v:Value} (h:dW top N k (l.map (eC enc)) w v):Sl k enc w v l:=by
 obtain ⟨ad,c,b,of,h1,h2,h3,h4,h5,h6⟩:=h
 simp only [List.length_map] at h1 h2 h5
 refine ⟨ad,c,b,of,h1,h2,h3,fun h0=>(h5 h0).1,h4,fun i x hx j y hy=>?_⟩
 obtain ⟨_,q⟩:=h6 i (eC enc x) (by rw [List.getElem?_map,hx];rfl)
 obtain ⟨u,r1,_,r3⟩:=q j (av y) (by unfold eC;rw [List.getElem?_map,hy];rfl)
 have r3:u = y:=r3
 subst r3;exact r1
theorem Cu {N0:BP} {w:World} {vs:List Value} {c d:Cnt} (h:qO N0 w vs [c,d]):∃ v u,vs = [v,u] ∧ crep ⟨w,N0,fun _=>False,g0⟩ (fun _=>0) g0 w v c ∧ crep ⟨w,N0,fun _=>False,g0⟩ (fun _=>0) g0 w u d:=by
 obtain ⟨h1,h2⟩:=h
 match vs,h1 with
 | [v,u],_=>exact ⟨v,u,rfl,h2 0 v c rfl rfl,h2 1 u d rfl rfl⟩
abbrev cw (b:Bool):Ret:=.per (av (.bool b))
abbrev gy (n:Int):Ret:=.per (av (.int .i64 n))
abbrev MY (l:List Int):Cnt:=.bor 1 (l.map P4)
end Go.Proofs.YtliiahjpiagdkaaGreat
namespace Go.Proofs.YtliiahjpiagdkaaGreat
open Go.RowKit Go.Shelf
def Gw (w w':World):Prop:=∃ (q:Nat) (os:Array Obj),w' = Sort.grow (w.drewN q) os
theorem Gw.refl (w:World):Gw w w:=⟨0,#[],by simp [World.drewN]⟩
theorem Gw.drewN {w w':World} (h:Gw w w') (n:Nat):Gw w (w'.drewN n):=by
 obtain ⟨q,os,rfl⟩:=h
 exact ⟨q + n,os,by simp [World.drewN,Sort.grow,Nat.add_assoc]⟩
theorem Gw.drew {w w':World} (h:Gw w w'):Gw w w'.drew:=h.drewN 1
theorem Gw.alloc {w w':World} (h:Gw w w') (o:Obj):Gw w (w'.alloc o):=by
 obtain ⟨q,os,rfl⟩:=h
 exact ⟨q,os ++ #[o],by rw [Sort.alloc_eq_grow,Sort.grow_grow]⟩
theorem Gw.trans {a b c:World} (h:Gw a b) (k:Gw b c):Gw a c:=by
 obtain ⟨q,os,rfl⟩:=h
 obtain ⟨q',os',rfl⟩:=k
 exact ⟨q + q',os ++ os',by simp [World.drewN,Sort.grow,Nat.add_assoc,Array.append_assoc]⟩
theorem xX {β:Type} (d:Array β):d.extract 0 d.size = d:=by simp
def jf {α:Type} [Inhabited α] (cf:α → α → Int) (l:List α):List α:=(Sort.pdq (ltOf cf) l.toArray 0 l.length (Lib.bitLen l.length) true true).toList
section
variable {α:Type} [Inhabited α] {cf:α → α → Int}
theorem gL (hO:Sort.SWO (ltOf cf)) (l:List α):(jf cf l).Perm l ∧ (jf cf l).Pairwise (fun x y=>ltOf cf y x = false):=by
 have h:=Sort.pdq_sorts (ltOf cf) hO l.toArray 0 l.length (Lib.bitLen l.length) true true (Nat.zero_le _) (by simp) (Or.inl rfl)
 unfold jf
 generalize Sort.pdq (ltOf cf) l.toArray 0 l.length (Lib.bitLen l.length) true true = d at h
 obtain ⟨⟨h1,_,h3⟩,h4⟩:=h
 have hs:d.size = l.length:=by simpa using h1
 have e1:d.extract 0 l.length = d:=by rw [← hs];exact xX d
 have e2:(l.toArray).extract 0 l.length = l.toArray:=by simp
 rw [e1,e2] at h3
 refine ⟨by simpa using h3,?_⟩
 rw [List.pairwise_iff_getElem]
 intro i j hi hj hij
 have:=h4 i j (Nat.zero_le _) hij (by rw [← hs];simpa using hj)
 rw [getElem!_pos d j (by simpa using hj),getElem!_pos d i (by simpa using hi)] at this
 simpa using this
theorem mM (hO:Sort.SWO (ltOf cf)) (l:List α):(jf cf l).length = l.length:=(gL hO l).1.length_eq
end
section
variable {P:Program}
theorem xY {α:Type} {F G:FuncId} {k e:Nat} {enc:α → List Value} (hE:Dv k enc) {l l':List α} (hlen:l'.length = l.length) (hent:MU P F)
 (hnil:∀ w,Calls P F #[.slice none 0 0,.func (.func G) #[] #[]] w fun e w'=>e = .returned (.tuple #[]) ∧ w' = w)
 (hrun:∀ (b cap:Nat) (w:World),b < w.heap.size → (∀ i x,l[i]? = some x → ∀ j v,(enc x)[j]? = some v → w.cell? ⟨b,i * k + j,none⟩ = some v ∧ w.frozen? ⟨b,i * k + j,none⟩ = false) →
   Calls P F #[.slice (some ⟨b,0,none⟩) l.length cap,.func (.func G) #[] #[]] w fun e w'=>e = .returned (.tuple #[]) ∧ ∃ (n:Nat) (os:Array Obj) (f:Array Value → Array Value),w' = Sort.grow (Sort.mapBlock (Sort.ahead w n) b f) os ∧
    ∀ cs:Array Value,(f cs).size = cs.size ∧ ∀ i x,l'[i]? = some x → ∀ j v,(enc x)[j]? = some v → i * k + j < cs.size → (f cs)[i * k + j]? = some v) :
 de P F [.row 1000 0,.per (av (.func (.func G) #[] #[]))] [(1000,.row e k (l.map (eC enc)))] .any [(1000,.row e k (l'.map (eC enc)))]:=by
 refine ⟨hent,?_⟩
 intro C w vs hW hN hO hvl hvs hb
 obtain ⟨v0,v1,rfl⟩:∃ v0 v1,vs = [v0,v1]:=by match vs,hvl with|[a,b],_=>exact ⟨a,b,rfl⟩
 have h0:=hvs 0 v0 _ rfl rfl
 have h1:=hvs 1 v1 _ rfl rfl
 have e1:v1 = .func (.func G) #[] #[]:=h1
 have e0:v0 = C.G0.rh 1000:=h0.2 rfl
 subst e0 e1
 have other:∀ (l:List α) id,id ≠ 1000 → cW id [(1000,Blk.row e k (l.map (eC enc)))] = .none:=fun l id h=>by simp [cW,dm h]
 have this1:∀ (l:List α),cW 1000 [(1000,Blk.row e k (l.map (eC enc)))] = .row e k (l.map (eC enc)):=fun l=>rfl
 have hrow:=hb 1000
 rw [this1] at hrow
 rcases hrow with ⟨q1,q2⟩|⟨cap,cs,q1,q2,q3,q4,q5,q6,q7⟩
 ·have hl0:l = []:=by simpa using q2
  have hl0':l' = []:=List.eq_nil_of_length_eq_zero (by rw [hlen,hl0];rfl)
  rw [q1]
  refine (hnil w).mono ?_
  rintro e' w' ⟨rfl,rfl⟩
  refine ⟨_,C.G0,rfl,⟨rfl,rfl,rfl,Nat.le_refl _,fun _ _ _=>rfl,fun b id h=>⟨(hO b id h).1,.inr (hO b id h).2⟩,fun _ _=>⟨rfl,rfl⟩⟩,trivial,fun id=>?_⟩
  by_cases hid:id = 1000
  ·subst hid
   exact .inl ⟨q1,by rw [hl0'];rfl⟩
  ·rw [other _ _ hid];trivial
 ·rw [List.length_map] at q1 q4
  obtain ⟨b,hb0⟩:∃ b,b = C.G0.ph 1000:=⟨_,rfl⟩
  rw [← hb0] at q1 q2 q3
  have hbl:=hO b 1000 q3
  have hcells:∀ i x,l[i]? = some x → ∀ j v,(enc x)[j]? = some v → w.cell? ⟨b,i * k + j,none⟩ = some v ∧ w.frozen? ⟨b,i * k + j,none⟩ = false:=by
   intro i x hi j v hj
   obtain ⟨_,g⟩:=q7 i (eC enc x) (by rw [List.getElem?_map,hi];rfl)
   obtain ⟨y,y1,_,y3⟩:=g j (av v) (by unfold eC;rw [List.getElem?_map,hj];rfl)
   have y3:y = v:=y3
   subst y3
   refine ⟨by simp [World.cell?,q2,y1],by simp [World.frozen?,q2]⟩
  rw [q1]
  refine (hrun b cap w hbl.1 hcells).mono ?_
  rintro e' w' ⟨rfl,n,os,f,rfl,hf⟩
  have hblock:∀ b',b' < w.heap.size → b' ≠ b → (Sort.grow (Sort.mapBlock (Sort.ahead w n) b f) os).heap[b']? = w.heap[b']?:=fun b' h h'=>by
   show ((w.heap.modify b (Sort.onCells f)) ++ os)[b']? = _
   rw [Array.getElem?_append_left (by simpa using h),Array.getElem?_modify,if_neg (Ne.symm h')]
  have hthis:(Sort.grow (Sort.mapBlock (Sort.ahead w n) b f) os).heap[b]? = some (.cells (f cs) e (0,0)):=by
   show ((w.heap.modify b (Sort.onCells f)) ++ os)[b]? = _
   rw [Array.getElem?_append_left (by simpa using hbl.1),Array.getElem?_modify,if_pos rfl,q2]
   rfl
  have hsz:w.heap.size ≤ (Sort.grow (Sort.mapBlock (Sort.ahead w n) b f) os).heap.size:=by
   show _ ≤ ((w.heap.modify b (Sort.onCells f)) ++ os).size
   simp
  refine ⟨_,C.G0,rfl,⟨rfl,rfl,rfl,hsz,fun b' h h'=>hblock b' h (fun e=>h' (e ▸ hbl.2)),fun b' id h=>⟨Nat.lt_of_lt_of_le (hO b' id h).1 hsz,.inr (hO b' id h).2⟩,fun _ _=>⟨rfl,rfl⟩⟩,trivial,fun id=>?_⟩
  by_cases hid:id = 1000
  ·subst hid
   obtain ⟨f1,f2⟩:=hf cs
   refine .inr ⟨cap,f cs,?_,?_,?_,by simpa [hlen] using q4,q5,by rw [f1];exact q6,?_⟩
   ·rw [← hb0,List.length_map,hlen];exact q1
   ·rw [← hb0];exact hthis
   ·rw [← hb0];exact q3
   ·intro i ps hi
    rw [List.getElem?_map] at hi
    obtain ⟨x,hx,rfl⟩:=Option.map_eq_some_iff.1 hi
    refine ⟨by simp [eC,hE.len],fun j A hj=>?_⟩
    unfold eC at hj
    rw [List.getElem?_map] at hj
    obtain ⟨v,hv,rfl⟩:=Option.map_eq_some_iff.1 hj
    have hj':j < k:=by
     rw [← hE.len x];exact (List.getElem?_eq_some_iff.1 hv).1
    have hi':i < l'.length:=(List.getElem?_eq_some_iff.1 hx).1
    have hlt:i * k + j < cs.size:=by
     rw [q6]
     have h2:(i + 1) * k ≤ cap * k:=Nat.mul_le_mul_right k (by omega)
     rw [Nat.add_mul,Nat.one_mul] at h2
     omega
    exact ⟨v,f2 i x hx j v hv hlt,hE.one x v (List.mem_of_getElem? hv),rfl⟩
  ·rw [other _ _ hid];trivial
theorem Cv {i j k:Nat} (h:j < k):(i * k + j) / k = i ∧ (i * k + j) % k = j:=by
 have hk:0 < k:=by omega
 refine ⟨?_,?_⟩
 ·rw [Nat.add_comm,Nat.add_mul_div_right _ _ hk,Nat.div_eq_of_lt h,Nat.zero_add]
 ·rw [Nat.add_comm,Nat.add_mul_mod_self_right,Nat.mod_eq_of_lt h]
theorem put_get {β:Type} [Inhabited β] (en:β → Value) (F:Array β) (cs:Array Value) (t:Nat) (h:t < cs.size) (hF:t < F.size):(Sort.putCells en 0 F cs)[t]? = some (en F[t]!):=by
 unfold Sort.putCells
 rw [Array.getElem?_mapIdx,Array.getElem?_eq_getElem h]
 simp only [Option.map_some]
 rw [if_pos ⟨Nat.zero_le _,by omega⟩,Nat.sub_zero]
theorem pD {β:Type} [Inhabited β] (en:β → Value) (F:Array β) (cs:Array Value):(Sort.putCells en 0 F cs).size = cs.size:=by
 unfold Sort.putCells;simp
theorem pE {α:Type} [Inhabited α] {ρ:Ren} {G k e:Nat} (L:SlLaysF0.n6 P ρ) (aE:∀ w,(isAgg (ρ.t 24)).run P w = .ok true w) (zE:∀ w,(Go.sizeOf (ρ.t 24)).run P w = .ok k w) {enc:α → List Value} (hE:Dv k enc)
 {cf:α → α → Int} (hO:Sort.SWO (ltOf cf)) (eg:∀ args w,(callFunc G args).run P w = .ok (.enter G args) w)
 (hc:∀ x y w,Calls P G #[.agg (enc x).toArray,.agg (enc y).toArray] w fun e w'=>e = .returned (.int .i64 (cf x y)) ∧ Gw w w') (hent:MU P (ρ.f 6)) (l:List α) (hl:l.length < 4611686018427387904) :
 de P (ρ.f 6) [.row 1000 0,.per (av (.func (.func G) #[] #[]))] [(1000,.row e k (l.map (eC enc)))] .any [(1000,.row e k ((jf cf l).map (eC enc)))]:=by
 refine xY hE (mM hO l) hent (fun w=>AnyF.slices_SortFunc_none L none 0 _ w) ?_
 intro b cap w hb hcells
 have hH:Sort.HoldsK enc k w b 0 l.toArray:=by
  intro t ht
  rw [Sort.size_flatK] at ht
  have hk:0 < k:=hE.pos
  have hi:t / k < l.length:=Nat.div_lt_of_lt_mul (by rw [Nat.mul_comm];simpa using ht)
  have hj:t % k < (enc (l[t / k])).length:=by rw [hE.len];exact Nat.mod_lt _ hk
  have h1:=hcells (t / k) l[t / k] (List.getElem?_eq_getElem hi) (t % k) _ (List.getElem?_eq_getElem hj)
  rw [Sort.get_flatK _ _ _ _ ht,Nat.zero_add,show t / k * k + t % k = t from by rw [Nat.mul_comm];exact Nat.div_add_mod t k] at *
  rw [getElem!_pos l.toArray (t / k) (by simpa using hi),List.getElem_toArray,getElem!_pos _ (t % k) hj]
  exact h1
 have hcmp:CmpLays P G #[] enc k cf b 0 l.toArray.size w:=fun m os dk _ x y=>hc x y _
 have:=AnyQ.slices_SortFunc_eq (P:=P) (ρ:=ρ) L k aE zE enc hE.len hE.one cf hO G #[] b 0 cap l.toArray w eg hcmp hH hb (by simpa using hl)
 rw [List.size_toArray] at this
 refine this.mono ?_
 rintro e' w' ⟨he,n,os,hw⟩
 have hs:=mM hO l
 unfold jf at hs ⊢
 generalize Sort.pdq (ltOf cf) l.toArray 0 l.length (Lib.bitLen l.length) true true = d at *
 rw [Array.length_toList] at hs
 refine ⟨he,n,os,Sort.putCells id 0 (Sort.flatK enc k d),hw,fun cs=>⟨pD _ _ _,fun i x hi j v hj hlt=>?_⟩⟩
 have hj':j < k:=by rw [← hE.len x];exact (List.getElem?_eq_some_iff.1 hj).1
 have hi':i < d.size:=by simpa using (List.getElem?_eq_some_iff.1 hi).1
 have hlt':i * k + j < d.size * k:=by
  have:=Nat.mul_le_mul_right k (show i + 1 ≤ d.size from hi')
  rw [Nat.add_mul,Nat.one_mul] at this
  omega
 rw [put_get _ _ _ _ hlt (by rw [Sort.size_flatK];exact hlt'),Sort.get_flatK _ _ _ _ hlt',(Cv hj').1,(Cv hj').2]
 have ex:d[i]! = x:=by
  rw [getElem!_pos d i hi']
  have:=(List.getElem?_eq_some_iff.1 hi).2
  simpa using this
 obtain ⟨q1,q2⟩:=List.getElem?_eq_some_iff.1 hj
 rw [ex,getElem!_pos _ j q1,q2]
 rfl
theorem D4 {α:Type} [Inhabited α] {ρ:Ren} {G e:Nat} (L:SlLaysF.n6 P ρ) {enc:α → Value} (hE:OneCell enc)
 {cf:α → α → Int} (hO:Sort.SWO (ltOf cf)) (eg:∀ args w,(callFunc G args).run P w = .ok (.enter G args) w)
 (hc:∀ x y w,Calls P G #[enc x,enc y] w fun e w'=>e = .returned (.int .i64 (cf x y)) ∧ Gw w w') (hent:MU P (ρ.f 6)) (l:List α) (hl:l.length < 4611686018427387904) :
 de P (ρ.f 6) [.row 1000 0,.per (av (.func (.func G) #[] #[]))] [(1000,.row e 1 (l.map (eC fun x=>[enc x])))] .any [(1000,.row e 1 ((jf cf l).map (eC fun x=>[enc x])))]:=by
 refine xY (enc:=fun x=>[enc x]) ⟨by decide,fun _=>rfl,fun x v hv=>by simp at hv;subst hv;exact hE x⟩ (mM hO l) hent (fun w=>AnyF.slices_SortFunc_none { L with } none 0 _ w) ?_
 intro b cap w hb hcells
 have hH:Sort.Holds enc w b 0 l.toArray:=by
  intro t ht
  have hi:t < l.length:=by simpa using ht
  have h1:=hcells t l[t] (List.getElem?_eq_getElem hi) 0 _ rfl
  rw [Nat.mul_one,Nat.add_zero] at h1
  rw [getElem!_pos l.toArray t (by simpa using hi),List.getElem_toArray,Nat.zero_add]
  exact h1
 have hcmp:CmpLays1 P G #[] enc cf b 0 l.toArray.size w:=fun m os dk _ x y=>hc x y _
 have:=Any.slices_SortFunc_eq (P:=P) (ρ:=ρ) L enc hE cf hO G #[] b 0 cap l.toArray w eg hcmp hH hb (by simpa using hl)
 rw [List.size_toArray] at this
 refine this.mono ?_
 rintro e' w' ⟨he,n,os,hw⟩
 have hs:=mM hO l
 unfold jf at hs ⊢
 generalize Sort.pdq (ltOf cf) l.toArray 0 l.length (Lib.bitLen l.length) true true = d at *
 rw [Array.length_toList] at hs
 refine ⟨he,n,os,Sort.putCells enc 0 d,hw,fun cs=>⟨pD _ _ _,fun i x hi j v hj hlt=>?_⟩⟩
 obtain ⟨q1,q2⟩:=List.getElem?_eq_some_iff.1 hj
 obtain rfl:j = 0:=by simpa using q1
 have hi':i < d.size:=by simpa using (List.getElem?_eq_some_iff.1 hi).1
 rw [Nat.mul_one,Nat.add_zero] at hlt ⊢
 rw [put_get _ _ _ _ hlt hi']
 have ex:d[i]! = x:=by
  rw [getElem!_pos d i hi']
  have:=(List.getElem?_eq_some_iff.1 hi).2
  simpa using this
 rw [ex]
 simpa using q2
end
section
variable {n:Nat} {S:St}
theorem GI {id v id' v':Nat} {B B':Blk} {i v0:Nat} {B0:Blk} (h:ub [(id,v,B),(id',v',B')] i = some (v0,B0)):(i = id ∧ v0 = v ∧ B0 = B) ∨ (i = id' ∧ v0 = v' ∧ B0 = B'):=by
 unfold ub at h
 cases hb:Nat.beq i id with
 | true=>rw [hb] at h;cases h;exact .inl ⟨aG.1 hb,rfl,rfl⟩
 | false=>
  rw [hb] at h
  have h':ub [(id',v',B')] i = some (v0,B0):=h
  rw [kh] at h'
  split at h'
  ·rename_i e;cases h';exact .inr ⟨e,rfl,rfl⟩
  ·cases h'
theorem dM (id off idr e er k:Nat) {cells:List Cnt} (hb:S.blk id = .box e cells) (hc:cells[off]? = some (.per (av (.slice none 0 0)))) (hne:Nat.beq idr id = false:=by rfl) (hfx:cV idr = false:=by rfl) :
 Le n S (S.app none .any [(id,S.ver id,.box e (cells.set off (.row idr (S.ver idr + 1)))),(idr,S.ver idr + 1,.row er k [])]):=by
 rintro C a w ⟨g,hR⟩
 have hne':idr ≠ id:=fun e=>by rw [aG.2 e] at hne;cases hne
 have hvr:∀ i,(S.app none .any [(id,S.ver id,.box e (cells.set off (.row idr (S.ver idr + 1)))),(idr,S.ver idr + 1,.row er k [])]).ver i = if i = idr then S.ver idr + 1 else S.ver i:=by
  intro i
  rw [St.app_ver]
  unfold ub
  cases h1:Nat.beq i id with
  | true=>
   have:=aG.1 h1
   subst this
   rw [if_neg (Ne.symm hne')];rfl
  | false=>
   show ((ub [(idr,S.ver idr + 1,Blk.row er k [])] i).map (·.1)).getD (S.ver i) = _
   rw [kh]
   split <;> rfl
 have hst:=mG (v:=.slice none 0 0) (t:=idr) hR (bw.refl w) hvr hfx
 have hrh:(g.mkN idr (.slice none 0 0)).rh idr = .slice none 0 0:=if_pos rfl
 have hid:hst = hst:=rfl
 refine ⟨g.mkN idr (.slice none 0 0),?_⟩
 have key:=hR.appL (g':=g.mkN idr (.slice none 0 0)) (bs:=[(id,S.ver id,.box e (cells.set off (.row idr (S.ver idr + 1)))),(idr,S.ver idr + 1,.row er k [])]) (d:=none) (fun t h=>by cases h) (c:=.any) (v:=undef)
  (hst.cong (fun i hi=>by
    subst hi
    unfold ub
    rw [hne]
    show ub [(i,S.ver i + 1,Blk.row er k [])] i ≠ none
    rw [kh,if_pos rfl];simp)) trivial ?_
 ·exact key
 ·intro i v B hu
  rcases GI hu with ⟨rfl,rfl,rfl⟩|⟨rfl,rfl,rfl⟩
  ·have h0:=hst.brep (fun b id e=>(hR.dom b id e).1) (id:=i) (fun h=>hne' h.symm) (hR.blks i)
   rw [hb] at h0
   obtain ⟨cs,q1,q2,q3,q4⟩:=h0
   refine ⟨cs,q1,q2,by rw [q3];simp,fun j c hj=>?_⟩
   rw [List.getElem?_set] at hj
   split at hj
   ·rename_i e1
    subst e1
    split at hj
    ·cases hj
     obtain ⟨y,r1,r2,r3⟩:=q4 off _ hc
     refine ⟨y,r1,r2,by rw [hvr,if_pos rfl];exact Nat.le_refl _,fun _=>?_⟩
     rw [hrh];exact r3
    ·cases hj
   ·exact q4 j c hj
  ·exact .inl ⟨hrh,rfl⟩
end
def Ny (es:List (List PV)):PV:=⟨fun _ _ u=>∃ b,u = .bool b ∧ (b = true → es = []),fun _ _ _ h=>h⟩
section
variable {P:Program} {n:Nat} {ops:Array Oper} {o:Oper} {S:St} {t:Nat}
theorem Cw {ty e:TypeId} {x y:Operand} {a:Option Addr} {l c:Nat} (hT:P.underlying ty = some (.slice e)) (w:World):(do eqGuard .eql ty x y (.slice a l c) (.slice none 0 0);binOp .eql ty (.slice a l c) (.slice none 0 0)).run P w = .ok (.bool a.isNone) w:=by
 rw [show eqGuard .eql ty x y (.slice a l c) (.slice none 0 0) = pure () from rfl]
 exact Lib.run_eql_slice_nil w _ _ a l c 0 0 hT
theorem O3 {ty ty' e:TypeId} {x:Operand} {k:Nat} {es:List (List PV)} (hp:Pl n o t) (ho:o.op = .binOp .eql ty x (.const (.slice none 0 0)) ty') (hT:dQ P ty (.slice e)) (hx:Src (cJ S x) S x k es) :
 aw n P ops o (cJ S x) (.per (Ny es)) [] S:=
 aM hp fun C T g a w hA hR=>by
  obtain ⟨ad,c,b,of,hv,_,_,_,h5,_⟩:=hx n C T g a w hA hR
  refine ⟨.bool ad.isNone,ij ho hv rfl (Cw hT.h w),_,rfl,fun hn=>?_⟩
  rcases Nat.eq_zero_or_pos es.length with q|q
  ·exact List.eq_nil_of_length_eq_zero q
  ·rw [(h5 q).1] at hn;cases hn
theorem Nz {ty ty' e:TypeId} {x:Operand} {k:Nat} {es:List (List PV)} (hp:Pl n o t) (ho:o.op = .binOp .eql ty x (.const (.slice none 0 0)) ty') (hT:dQ P ty (.slice e)) (hx:Src (cJ S x) S x k es) (h0:0 < es.length) :
 aw n P ops o (cJ S x) (bC false) [] S:=
 aM hp fun C T g a w hA hR=>by
  obtain ⟨ad,c,b,of,hv,_,_,_,h5,_⟩:=hx n C T g a w hA hR
  exact ⟨.bool false,ij ho hv rfl ((Cw hT.h w).trans (by rw [(h5 h0).1];rfl)),rfl⟩
theorem cX {Q:Exit → St → Prop} {c:Operand} {x y:Code} {es:List (List PV)} (hc:c = .tmp t) (hb:S.get t = .per (Ny es))
 (h1:es = [] → AW P n x Q S) (h2:AW P n y Q S):AW P n (.cond c x y) Q S:=⟨fun C a w hr=>by
 obtain ⟨g,hg⟩:=hr
 have:=hg.slots t
 rw [hb] at this
 obtain ⟨b,hv,hn⟩:=this
 subst hc
 exact wp_cond_split (t:=b) hv (fun h=>(h1 (hn h)).run C a w ⟨g,hg⟩) (fun _=>h2.run C a w ⟨g,hg⟩)⟩
theorem vI {w:World} {ty e:TypeId} {k len i:Nat} {kk:IntKind} {b of:Nat} (hT:P.underlying ty = some (.array len e)) (hk:P.cellsOf e = k) (h0:0 < k) (hi:i < len) :
 (Instr.indexAt ty (.pointer (some ⟨b,of,none⟩)) (.int kk (i:Int))).run P w = .ok (.pointer (some ⟨b,of + i * k,none⟩)) w:=by
 have hel:P.elem ty = e:=by unfold Program.elem;rw [hT]
 have hal:P.arrayLen ty = len:=by unfold Program.arrayLen;rw [hT]
 rw [run_indexAt_array (h:=by rw [hel,hal];exact hT),hal,if_pos ⟨by omega,by omega⟩,hel,eT hk h0]
 simp [Result.andThen,Addr.add_lit]
theorem GJ {ty e:TypeId} {x ix:Operand} {id vr off k i len:Nat} {kk:IntKind} {z:Int} (hp:Pl n o t) (ho:o.op = .indexAddr ty x ix) (hT:dQ P ty (.array len e)) (hk:cT P e k) (h0:Nat.blt 0 k = true)
 (hx:S.opd x = .ptr id vr off) (hv:S.ver id = vr) (hi:S.opd ix = iC kk z) (hz:z = (i:Int)) (hlt:i < len):aw n P ops o ((2 * id + 1) :: (aA x ++ aA ix)) (.ptr id vr (off + i * k)) [] S:=
 aM hp fun C T g a w hA hR=>by
  have h:=aD (x:=x) hA (fun k h=>by simp [h]) hR
  rw [hx] at h
  have h3:=aV (x:=ix) hA (fun k h=>by simp [h]) hR hi
  have hv':=(hA.2 id (by simp)).2
  have hev:=h.2 (by omega)
  refine ⟨.pointer (some ⟨g.ph id,off + i * k,none⟩),?_,⟨by omega,fun _=>rfl⟩⟩
  subst hz
  simp only [execOp,ho,hev,h3,Sem.run_bind,vI hT.h hk.h (Nat.le_of_ble_eq_true h0) hlt];rfl
theorem xZ {ty e:TypeId} {x ix:Operand} {i len:Nat} {kk:IntKind} {z:Int} {As:List PV} {A:PV} (hp:Pl n o t) (ho:o.op = .index ty x ix) (hT:dQ P ty (.array len e)) (hk:cT P e 1) (hE:bD P e false)
 (hx:S.opd x = .per (bX As)) (hi:S.opd ix = iC kk z) (hz:z = (i:Int)) (hlt:i < len) (hA0:As[i]? = some A):aw n P ops o (aA x ++ aA ix) (.per A) [] S:=
 aM hp fun C T g a w hA hR=>by
  have h:=aD (x:=x) hA (fun k h=>by simp [h]) hR
  rw [hx] at h
  obtain ⟨vs,hev,_,q⟩:=h
  obtain ⟨y,q1,_,q3⟩:=q i A hA0
  have h3:=aV (x:=ix) hA (fun k h=>by simp [h]) hR hi
  obtain ⟨d,hd,hd'⟩:=hE.h
  refine ⟨y,?_,q3⟩
  subst hz
  simp only [execOp,ho,hev,h3,Instr.index,asIntOf,Sem.run_bind,Sem.run_pure,Result.andThen_ok,run_underlying hT.h]
  rw [if_pos ⟨by omega,by omega⟩]
  simp only [Sem.run_bind,eT hk.h (by decide),Result.andThen_ok,part,mD hd,hd']
  simp [q1]
end
theorem x7 (l:List Cnt) (j:Nat) (c:Cnt) (h:j < l.length):iM l j [c] = l.set j c:=by
 unfold iM
 rw [List.set_eq_take_append_cons_drop,if_pos h]
 rfl
def O4 (c c':Cnt):Prop:=∀ (C:Ctx) (vr:Nat → Nat) (g:Gh) (w:World) (v:Value),crep C vr g w v c → crep C vr g w v c'
theorem La {k:Nat}:O4 (.per (av (.slice none 0 0))) (.per (cD k [])):=fun C vr g w v h=>by
 have h:v = .slice none 0 0:=h
 rw [h]
 exact ⟨none,0,0,0,rfl,by simp,by decide,fun _=>rfl,by simp,fun i cs hi=>by simp at hi⟩
theorem GK {n:Nat} {S:St} (id e:Nat) {cells cells':List Cnt} (hb:S.blk id = .box e cells) (hl:cells'.length = cells.length) (h:∀ (j:Nat) (c c':Cnt),cells[j]? = some c → cells'[j]? = some c' → O4 c c') :
 Le n S (S.app none .any [(id,S.ver id,.box e cells')]):=by
 rintro C a w ⟨g,hR⟩
 have hvr:∀ i,(S.app none .any [(id,S.ver id,.box e cells')]).ver i = S.ver i:=fun i=>by
  rw [St.app_some_ver];split
  ·rename_i e;rw [e]
  ·rfl
 refine ⟨g,hR.defers,hR.tsz,hR.nle,hR.keep,hR.os,hR.tape,hR.output,hR.size,hR.old,hR.n0,hR.n0l,hR.dom,fun t=>?_,fun i=>?_⟩
 ·rw [show (S.app none .any [(id,S.ver id,.box e cells')]).ver = S.ver from funext hvr,St.app_get]
  exact hR.slots t
 ·rw [show (S.app none .any [(id,S.ver id,.box e cells')]).ver = S.ver from funext hvr,St.app_some_blk]
  split
  ·rename_i hi
   subst hi
   have h0:=hR.blks i
   rw [hb] at h0
   obtain ⟨cs,q1,q2,q3,q4⟩:=h0
   refine ⟨cs,q1,q2,by rw [q3,hl],fun j c' hj=>?_⟩
   have hjl:j < cells.length:=by have:=(List.getElem?_eq_some_iff.1 hj).1;omega
   obtain ⟨y,r1,r2,r3⟩:=q4 j _ (List.getElem?_eq_getElem hjl)
   exact ⟨y,r1,r2,h j _ c' (List.getElem?_eq_getElem hjl) hj C _ g w y r3⟩
  ·exact hR.blks i
end Go.Proofs.YtliiahjpiagdkaaGreat
