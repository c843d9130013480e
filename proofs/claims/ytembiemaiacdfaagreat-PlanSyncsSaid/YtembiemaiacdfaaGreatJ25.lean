/- Texts joined: OpenIt ArgsA Wk AbsMix. -/
import Derived.Test.YtembiemaiacdfaaGreatJ01
import Derived.ProofKit
import Derived.OpenShut
import Derived.ShutString
import Derived.ChangeOld
import Derived.Deep.Slices
import Derived.Test.YtembiemaiacdfaaGreatJ08
import Derived.Test.YtembiemaiacdfaaGreatRows
import Derived.Test.YtembiemaiacdfaaGreatJ05
import Derived.Test.YtembiemaiacdfaaGreatJ06
import Derived.Test.YtembiemaiacdfaaGreatJ07
import Derived.Test.YtembiemaiacdfaaGreatJ03
set_option maxRecDepth 10000
set_option maxHeartbeats 8000000
namespace Go.Proofs.YtembiemaiacdfaaGreat
open Go.RowKit Go.Deep Go.ChangeShapes Go.WideShapes
def Rd (P:Program) (w:World) (t:TypeId) (Q:List Value → Prop):Prop:=
 ∀ (H:Type) (enc:TypeId × Value → H) (spare:Nat → Bool) (held:Bool) (fuel:Nat) (cs:List Value) (x:DataW H × List MemPlace),DataW.trod enc P w 0 spare held fuel t cs = some x → Q cs
section
variable {P:Program} {w:World} {t:TypeId}
theorem Rd.mono {Q Q':List Value → Prop} (h:Rd P w t Q) (hq:∀ cs,Q cs → Q' cs):Rd P w t Q':=fun H enc sp hd f cs x hx=>hq _ (h H enc sp hd f cs x hx)
theorem Rd.int {k:IntKind} (ht:P.underlying t = some (.int k)):Rd P w t (fun cs=>∃ n,cs = [.int k n] ∧ (Lit.int k n).wf = true):=by
 intro H enc sp hd f cs x hx
 obtain ⟨n,h1,_,h2⟩:=DataW.trod_int ht hx
 exact ⟨n,h1,h2⟩
theorem Rd.bool (ht:P.underlying t = some .bool):Rd P w t (fun cs=>∃ b,cs = [.bool b]):=by
 intro H enc sp hd f cs x hx
 obtain ⟨n,h1,_⟩:=DataW.trod_bool ht hx
 exact ⟨n,h1⟩
theorem Rd.string (ht:P.underlying t = some .string):Rd P w t (fun cs=>∃ s,cs = [.string s] ∧ s.size ≤ maxLen):=by
 intro H enc sp hd f cs x hx
 obtain ⟨n,h1,_,h2⟩:=DataW.trod_string ht hx
 exact ⟨n,h1,h2⟩
theorem Rd.struct {fs:Array Field} (ht:P.underlying t = some (.struct fs)) :
   Rd P w t (fun cs=>cs.length = P.cellsOf t ∧ ∀ (i:Nat) (f:Field),fs[i]? = some f → ∀ Q,Rd P w f.type Q → Q ((cs.drop f.offset).take (P.cellsOf f.type))):=by
 intro H enc sp hd f cs x hx
 obtain ⟨xs,n,_,_,hl,hs,hall⟩:=DataW.trod_struct ht hx
 refine ⟨hl,fun i f hf Q hQ=>?_⟩
 have hi:i < fs.size:=by
   rcases Nat.lt_or_ge i fs.size with h|h
   · exact h
   · rw [Array.getElem?_eq_none h] at hf;cases hf
 have:=hall i f hf
 rw [List.getElem?_eq_getElem (by omega)] at this
 exact hQ _ _ _ _ _ _ _ this
theorem Rd.struct' {fs:Array Field} (ht:P.underlying t = some (.struct fs)) :
   Rd P w t (fun cs=>cs.length = P.cellsOf t ∧ ∀ (i off:Nat) (ty:TypeId) (sz:Nat) (Q:List Value → Prop),(fs[i]?).map (fun f=>(f.offset,f.type)) = some (off,ty) → P.cellsOf ty = sz → Rd P w ty Q → Q ((cs.drop off).take sz)):=by
 refine (Rd.struct ht).mono ?_
 rintro cs ⟨h1,h2⟩
 refine ⟨h1,fun i off ty sz Q hi hsz hQ=>?_⟩
 cases hf:fs[i]? with
 | none=>rw [hf] at hi;cases hi
 | some f=>
   rw [hf] at hi
   simp at hi
   obtain ⟨rfl,rfl⟩:=hi
   subst hsz
   exact h2 i f hf Q hQ
theorem Rd.array {n:Nat} {e:TypeId} (ht:P.underlying t = some (.array n e)) {Q:List Value → Prop} (hQ:Rd P w e Q) :
   Rd P w t (fun cs=>cs.length = P.cellsOf t ∧ ∀ i,i < n → Q ((cs.drop (i * P.cellsOf e)).take (P.cellsOf e))):=by
 intro H enc sp hd f cs x hx
 obtain ⟨xs,m,_,_,hl,hs,hall⟩:=DataW.trod_array ht hx
 refine ⟨hl,fun i hi=>?_⟩
 have:=hall i hi
 rw [List.getElem?_eq_getElem (by omega)] at this
 exact hQ _ _ _ _ _ _ _ this
theorem nm {α:Type} {G:Nat → α → Prop}:∀ (n:Nat),(∀ i,i < n → ∃ x,G i x) → ∃ l:List α,l.length = n ∧ ∀ (i:Nat) (x:α),l[i]? = some x → G i x:=by
 intro n
 induction n with
 | zero=>intro _;exact ⟨[],rfl,fun i x h=>by simp at h⟩
 | succ n ih=>
   intro h
   obtain ⟨l,hl,hg⟩:=ih (fun i hi=>h i (by omega))
   obtain ⟨x,hx⟩:=h n (by omega)
   refine ⟨l ++ [x],by simp [hl],fun i y hy=>?_⟩
   rcases Nat.lt_or_ge i n with hi|hi
   · rw [List.getElem?_append_left (by omega)] at hy;exact hg i y hy
   · rw [List.getElem?_append_right (by omega)] at hy
     have:i = n:=by
       by_cases h0:i = n
       · exact h0
       · rw [List.getElem?_eq_none (by simp;omega)] at hy;cases hy
     subst this
     rw [hl] at hy;simp at hy;subst hy;exact hx
theorem Rd.slice {α:Type} {e:TypeId} {k:Nat} {enc:α → List Value} {Qe:List Value → Prop} {G:α → Prop} (ht:P.underlying t = some (.slice e)) (hk:P.cellsOf e = k) (hk0:0 < k)
   (hQ:Rd P w e Qe) (hdec:∀ cs,Qe cs → ∃ x:α,cs = enc x ∧ G x) :
   Rd P w t (fun cs=>∃ v l,cs = [v] ∧ Sl k enc w v l ∧ ∀ x ∈ l,G x):=by
 intro H en sp hd f cs x hx
 subst hk
 rcases DataW.trod_slice ht hx with ⟨rfl,_⟩|⟨a,len,cap,elems,rest,n,_,rfl,_,hb,hl,hm,hlen,hel,_,_⟩
 · exact ⟨_,[],rfl,⟨none,0,0,0,rfl,by simp,by unfold maxLen;omega,by simp,fun _=>rfl,fun i x hx=>by simp at hx⟩,by simp⟩
 · have key:∀ i,i < len → ∃ x:α,w.cells? 0 (a.add (i * P.cellsOf e)) (P.cellsOf e) = some (enc x) ∧ G x:=by
     intro i hi
     have:=hel i hi
     rw [List.getElem?_eq_getElem (by omega)] at this
     cases hc:w.cells? 0 (a.add (i * P.cellsOf e)) (P.cellsOf e) with
     | none=>rw [hc] at this;simp at this
     | some cs'=>
       rw [hc] at this
       obtain ⟨x,rfl,hg⟩:=hdec cs' (hQ _ _ _ _ _ _ _ this)
       exact ⟨x,rfl,hg⟩
   obtain ⟨l,hll,hcells⟩:=nm len key
   subst hll
   refine ⟨_,l,rfl,?_,fun x hx=>?_⟩
   · have hsp:0 < l.length → a = ⟨a.block,a.off,none⟩:=by
       intro h0
       obtain ⟨c0,hc0⟩:=World.cells?_some (hcells 0 l[0] (by simp [h0])).1
       have h00:=hc0.2 0 (by omega)
       rw [Nat.zero_mul] at h00
       have hz:a.add 0 = a:=by simp [Addr.add]
       rw [hz,hz] at h00
       have:0 < (enc l[0]).length:=by omega
       rw [List.getElem?_eq_getElem this] at h00
       have:=World.cell?_spot h00
       cases a;simp_all
     refine ⟨some a,cap,a.block,a.off,rfl,hl,hm,fun h0=>by rw [← hsp h0],(fun h=>by cases h),?_⟩
     intro i x hx j y hy
     have hi:i < l.length:=by
       rcases Nat.lt_or_ge i l.length with h|h
       · exact h
       · rw [List.getElem?_eq_none h] at hx;cases hx
     obtain ⟨c0,hc0⟩:=World.cells?_some (hcells i x hx).1
     have hj:j < P.cellsOf e:=by
       rcases Nat.lt_or_ge j (enc x).length with h|h
       · omega
       · rw [List.getElem?_eq_none h] at hy;cases hy
     have:=hc0.2 j hj
     rw [add_add,hy] at this
     rw [hsp (by omega),Addr.add_lit] at this
     rw [show a.off + i * P.cellsOf e + j = a.off + (i * P.cellsOf e + j) by omega];exact this
   · obtain ⟨i,hi,rfl⟩:=List.getElem_of_mem hx
     exact (hcells i _ (by simp [hi])).2
end
section
variable {P:Program} {w:World} {t e s:TypeId}
theorem Rd.u8dec:∀ cs,(∃ n,cs = [Value.int .u8 n] ∧ (Lit.int .u8 n).wf = true) → ∃ x:UInt8,cs = encB x ∧ True:=by
 rintro cs ⟨n,rfl,h⟩
 have:=bounds_u8 h
 refine ⟨UInt8.ofNat n.toNat,?_,trivial⟩
 unfold encB
 congr 2
 rw [UInt8.toNat_ofNat']
 omega
theorem Rd.bytes (ht:P.underlying t = some (.slice e)) (he:P.underlying e = some (.int .u8)) (hc:P.cellsOf e = 1) :
   Rd P w t (fun cs=>∃ v l,cs = [v] ∧ Bs w v l):=
 (Rd.slice ht hc (by decide) (Rd.int he) Rd.u8dec).mono fun cs ⟨v,l,h1,h2,_⟩=>⟨v,l,h1,h2⟩
end
section
variable {P:Program}
structure nM (P:Program) (w:World) (t:TypeId) (v:Value):Prop where
 ok:∃ b,Value.okWide P w .any b t v
 rd:∀ Q,Rd P w t Q → Q v.cells.toList
def mB (P:Program) (w:World):List TypeId → List Value → Prop
 | [],[]=>True
 | t :: ts,v :: vs=>nM P w t v ∧ mB P w ts vs
 | _,_=>False
section
variable {w:World} {t e s:TypeId} {v:Value}
theorem nM.cells (h:nM P w t v) (ht:(match P.underlying t with|some (.struct _)=>true|some (.array _ _)=>true|_=>false) = true):∃ cs:Array Value,v = .agg cs:=by
 obtain ⟨b,hb⟩:=h.ok
 unfold Value.okWide at hb
 split at hb
 · obtain ⟨cs,h1,_⟩:=hb;exact ⟨cs,h1⟩
 · obtain ⟨cs,h1,_⟩:=hb;exact ⟨cs,h1⟩
 · rename_i h1 h2
   split at ht
   · rename_i hu;exact absurd hu (h1 _)
   · rename_i hu;exact absurd hu (h2 _ _)
   · cases ht
theorem nM.int (h:nM P w t v) {k:IntKind} (ht:P.underlying t = some (.int k)):∃ n,v = .int k n ∧ (Lit.int k n).wf = true:=by
 obtain ⟨b,hb⟩:=h.ok
 obtain ⟨n,rfl⟩:=okWide_int ht hb
 obtain ⟨m,h1,h2⟩:=h.rd _ (Rd.int ht)
 simp [Value.cells] at h1;subst h1
 exact ⟨n,rfl,h2⟩
theorem nM.bool (h:nM P w t v) (ht:P.underlying t = some .bool):∃ n,v = .bool n:=by
 obtain ⟨b,hb⟩:=h.ok
 exact okWide_bool ht hb
theorem nM.string (h:nM P w t v) (ht:P.underlying t = some .string):∃ n,v = .string n ∧ n.size ≤ maxLen:=by
 obtain ⟨b,hb⟩:=h.ok
 obtain ⟨n,rfl⟩:=okWide_string ht hb
 obtain ⟨m,h1,h2⟩:=h.rd _ (Rd.string ht)
 simp [Value.cells] at h1;subst h1
 exact ⟨n,rfl,h2⟩
theorem nM.slice (h:nM P w t v) (ht:P.underlying t = some (.slice e)) {Q:Value → Prop} (hq:Rd P w t (fun cs=>∃ v,cs = [v] ∧ Q v)):Q v:=by
 obtain ⟨b,hb⟩:=h.ok
 obtain ⟨a,l,c,rfl⟩:=okWide_slice ht hb
 obtain ⟨x,h1,h2⟩:=h.rd _ hq
 simp [Value.cells] at h1;subst h1
 exact h2
theorem nM.bytes (h:nM P w t v) (ht:P.underlying t = some (.slice e)) (he:P.underlying e = some (.int .u8)) (hc:P.cellsOf e = 1):∃ l,Bs w v l:=
 h.slice (Q:=fun v=>∃ l,Bs w v l) ht ((Rd.bytes ht he hc).mono fun _ ⟨v,l,h1,h2⟩=>⟨v,h1,l,h2⟩)
theorem nM.flats {α:Type} {k:Nat} {enc:α → List Value} {Qe:List Value → Prop} {G:α → Prop} (h:nM P w t v) (ht:P.underlying t = some (.slice e)) (hk:P.cellsOf e = k) (hk0:0 < k)
   (hQ:Rd P w e Qe) (hdec:∀ cs,Qe cs → ∃ x:α,cs = enc x ∧ G x):∃ l,Sl k enc w v l ∧ ∀ x ∈ l,G x:=
 h.slice (Q:=fun v=>∃ l,Sl k enc w v l ∧ ∀ x ∈ l,G x) ht ((Rd.slice ht hk hk0 hQ hdec).mono fun _ ⟨v,l,h1,h2,h3⟩=>⟨v,h1,l,h2,h3⟩)
end
theorem mB.cons {w:World} {t:TypeId} {ts:List TypeId} {vs:List Value} (h:mB P w (t :: ts) vs):∃ v vs',vs = v :: vs' ∧ nM P w t v ∧ mB P w ts vs':=by
 cases vs with
 | nil=>exact h.elim
 | cons v vs=>exact ⟨v,vs,rfl,h.1,h.2⟩
theorem mB.nil {w:World} {vs:List Value} (h:mB P w [] vs):vs = []:=by
 cases vs with
 | nil=>rfl
 | cons v vs=>exact h.elim
theorem mB.one {w:World} {t0:TypeId} {args:Array Value} (h:mB P w [t0] args.toList):∃ v0,args = #[v0] ∧ nM P w t0 v0:=by
 obtain ⟨v0,_,e,h0,h⟩:=h.cons
 obtain rfl:=h.nil
 exact ⟨v0,by cases args;simp_all,h0⟩
theorem mB.three {w:World} {t0 t1 t2:TypeId} {args:Array Value} (h:mB P w [t0,t1,t2] args.toList):∃ v0 v1 v2,args = #[v0,v1,v2] ∧ nM P w t0 v0 ∧ nM P w t1 v1 ∧ nM P w t2 v2:=by
 obtain ⟨v0,_,e,h0,h⟩:=h.cons
 obtain ⟨v1,_,rfl,h1,h⟩:=h.cons
 obtain ⟨v2,_,rfl,h2,h⟩:=h.cons
 obtain rfl:=h.nil
 exact ⟨v0,v1,v2,by cases args;simp_all,h0,h1,h2⟩
theorem Jl {H:Type} {enc:TypeId × Value → H} {w:World}:∀ (ts:List TypeId) (vs:List Value) (ds:List (DataW H)) (p:List MemPlace),
   DataW.TrodAll enc P w 0 (fun _=>true) true ts vs ds p → (∀ (j:Nat) t v,ts[j]? = some t → vs[j]? = some v → ∃ b,Value.okWide P w .any b t v) → mB P w ts vs:=by
 intro ts
 induction ts with
 | nil=>intro vs ds p h _;obtain ⟨rfl,_,_⟩:=trodAll_nil h;trivial
 | cons t ts ih=>
   intro vs ds p h hok
   obtain ⟨v,vs',d,ds',p',q,rfl,rfl,rfl,h1,h2⟩:=trodAll_cons h
   refine ⟨⟨hok 0 t v rfl rfl,fun Q hQ=>?_⟩,ih _ _ _ h2 fun j t v h h'=>hok (j + 1) t v (by simpa using h) (by simpa using h')⟩
   obtain ⟨fuel,hf⟩:=h1
   exact hQ _ _ _ _ _ _ _ hf
theorem wP {H:Type} {enc:TypeId × Value → H} {w w':World} (hl:laidOutB P = true) (he:dJ w w'):∀ (ts:List TypeId) (vs:List Value) (ds:List (DataW H)) (p:List MemPlace),
   (∀ t ∈ ts,P.readableRec t = true ∧ t < P.types.size) →
   DataW.TrodAll enc P w 0 (fun _=>true) true ts vs ds p → DataW.TrodAll enc P w' 0 (fun b=>decide (b < w.heap.size)) true ts vs ds p:=by
 intro ts
 induction ts with
 | nil=>intro vs ds p _ h;obtain ⟨rfl,rfl,rfl⟩:=trodAll_nil h;exact trodAll_mk0
 | cons t ts ih=>
   intro vs ds p hr h
   obtain ⟨v,vs',d,ds',p',q,rfl,rfl,rfl,h1,h2⟩:=trodAll_cons h
   have hlt:∀ x ∈ p',x.block < w.heap.size:=by obtain ⟨m,hm⟩:=h1;exact DataW.trod_lt m _ _ _ hm
   exact trodAll_cons_mk (Below.trod hl (hr t (by simp)).1 (hr t (by simp)).2 h1 he hlt) (ih _ _ _ (fun t ht=>hr t (by simp [ht])) h2)
theorem zh {C:Checked} {f:FuncId} {fn:Func} {s:ChangeSpec} {T:TypeId} (own:ownKnob C.prog.godebug = none) (laidOut:laidOutB C.prog = true)
   (noInit:C.prog.inits.idxOf? f = none) (hfn:C.prog.funcs[f]? = some fn) (hres:fn.resultTypes = #[T]) (hT:C.prog.underlying T = some .bool)
   (hread:fn.params.toList.all (fun t=>C.prog.readableRec t && decide (t < C.prog.types.size)) = true)
   (hvars:s.vars = []) (hspec:∀ (H:Type) (ds:List (DataW H)),ds.length = fn.params.size → (s.fn H (ds ++ [])).results = [.lit (.bool true)] ∧ (s.fn H (ds ++ [])).args = ds ∧ (s.fn H (ds ++ [])).vars = [])
   (walk:∀ (w:World) (args:Array Value),mB C.prog w fn.params.toList args.toList → Calls C.prog f args w fun e w'=>e = .returned (.bool true) ∧ dJ w w')
   {conds:List PathCond} (os:Os) (started:os.Started) (H:Type) (enc:TypeId × Value → H)
   (witness:∃ (w:World) (tape:Tape) (i:Input),w.os = os ∧ (w.forCall tape i).Shaped C.prog ∧ i.vars = [] ∧ Input.okWide C.prog (w.forCall tape i) .any w.heap.size f i ∧
     s.pre6 enc C.prog fn conds false (w.forCall tape i).memory i.args ∧ ({}:Assume).holds C.prog (lone (Frame.enter C.prog f i.args .normal) [] (w.forCall tape i))) :
   ReturnsInHanded {} C os f .any (s.pre6 enc C.prog fn conds false) (s.post enc C.prog fn false true false false):=by
 refine returnsInHanded_of_change (C:=C) own started noInit hfn witness ?_
 intro W base args ds gs before hval hW hcnd _
 have hW':=hW
 obtain ⟨p,q,hA,hV,rfl,hfz,hnd⟩:=hW
 rw [hvars] at hV
 obtain ⟨rfl,rfl⟩:=trodVars_none hV
 have hargs:mB C.prog W fn.params.toList args.toList:=Jl _ _ _ _ hA fun j t v h h'=>⟨base,hval j t v (by simpa using h) (by simpa using h')⟩
 have hlen:ds.length = fn.params.size:=by
   have:∀ (ts:List TypeId) (vs:List Value) (ds:List (DataW H)) (p:List MemPlace),DataW.TrodAll enc C.prog W 0 (fun _=>true) true ts vs ds p → ds.length = ts.length:=by
     intro ts
     induction ts with
     | nil=>intro vs ds p h;obtain ⟨_,rfl,_⟩:=trodAll_nil h;rfl
     | cons t ts ih=>intro vs ds p h;obtain ⟨_,_,_,_,_,_,rfl,rfl,rfl,_,h2⟩:=trodAll_cons h;simp [ih _ _ _ h2]
   rw [this _ _ _ _ hA];simp
 obtain ⟨e1,e2,e3⟩:=hspec H ds hlen
 refine (walk W args hargs).mono fun e W' ⟨he,bel⟩=>?_
 subst he
 refine ⟨_,rfl,ds,[],_,[],p,[],hW',?_,?_,?_,bel.below.frame _,fun h=>by cases h⟩
 · rw [e1,hres];exact trodAll_mk1 (shut_bool hT true)
 · rw [e2]
   refine wP laidOut bel _ _ _ _ (fun t ht=>?_) hA
   have:=List.all_eq_true.1 hread t ht
   simpa using this
 · rw [e3,hvars];rfl
end
end Go.Proofs.YtembiemaiacdfaaGreat
namespace Go.Proofs.YtembiemaiacdfaaGreat
open Go.RowKit
theorem LQ {α:Type} (l:List α) (h:l.length = 7):∃ a b c d e f g,l = [a,b,c,d,e,f,g]:=by
 match l,h with|[a,b,c,d,e,f,g],_=>exact ⟨a,b,c,d,e,f,g,rfl⟩
theorem F1 {α:Type} (l:List α) (h:l.length = 2):∃ a b,l = [a,b]:=by
 match l,h with|[a,b],_=>exact ⟨a,b,rfl⟩
theorem LR (w:World):Rd Tryz.prog w 59 (fun cs=>∃ r c,cs = [Value.int .i64 r,.int .i64 c] ∧ (Lit.int .i64 r).wf = true ∧ (Lit.int .i64 c).wf = true):=by
 refine (Rd.struct' Tryz.underlying59).mono ?_
 rintro cs ⟨hl,hf⟩
 obtain ⟨c0,c1,rfl⟩:=F1 cs (hl.trans (by kernel_rfl))
 obtain ⟨r,h1,w1⟩:=hf 0 0 3 1 _ rfl (by kernel_rfl) (Rd.int Tryz.underlying3)
 obtain ⟨c,h2,w2⟩:=hf 1 1 3 1 _ rfl (by kernel_rfl) (Rd.int Tryz.underlying3)
 simp at h1 h2
 subst h1 h2
 exact ⟨r,c,rfl,w1,w2⟩
def KW (x:It):Prop:=x.key.size ≤ maxLen ∧ x.body.size ≤ maxLen ∧ (Lit.int .i64 x.rep).wf = true ∧ (Lit.int .i64 x.cnt).wf = true ∧ (Lit.int .i64 x.rank).wf = true ∧ (Lit.int .i64 x.prio).wf = true
theorem LS (w:World):Rd Tryz.prog w 61 (fun cs=>∃ x,cs = encIt x ∧ KW x):=by
 refine (Rd.struct' Tryz.underlying61).mono ?_
 rintro cs ⟨hl,hf⟩
 obtain ⟨c0,c1,c2,c3,c4,c5,c6,rfl⟩:=LQ cs (hl.trans (by kernel_rfl))
 obtain ⟨s0,h0,w0⟩:=hf 0 0 9 1 _ rfl (by kernel_rfl) (Rd.string Tryz.underlying9)
 obtain ⟨r,c,h1,w1,w1'⟩:=hf 1 1 59 2 _ rfl (by kernel_rfl) (LR w)
 obtain ⟨n2,h2,w2⟩:=hf 2 3 3 1 _ rfl (by kernel_rfl) (Rd.int Tryz.underlying3)
 obtain ⟨n3,h3,w3⟩:=hf 3 4 3 1 _ rfl (by kernel_rfl) (Rd.int Tryz.underlying3)
 obtain ⟨b4,h4⟩:=hf 4 5 4 1 _ rfl (by kernel_rfl) (Rd.bool Tryz.underlying4)
 obtain ⟨s5,h5,w5⟩:=hf 5 6 9 1 _ rfl (by kernel_rfl) (Rd.string Tryz.underlying9)
 simp at h0 h1 h2 h3 h4 h5
 obtain ⟨rfl,rfl⟩:=h1
 subst h0 h2 h3 h4 h5
 exact ⟨⟨s0,r,c,n2,n3,b4,s5⟩,rfl,w0,w5,w1,w1',w2,w3⟩
theorem nM.items {w:World} {v:Value} (h:nM Tryz.prog w 23 v):∃ l,MZ w v l ∧ ∀ x ∈ l,KW x:=
 h.flats Tryz.underlying23 (by kernel_rfl) (by decide) (LS w) fun cs ⟨x,h1,h2⟩=>⟨x,h1,h2⟩
def cx (w:World):Ctx:=⟨w,fun _=>False,fun _=>False,g0⟩
abbrev In (w:World) (v:Value) (c:Cnt):Prop:=crep (cx w) (fun _=>0) g0 w v c
theorem MD {P:Program} {f:FuncId} {c d d':Cnt} {w:World} {v v' v'':Value} (h:Fn P f [c,d,d'] (.per (aq (.bool true)))) (h0:In w v c) (h1:In w v' d) (h2:In w v'' d'):Calls P f #[v,v',v''] w fun e w'=>e = .returned (.bool true) ∧ dJ w w':=by
 refine (h.run (fun _=>False) w [v,v',v''] (fun _ hb=>hb.elim) ⟨rfl,fun i u d hi hj=>?_⟩).mono ?_
 · match i,hi,hj with
   | 0,hi,hj=>cases hi;cases hj;exact h0
   | 1,hi,hj=>cases hi;cases hj;exact h1
   | 2,hi,hj=>cases hi;cases hj;exact h2
   | _ + 3,hi,_=>simp at hi
 · rintro e w' ⟨u,rfl,hx,hu⟩
   have hu:u = .bool true:=hu
   exact ⟨by rw [hu],hx⟩
def Dr (A B:PV):Prop:=∀ (N:BP) (w:World) (v:Value),A.p N w v → B.p N w v
theorem Dr.refl {A:PV}:Dr A A:=fun _ _ _ h=>h
theorem uv {k:Nat}:Dr (aq (.slice none 0 0)) (ct k []):=fun N w v h=>by
 have h:v = .slice none 0 0:=h
 subst h
 exact ⟨none,0,0,0,rfl,by simp,by decide,fun _=>rfl,by simp,fun i cs hi=>by simp at hi⟩
inductive PW:List PV → List PV → Prop
 | nil:PW [] []
 | cons {A B:PV} {l l':List PV} (h:Dr A B) (k:PW l l'):PW (A :: l) (B :: l')
theorem PW.len {l l':List PV} (h:PW l l'):l.length = l'.length:=by
 induction h with
 | nil=>rfl
 | cons h k ih=>simp [ih]
theorem PW.get {l l':List PV} (h:PW l l'):∀ (j:Nat) (B:PV),l'[j]? = some B → ∃ A,l[j]? = some A ∧ Dr A B:=by
 induction h with
 | nil=>intro j B h;simp at h
 | @cons A B l l' h k ih=>
   intro j C hj
   cases j with
   | zero=>simp at hj;subst hj;exact ⟨A,rfl,h⟩
   | succ j=>simpa using ih j C (by simpa using hj)
theorem Jm {l l':List PV} (h:PW l l'):Dr (bP l) (bP l'):=fun N w v ⟨vs,e,h1,h2⟩=>by
 refine ⟨vs,e,by rw [h1,h.len],fun j B hj=>?_⟩
 obtain ⟨A,q1,q2⟩:=h.get j B hj
 obtain ⟨y,r1,r2,r3⟩:=h2 j A q1
 exact ⟨y,r1,r2,q2 N w y r3⟩
theorem aI {l l':List PV} (h:PW l l':=by (repeat (first|exact PW.nil|(refine PW.cons (by first|exact Dr.refl|exact uv) ?_)))):Dr (bP l) (bP l'):=Jm h
section
variable {P:Program} {n:Nat} {S:St} {A B:PV} {rv:ResultVar} {τ:List (Nat × Nat)}
theorem eX (h:bQ P n S rv (.per A)) (k:Dr A B):bQ P n S rv (.per B):=fun C g a w hL hR=>by
 obtain ⟨v,h1,h2⟩:=h C g a w hL hR
 exact ⟨v,h1,k _ _ _ h2⟩
end
section
variable {P:Program} {n:Nat} {ops:Array Oper} {o:Oper} {F:List Nat} {S T:St} {C:Ctx} {g:Gh} {a:Act} {w w':World} {t:Nat}
theorem F2 {id vr:Nat} {B:Blk} (hR:RG C n S g a w) (hv:S.ver id = vr) (hb:brep C S.ver g w id B):RG C n (S.putB [(id,vr,B)]) g a w:=by
 have hver:(S.putB [(id,vr,B)]).ver = S.ver:=by
   funext i
   rw [St.putB_ver]
   split
   · rename_i h;subst h;exact hv.symm
   · rfl
 refine ⟨hR.defers,hR.tsz,hR.nle,hR.keep,hR.os,hR.tape,hR.output,hR.size,hR.old,hR.n0,hR.n0l,hR.dom,fun t=>?_,fun i=>?_⟩
 · rw [hver];exact hR.slots t
 · rw [hver,St.putB_blk]
   split
   · rename_i h;subst h;exact hb
   · exact hR.blks i
theorem zj (id vr id2 e e2 k2:Nat) {D:List PV} (hv:S.ver id = vr) (hb:S.blk id = .row e 1 (D.map (fun A=>[A]) ++ [[aq (.slice none 0 0)]])) (hne:Nat.beq id id2 = false) (hfx:dK id2 = false:=by rfl) :
   Le n S ((S.putB [(id2,S.ver id2 + 1,.row e2 k2 [])]).putB [(id,vr,.mix e D (.row id2 (S.ver id2 + 1)))]):=by
 rintro C a w ⟨g,hR⟩
 have hne':id ≠ id2:=fun h=>by rw [ba.2 h] at hne;cases hne
 have hvr:∀ i,(S.app none .any [(id2,S.ver id2 + 1,.row e2 k2 [])]).ver i = if i = id2 then S.ver id2 + 1 else S.ver i:=fun i=>St.app_some_ver _ _ _ _ _ _ _
 have hst:=mL (v:=.slice none 0 0) (t:=id2) hR (dJ.refl w) hvr hfx
 have h1:=hR.app1 (d:=none) (c:=.any) (v:=undef) (fun _ h=>by cases h) hst trivial (.inl ⟨if_pos rfl,rfl⟩)
 have hvr2:=fun i=>St.putB_ver S id2 (S.ver id2 + 1) (.row e2 k2 []) i
 refine ⟨_,F2 (id:=id) (vr:=vr) h1 ?_ ?_⟩
 · rw [hvr2,if_neg hne',hv]
 · have h2:=h1.blks id
   rw [St.app_some_blk,if_neg hne',hb] at h2
   rcases h2 with ⟨_,q⟩|⟨cap,cs,q1,q2,q3,q4,q5,q6,q7⟩
   · simp at q
   · simp only [List.length_append,List.length_map,List.length_cons,List.length_nil] at q1 q4
     refine ⟨cap,cs,q1,q2,q3,q4,q5,by rw [q6,Nat.mul_one],fun i A hi=>?_,?_⟩
     · obtain ⟨_,r⟩:=q7 i [A] (by rw [List.getElem?_append_left (by
         have:=(List.getElem?_eq_some_iff.1 hi).1;simpa using this),List.getElem?_map,hi];rfl)
       obtain ⟨y,s1,s2,s3⟩:=r 0 A rfl
       exact ⟨y,by simpa using s1,s2,s3⟩
     · obtain ⟨_,r⟩:=q7 D.length [aq (.slice none 0 0)] (by rw [List.getElem?_append_right (by simp)];simp)
       obtain ⟨y,s1,s2,s3⟩:=r 0 _ rfl
       have s3:y = .slice none 0 0:=s3
       exact ⟨y,by simpa using s1,s2,by rw [hvr2,if_pos rfl];exact Nat.le_refl _,fun _=>by rw [s3];exact (if_pos rfl).symm⟩
theorem qM (id vr id2 e:Nat) {v2 e2 k2:Nat} {D:List PV} {es2:List (List PV)} (hv:S.ver id = vr) (hb:S.blk id = .mix e D (.row id2 v2)) (hv2:S.ver id2 = v2) (hb2:S.blk id2 = .row e2 k2 es2) :
   Le n S ((S.putB [(id2,v2 + 1,.none)]).putB [(id,vr,.row e 1 (D.map (fun A=>[A]) ++ [[ct k2 es2]]))]):=by
 rintro C a w ⟨g,hR⟩
 have hne':id ≠ id2:=fun h=>by rw [h,hb2] at hb;cases hb
 let g':Gh:=⟨fun b=>if g.ow b = some id2 then none else g.ow b,g.ph,g.rh⟩
 have hg':∀ b,g'.ow b = if g.ow b = some id2 then none else g.ow b:=fun _=>rfl
 have hvr:∀ i,(S.app none .any [(id2,v2 + 1,.none)]).ver i = if i = id2 then v2 + 1 else S.ver i:=fun i=>St.app_some_ver _ _ _ _ _ _ _
 have hst:md C (fun i=>i = id2) S.ver (S.app none .any [(id2,v2 + 1,.none)]).ver g g' w w:=by
   refine ⟨Nat.le_refl _,fun _ _ _=>rfl,fun b _ hn=>?_,fun b _ hn=>?_,fun b i e=>?_,fun i=>?_,fun _ _=>⟨rfl,rfl⟩,fun _ _=>⟨rfl,rfl⟩,rfl,rfl,rfl⟩
   · rw [hg',if_neg (hn id2 rfl)]
   · rw [hg'] at hn
     by_cases h:g.ow b = some id2
     · rw [h];simp
     · rwa [if_neg h] at hn
   · rw [hg'] at e
     by_cases h:g.ow b = some id2
     · rw [if_pos h] at e;cases e
     · rw [if_neg h] at e;exact hR.dom b i e
   · rw [hvr]
     by_cases h:i = id2
     · subst h;exact .inr ⟨rfl,by rw [if_pos rfl];omega⟩
     · rw [if_neg h];exact .inl rfl
 have hB:=hR.blks id
 rw [hb] at hB
 have hB2:=hR.blks id2
 rw [hb2] at hB2
 have h1:=hR.app1 (d:=none) (c:=.any) (v:=undef) (fun _ h=>by cases h) hst trivial trivial
 have hvr2:=fun i=>St.putB_ver S id2 (v2 + 1) .none i
 refine ⟨_,F2 (id:=id) (vr:=vr) h1 ?_ ?_⟩
 · rw [hvr2,if_neg hne',hv]
 · obtain ⟨cap,cs,q1,q2,q3,q4,q5,q6,q7,y,r1,r2,r3⟩:=hB
   have hlst:dH (g'.N C) (g'.N C) k2 es2 w y:=by
     rw [show y = g.rh id2 from r3.2 hv2.symm]
     rcases hB2 with ⟨t1,rfl⟩|⟨cap2,cs2,t1,t2,t3,t4,t5,t6,t7⟩
     · exact ⟨none,0,0,0,by rw [t1];rfl,by simp,by decide,fun _=>rfl,by simp,fun i cs hi=>by simp at hi⟩
     · have hd:=hR.dom _ _ t3
       refine ⟨_,cap2,g.ph id2,0,t1,t4,t5,by simp,fun _=>⟨rfl,hd.1,fun hn=>?_⟩,fun i ps hi=>?_⟩
       · rcases hn with hn|hn
         · have:=hR.n0 _ hn
           rcases hd.2 with q|q
           · omega
           · exact hR.n0l _ hn q
         · rw [hg',if_pos t3] at hn;exact hn rfl
       · obtain ⟨u1,u2⟩:=t7 i ps hi
         refine ⟨u1,fun j A hj=>?_⟩
         obtain ⟨y,s1,s2,s3⟩:=u2 j A hj
         exact ⟨y,by rw [Nat.zero_add,dV t2];exact s1,s2,A.mono (Nat.le_refl _) (fun _ _ _=>rfl) hst.n s3⟩
   refine .inr ⟨cap,cs,by simpa using q1,q2,by rw [hg',if_neg (by rw [q3];simpa using hne')];exact q3,by simpa using q4,q5,by rw [q6,Nat.mul_one],fun i ps hi=>?_⟩
   rcases Nat.lt_or_ge i D.length with hlt|hge
   · rw [List.getElem?_append_left (by simpa using hlt),List.getElem?_map] at hi
     cases hA:D[i]? with
     | none=>rw [hA] at hi;cases hi
     | some A=>
       rw [hA] at hi;cases hi
       refine ⟨rfl,fun j A' hj=>?_⟩
       cases j with
       | zero=>
         simp at hj;subst hj
         obtain ⟨y',s1,s2,s3⟩:=q7 i A hA
         exact ⟨y',by simpa using s1,s2,A.mono (Nat.le_refl _) (fun _ _ _=>rfl) hst.n s3⟩
       | succ j=>simp at hj
   · rw [List.getElem?_append_right (by simpa using hge)] at hi
     have h0:i - (D.map (fun A=>[A])).length = 0:=by
       cases hq:i - (D.map (fun A=>[A])).length with
       | zero=>rfl
       | succ q=>rw [hq] at hi;simp at hi
     rw [h0] at hi
     simp at hi;subst hi
     have hiD:i = D.length:=by simp at h0;omega
     subst hiD
     refine ⟨rfl,fun j A' hj=>?_⟩
     cases j with
     | zero=>simp at hj;subst hj;exact ⟨y,by simpa using r1,r2,hlst⟩
     | succ j=>simp at hj
theorem F3 {x:Operand} {id vr e:Nat} {D:List PV} {c:Cnt} (hA:cE F T S) (hF:∀ k ∈ ax x,k ∈ F) (hF':2 * id + 1 ∈ F) (hR:RG C n T g a w) (hx:S.opd x = .row id vr) (hv:S.ver id = vr) (hb:S.blk id = .mix e D c) :
   a.eval x = g.rh id ∧ brep C T.ver g w id (.mix e D c):=by
 have h:=aB hA hF hR
 rw [hx] at h
 have h2:=hA.2 id hF'
 have h3:=hR.blks id
 rw [h2.1,hb] at h3
 exact ⟨h.2 (by rw [h2.2,hv]),h3⟩
theorem nn {ty e':TypeId} {x:Operand} {id vr e:Nat} {D:List PV} {c:Cnt} (hp:Pl n o t) (ho:ir o ty x) (hT:fK P ty (.slice e')) (hx:S.opd x = .row id vr) (hv:S.ver id = vr) (hb:S.blk id = .mix e D c) :
   an n P ops o ((2 * id + 1) :: ax x) (iC .i64 ((D.length + 1:Nat):Int)) [] S:=
 aP hp fun C T g a w hA hR=>by
   obtain ⟨h1,cap,cs,q1,_⟩:=F3 (x:=x) hA (fun k h=>by simp [h]) (by simp) hR hx hv hb
   exact ⟨_,ly ho (h1.trans q1) (pM hT.h w),rfl⟩
theorem ii {ty e':TypeId} {x ix:Operand} {id vr e i:Nat} {kk:IntKind} {z:Int} {D:List PV} {c:Cnt} (hp:Pl n o t) (ho:o.op = .indexAddr ty x ix) (hT:fK P ty (.slice e')) (hk:gI P e' 1)
   (hx:S.opd x = .row id vr) (hv:S.ver id = vr) (hb:S.blk id = .mix e D c) (hi:S.opd ix = iC kk z) (hz:z = (i:Int)) (hlt:i < D.length + 1):an n P ops o ((2 * id + 1) :: (ax x ++ ax ix)) (.ept id vr 1 i 0) [] S:=
 aP hp fun C T g a w hA hR=>by
   obtain ⟨h1,cap,cs,q1,_⟩:=F3 (x:=x) hA (fun k h=>by simp [h]) (by simp) hR hx hv hb
   have h3:=aW (x:=ix) hA (fun k h=>by simp [h]) hR hi
   have hvt:=(hA.2 id (by simp)).2
   refine ⟨.pointer (some ⟨g.ph id,0 + i * 1,none⟩),?_,⟨by omega,fun _=>by simp⟩⟩
   subst hz
   simp only [execOp,ho,h1,q1,h3,Sem.run_bind,gn hT.h hk.h (by decide) hlt];rfl
theorem F4 {x:Operand} {id vr e i:Nat} {D:List PV} {c:Cnt} (hA:cE F T S) (hF:∀ k ∈ ax x,k ∈ F) (hF':2 * id + 1 ∈ F) (hR:RG C n T g a w) (hx:S.opd x = .ept id vr 1 i 0) (hv:S.ver id = vr) (hb:S.blk id = .mix e D c) :
   a.eval x = .pointer (some ⟨g.ph id,i,none⟩) ∧ brep C T.ver g w id (.mix e D c):=by
 have h:=aB hA hF hR
 rw [hx] at h
 have h2:=hA.2 id hF'
 have h3:=hR.blks id
 rw [h2.1,hb] at h3
 have:=h.2 (by rw [h2.2,hv])
 exact ⟨by simpa using this,h3⟩
theorem jL {ty:TypeId} {x:Operand} {id vr e i:Nat} {D:List PV} {c:Cnt} (hp:Pl n o t) (ho:o.op = .load ty x) (hT:dx P ty false) (hx:S.opd x = .ept id vr 1 i 0) (hv:S.ver id = vr) (hb:S.blk id = .mix e D c) (hi:i = D.length) :
   an n P ops o ((2 * id + 1) :: ax x) c [] S:=
 aP hp fun C T g a w hA hR=>by
   obtain ⟨h1,cap,cs,q1,q2,q3,q4,q5,q6,q7,y,r1,r2,r3⟩:=F4 (x:=x) hA (fun k h=>by simp [h]) (by simp) hR hx hv hb
   obtain ⟨d,d1,d2⟩:=hT.h
   subst hi
   refine ⟨y,?_,r3⟩
   simp only [execOp,ho,h1,Sem.run_bind,iq (b:=g.ph id) (o:=D.length) d1 d2 (by rw [dV q2];exact r1)];rfl
theorem ij {ty:TypeId} {x y:Operand} {id vr e i id2 v2 e2 k2:Nat} {D:List PV} {c:Cnt} {es2:List (List PV)} (hp:z6 o) (ho:o.op = .store ty x y) (hk:gI P ty 1) (hx:S.opd x = .ept id vr 1 i 0) (hv:S.ver id = vr) (hb:S.blk id = .mix e D c) (hi:i = D.length)
   (hy:S.opd y = .row id2 v2) (hv2:S.ver id2 = v2) (hb2:S.blk id2 = .row e2 k2 es2) :
   an n P ops o ((2 * id + 1) :: (2 * id2 + 1) :: (ax x ++ ax y)) .any [(id,vr,.mix e D (.row id2 v2))] S:=by
 refine ⟨?_⟩
 intro C T hA a w ⟨g,hR⟩
 obtain ⟨h1,cap,cs,q1,q2,q3,q4,q5,q6,q7,yy,r1,r2,r3⟩:=F4 (x:=x) hA (fun k h=>by simp [h]) (by simp) hR hx hv hb
 obtain ⟨hy1,hy2⟩:=kI (x:=y) hA (fun k h=>by simp [h]) (by simp) hR hy hv2 hb2
 have hvt:=(hA.2 id (by simp)).2
 have hvt2:=(hA.2 id2 (by simp)).2
 subst hi
 have hone:(g.rh id2).oneCell' = true ∧ (g.rh id2).cells = #[g.rh id2]:=by
   rcases hy2 with ⟨t1,_⟩|⟨cap2,cs2,t1,_⟩ <;> rw [t1] <;> exact ⟨rfl,rfl⟩
 have hlt:D.length < cs.size:=by omega
 unfold gj
 rw [if_pos (by simp [Region.wanted,hp.1])]
 unfold Oper.wp
 have hrun:=iZ (P:=P) (ty:=ty) (off:=D.length) (v:=g.rh id2) q2 (by rw [hk.h,hone.2];rfl) (by rw [hone.2];exact Nat.zero_lt_one) (by rw [hone.2];exact hlt) (by rw [hone.2];simpa using hone.1)
 have hex:(execOp a.eval o).run P w = .ok .skip (w.setRow (g.ph id) (cs.toList.take D.length ++ (g.rh id2).cells.toList ++ cs.toList.drop (D.length + (g.rh id2).cells.size)).toArray):=by
   simp only [execOp,ho,h1,hy1,Sem.run_bind,hrun];rfl
 rw [hex,Oper.upon_skip]
 have hst:=lx (cs':=(cs.toList.take D.length ++ (g.rh id2).cells.toList ++ cs.toList.drop (D.length + (g.rh id2).cells.size)).toArray) hR rfl q2 q3
 have hver:(T.app o.dst .any [(id,vr,.mix e D (.row id2 v2))]).ver = T.ver:=by
   funext i
   rw [St.app_some_ver]
   split
   · rename_i h;subst h;rw [hvt,hv]
   · rfl
 refine ⟨g,hR.app1 (c:=.any) (fun t h=>by rw [hp.2] at h;cases h) (by rw [hver];exact hst) trivial ?_⟩
 rw [hver]
 have hlen:(cs.toList.take D.length).length = D.length:=by simp;omega
 refine ⟨cap,_,q1,setRow_heap _ _ _ _ _ _ q2,q3,q4,q5,by rw [hone.2];simp;omega,fun i A hA'=>?_,g.rh id2,?_,hone.1,⟨by rw [hvt2,hv2];exact Nat.le_refl _,fun _=>rfl⟩⟩
 · have hil:i < D.length:=(List.getElem?_eq_some_iff.1 hA').1
   obtain ⟨y',s1,s2,s3⟩:=q7 i A hA'
   refine ⟨y',?_,s2,A.mono hst.sz hst.keepN hst.n s3⟩
   rw [List.getElem?_toArray,List.append_assoc,List.getElem?_append_left (by omega),List.getElem?_take,if_pos hil]
   simpa using s1
 · rw [hone.2,List.getElem?_toArray,List.append_assoc,List.getElem?_append_right (by omega),hlen]
   simp
end
end Go.Proofs.YtembiemaiacdfaaGreat
