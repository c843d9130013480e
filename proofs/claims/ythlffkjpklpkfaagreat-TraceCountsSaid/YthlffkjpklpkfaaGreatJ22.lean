/- Texts joined: OpenIt ArgsA Wk MsC Map MsW. -/
import Derived.Test.YthlffkjpklpkfaaGreatJ01
import Derived.ProofKit
import Derived.OpenShut
import Derived.ShutString
import Derived.ChangeOld
import Derived.Deep.Slices
import Derived.Test.YthlffkjpklpkfaaGreatJ08
import Derived.Test.YthlffkjpklpkfaaGreatRows
import Derived.Test.YthlffkjpklpkfaaGreatJ07
import Derived.Test.YthlffkjpklpkfaaGreatJ20
import Derived.Test.YthlffkjpklpkfaaGreatJ18
import Derived.Test.YthlffkjpklpkfaaGreatJ21
import Derived.Test.YthlffkjpklpkfaaGreatJ16
import Derived.Maps.OwnOps
import Derived.Maps.Views
set_option maxRecDepth 10000
set_option maxHeartbeats 8000000
namespace Go.Proofs.YthlffkjpklpkfaaGreat
open Go.RowKit Go.Deep Go.ChangeShapes Go.WideShapes

/-- whatever reads at type t has cells of the form Q -/
def Rd (P:Program) (w:World) (t:TypeId) (Q:List Value → Prop):Prop:=
 ∀ (H:Type) (enc:TypeId × Value → H) (spare:Nat → Bool) (held:Bool) (fuel:Nat) (cs:List Value) (x:DataW H × List MemPlace),DataW.trod enc P w 0 spare held fuel t cs = some x → Q cs

section
variable {P:Program} {w:World} {t:TypeId}
theorem Rd.mono {Q Q':List Value → Prop} (h:Rd P w t Q) (hq:∀ cs,Q cs → Q' cs):Rd P w t Q':=fun H enc sp hd f cs x hx=>hq _ (h H enc sp hd f cs x hx)
theorem Rd.int {k:IntKind} (ht:P.underlying t = some (.int k)):Rd P w t (fun cs=>∃ n,cs = [.int k n] ∧ (Lit.int k n).wf = true):=by
 intro H enc sp hd f cs x hx
 obtain ⟨n,h1,_,h2⟩:=DataW.trod_int ht hx
 exact ⟨n,h1,h2⟩
theorem Rd.bool (ht:P.underlying t = some .bool):Rd P w t (fun cs=>∃ b,cs = [.bool b]):=by
 intro H enc sp hd f cs x hx
 obtain ⟨n,h1,_⟩:=DataW.trod_bool ht hx
 exact ⟨n,h1⟩
theorem Rd.string (ht:P.underlying t = some .string):Rd P w t (fun cs=>∃ s,cs = [.string s] ∧ s.size ≤ maxLen):=by
 intro H enc sp hd f cs x hx
 obtain ⟨n,h1,_,h2⟩:=DataW.trod_string ht hx
 exact ⟨n,h1,h2⟩
theorem Rd.struct {fs:Array Field} (ht:P.underlying t = some (.struct fs)) :
   Rd P w t (fun cs=>cs.length = P.cellsOf t ∧ ∀ (i:Nat) (f:Field),fs[i]? = some f → ∀ Q,Rd P w f.type Q → Q ((cs.drop f.offset).take (P.cellsOf f.type))):=by
 intro H enc sp hd f cs x hx
 obtain ⟨xs,n,_,_,hl,hs,hall⟩:=DataW.trod_struct ht hx
 refine ⟨hl,fun i f hf Q hQ=>?_⟩
 have hi:i < fs.size:=by
   rcases Nat.lt_or_ge i fs.size with h|h
   · exact h
   · rw [Array.getElem?_eq_none h] at hf;cases hf
 have:=hall i f hf
 rw [List.getElem?_eq_getElem (by omega)] at this
 exact hQ _ _ _ _ _ _ _ this
theorem Rd.struct' {fs:Array Field} (ht:P.underlying t = some (.struct fs)) :
   Rd P w t (fun cs=>cs.length = P.cellsOf t ∧ ∀ (i off:Nat) (ty:TypeId) (sz:Nat) (Q:List Value → Prop),(fs[i]?).map (fun f=>(f.offset,f.type)) = some (off,ty) → P.cellsOf ty = sz → Rd P w ty Q → Q ((cs.drop off).take sz)):=by
 refine (Rd.struct ht).mono ?_
 rintro cs ⟨h1,h2⟩
 refine ⟨h1,fun i off ty sz Q hi hsz hQ=>?_⟩
 cases hf:fs[i]? with
 | none=>rw [hf] at hi;cases hi
 | some f=>
   rw [hf] at hi
   simp at hi
   obtain ⟨rfl,rfl⟩:=hi
   subst hsz
   exact h2 i f hf Q hQ
theorem Rd.array {n:Nat} {e:TypeId} (ht:P.underlying t = some (.array n e)) {Q:List Value → Prop} (hQ:Rd P w e Q) :
   Rd P w t (fun cs=>cs.length = P.cellsOf t ∧ ∀ i,i < n → Q ((cs.drop (i * P.cellsOf e)).take (P.cellsOf e))):=by
 intro H enc sp hd f cs x hx
 obtain ⟨xs,m,_,_,hl,hs,hall⟩:=DataW.trod_array ht hx
 refine ⟨hl,fun i hi=>?_⟩
 have:=hall i hi
 rw [List.getElem?_eq_getElem (by omega)] at this
 exact hQ _ _ _ _ _ _ _ this

theorem list_of_each {α:Type} {G:Nat → α → Prop}:∀ (n:Nat),(∀ i,i < n → ∃ x,G i x) → ∃ l:List α,l.length = n ∧ ∀ (i:Nat) (x:α),l[i]? = some x → G i x:=by
 intro n
 induction n with
 | zero=>intro _;exact ⟨[],rfl,fun i x h=>by simp at h⟩
 | succ n ih=>
   intro h
   obtain ⟨l,hl,hg⟩:=ih (fun i hi=>h i (by omega))
   obtain ⟨x,hx⟩:=h n (by omega)
   refine ⟨l ++ [x],by simp [hl],fun i y hy=>?_⟩
   rcases Nat.lt_or_ge i n with hi|hi
   · rw [List.getElem?_append_left (by omega)] at hy;exact hg i y hy
   · rw [List.getElem?_append_right (by omega)] at hy
     have:i = n:=by
       by_cases h0:i = n
       · exact h0
       · rw [List.getElem?_eq_none (by simp;omega)] at hy;cases hy
     subst this
     rw [hl] at hy;simp at hy;subst hy;exact hx

/-- a slice whose elements have the form Qe, each of which is written by enc -/
theorem Rd.slice {α:Type} {e:TypeId} {k:Nat} {enc:α → List Value} {Qe:List Value → Prop} {G:α → Prop} (ht:P.underlying t = some (.slice e)) (hk:P.cellsOf e = k) (hk0:0 < k)
   (hQ:Rd P w e Qe) (hdec:∀ cs,Qe cs → ∃ x:α,cs = enc x ∧ G x) :
   Rd P w t (fun cs=>∃ v l,cs = [v] ∧ Sl k enc w v l ∧ ∀ x ∈ l,G x):=by
 intro H en sp hd f cs x hx
 subst hk
 rcases DataW.trod_slice ht hx with ⟨rfl,_⟩|⟨a,len,cap,elems,rest,n,_,rfl,_,hb,hl,hm,hlen,hel,_,_⟩
 · exact ⟨_,[],rfl,⟨none,0,0,0,rfl,by simp,by unfold maxLen;omega,by simp,fun _=>rfl,fun i x hx=>by simp at hx⟩,by simp⟩
 · have key:∀ i,i < len → ∃ x:α,w.cells? 0 (a.add (i * P.cellsOf e)) (P.cellsOf e) = some (enc x) ∧ G x:=by
     intro i hi
     have:=hel i hi
     rw [List.getElem?_eq_getElem (by omega)] at this
     cases hc:w.cells? 0 (a.add (i * P.cellsOf e)) (P.cellsOf e) with
     | none=>rw [hc] at this;simp at this
     | some cs'=>
       rw [hc] at this
       obtain ⟨x,rfl,hg⟩:=hdec cs' (hQ _ _ _ _ _ _ _ this)
       exact ⟨x,rfl,hg⟩
   obtain ⟨l,hll,hcells⟩:=list_of_each len key
   subst hll
   refine ⟨_,l,rfl,?_,fun x hx=>?_⟩
   · have hsp:0 < l.length → a = ⟨a.block,a.off,none⟩:=by
       intro h0
       obtain ⟨c0,hc0⟩:=World.cells?_some (hcells 0 l[0] (by simp [h0])).1
       have h00:=hc0.2 0 (by omega)
       rw [Nat.zero_mul] at h00
       have hz:a.add 0 = a:=by simp [Addr.add]
       rw [hz,hz] at h00
       have:0 < (enc l[0]).length:=by omega
       rw [List.getElem?_eq_getElem this] at h00
       have:=World.cell?_spot h00
       cases a;simp_all
     refine ⟨some a,cap,a.block,a.off,rfl,hl,hm,fun h0=>by rw [← hsp h0],(fun h=>by cases h),?_⟩
     intro i x hx j y hy
     have hi:i < l.length:=by
       rcases Nat.lt_or_ge i l.length with h|h
       · exact h
       · rw [List.getElem?_eq_none h] at hx;cases hx
     obtain ⟨c0,hc0⟩:=World.cells?_some (hcells i x hx).1
     have hj:j < P.cellsOf e:=by
       rcases Nat.lt_or_ge j (enc x).length with h|h
       · omega
       · rw [List.getElem?_eq_none h] at hy;cases hy
     have:=hc0.2 j hj
     rw [add_add,hy] at this
     rw [hsp (by omega),Addr.add_lit] at this
     rw [show a.off + i * P.cellsOf e + j = a.off + (i * P.cellsOf e + j) by omega];exact this
   · obtain ⟨i,hi,rfl⟩:=List.getElem_of_mem hx
     exact (hcells i _ (by simp [hi])).2
end

section
variable {P:Program} {w:World} {t e s:TypeId}
theorem Rd.u8dec:∀ cs,(∃ n,cs = [Value.int .u8 n] ∧ (Lit.int .u8 n).wf = true) → ∃ x:UInt8,cs = encB x ∧ True:=by
 rintro cs ⟨n,rfl,h⟩
 have:=bounds_u8 h
 refine ⟨UInt8.ofNat n.toNat,?_,trivial⟩
 unfold encB
 congr 2
 rw [UInt8.toNat_ofNat']
 omega
/-- bytes that came in -/
theorem Rd.bytes (ht:P.underlying t = some (.slice e)) (he:P.underlying e = some (.int .u8)) (hc:P.cellsOf e = 1) :
   Rd P w t (fun cs=>∃ v l,cs = [v] ∧ Bs w v l):=
 (Rd.slice ht hc (by decide) (Rd.int he) Rd.u8dec).mono fun cs ⟨v,l,h1,h2,_⟩=>⟨v,l,h1,h2⟩
end

/-! ### a law's row out of its walk -/
section
variable {P:Program}

/-- an argument that came in -/
structure Arg (P:Program) (w:World) (t:TypeId) (v:Value):Prop where
 ok:∃ b,Value.okWide P w .any b t v
 rd:∀ Q,Rd P w t Q → Q v.cells.toList

def Args (P:Program) (w:World):List TypeId → List Value → Prop
 | [],[]=>True
 | t :: ts,v :: vs=>Arg P w t v ∧ Args P w ts vs
 | _,_=>False

section
variable {w:World} {t e s:TypeId} {v:Value}
theorem Arg.cells (h:Arg P w t v) (ht:(match P.underlying t with|some (.struct _)=>true|some (.array _ _)=>true|_=>false) = true):∃ cs:Array Value,v = .agg cs:=by
 obtain ⟨b,hb⟩:=h.ok
 unfold Value.okWide at hb
 split at hb
 · obtain ⟨cs,h1,_⟩:=hb;exact ⟨cs,h1⟩
 · obtain ⟨cs,h1,_⟩:=hb;exact ⟨cs,h1⟩
 · rename_i h1 h2
   split at ht
   · rename_i hu;exact absurd hu (h1 _)
   · rename_i hu;exact absurd hu (h2 _ _)
   · cases ht
theorem Arg.int (h:Arg P w t v) {k:IntKind} (ht:P.underlying t = some (.int k)):∃ n,v = .int k n ∧ (Lit.int k n).wf = true:=by
 obtain ⟨b,hb⟩:=h.ok
 obtain ⟨n,rfl⟩:=okWide_int ht hb
 obtain ⟨m,h1,h2⟩:=h.rd _ (Rd.int ht)
 simp [Value.cells] at h1;subst h1
 exact ⟨n,rfl,h2⟩
theorem Arg.bool (h:Arg P w t v) (ht:P.underlying t = some .bool):∃ n,v = .bool n:=by
 obtain ⟨b,hb⟩:=h.ok
 exact okWide_bool ht hb
theorem Arg.string (h:Arg P w t v) (ht:P.underlying t = some .string):∃ n,v = .string n ∧ n.size ≤ maxLen:=by
 obtain ⟨b,hb⟩:=h.ok
 obtain ⟨n,rfl⟩:=okWide_string ht hb
 obtain ⟨m,h1,h2⟩:=h.rd _ (Rd.string ht)
 simp [Value.cells] at h1;subst h1
 exact ⟨n,rfl,h2⟩
/-- a slice that came in, by what its cells are read as -/
theorem Arg.slice (h:Arg P w t v) (ht:P.underlying t = some (.slice e)) {Q:Value → Prop} (hq:Rd P w t (fun cs=>∃ v,cs = [v] ∧ Q v)):Q v:=by
 obtain ⟨b,hb⟩:=h.ok
 obtain ⟨a,l,c,rfl⟩:=okWide_slice ht hb
 obtain ⟨x,h1,h2⟩:=h.rd _ hq
 simp [Value.cells] at h1;subst h1
 exact h2
theorem Arg.bytes (h:Arg P w t v) (ht:P.underlying t = some (.slice e)) (he:P.underlying e = some (.int .u8)) (hc:P.cellsOf e = 1):∃ l,Bs w v l:=
 h.slice (Q:=fun v=>∃ l,Bs w v l) ht ((Rd.bytes ht he hc).mono fun _ ⟨v,l,h1,h2⟩=>⟨v,h1,l,h2⟩)
end

theorem Args.cons {w:World} {t:TypeId} {ts:List TypeId} {vs:List Value} (h:Args P w (t :: ts) vs):∃ v vs',vs = v :: vs' ∧ Arg P w t v ∧ Args P w ts vs':=by
 cases vs with
 | nil=>exact h.elim
 | cons v vs=>exact ⟨v,vs,rfl,h.1,h.2⟩
theorem Args.nil {w:World} {vs:List Value} (h:Args P w [] vs):vs = []:=by
 cases vs with
 | nil=>rfl
 | cons v vs=>exact h.elim
theorem Args.one {w:World} {t0:TypeId} {args:Array Value} (h:Args P w [t0] args.toList):∃ v0,args = #[v0] ∧ Arg P w t0 v0:=by
 obtain ⟨v0,_,e,h0,h⟩:=h.cons
 obtain rfl:=h.nil
 exact ⟨v0,by cases args;simp_all,h0⟩
theorem Args.two {w:World} {t0 t1:TypeId} {args:Array Value} (h:Args P w [t0,t1] args.toList):∃ v0 v1,args = #[v0,v1] ∧ Arg P w t0 v0 ∧ Arg P w t1 v1:=by
 obtain ⟨v0,_,e,h0,h⟩:=h.cons
 obtain ⟨v1,_,rfl,h1,h⟩:=h.cons
 obtain rfl:=h.nil
 exact ⟨v0,v1,by cases args;simp_all,h0,h1⟩
theorem args_of {H:Type} {enc:TypeId × Value → H} {w:World}:∀ (ts:List TypeId) (vs:List Value) (ds:List (DataW H)) (p:List MemPlace),
   DataW.TrodAll enc P w 0 (fun _=>true) true ts vs ds p → (∀ (j:Nat) t v,ts[j]? = some t → vs[j]? = some v → ∃ b,Value.okWide P w .any b t v) → Args P w ts vs:=by
 intro ts
 induction ts with
 | nil=>intro vs ds p h _;obtain ⟨rfl,_,_⟩:=trodAll_nil h;trivial
 | cons t ts ih=>
   intro vs ds p h hok
   obtain ⟨v,vs',d,ds',p',q,rfl,rfl,rfl,h1,h2⟩:=trodAll_cons h
   refine ⟨⟨hok 0 t v rfl rfl,fun Q hQ=>?_⟩,ih _ _ _ h2 fun j t v h h'=>hok (j + 1) t v (by simpa using h) (by simpa using h')⟩
   obtain ⟨fuel,hf⟩:=h1
   exact hQ _ _ _ _ _ _ _ hf

theorem trodAll_ext {H:Type} {enc:TypeId × Value → H} {w w':World} (hl:laidOutB P = true) (he:Ext w w'):∀ (ts:List TypeId) (vs:List Value) (ds:List (DataW H)) (p:List MemPlace),
   (∀ t ∈ ts,P.readableRec t = true ∧ t < P.types.size) →
   DataW.TrodAll enc P w 0 (fun _=>true) true ts vs ds p → DataW.TrodAll enc P w' 0 (fun b=>decide (b < w.heap.size)) true ts vs ds p:=by
 intro ts
 induction ts with
 | nil=>intro vs ds p _ h;obtain ⟨rfl,rfl,rfl⟩:=trodAll_nil h;exact trodAll_mk0
 | cons t ts ih=>
   intro vs ds p hr h
   obtain ⟨v,vs',d,ds',p',q,rfl,rfl,rfl,h1,h2⟩:=trodAll_cons h
   have hlt:∀ x ∈ p',x.block < w.heap.size:=by obtain ⟨m,hm⟩:=h1;exact DataW.trod_lt m _ _ _ hm
   exact trodAll_cons_mk (Below.trod hl (hr t (by simp)).1 (hr t (by simp)).2 h1 he hlt) (ih _ _ _ (fun t ht=>hr t (by simp [ht])) h2)

theorem law_lifted {C:Checked} {f:FuncId} {fn:Func} {s:ChangeSpec} {T:TypeId} (own:ownKnob C.prog.godebug = none) (laidOut:laidOutB C.prog = true)
   (noInit:C.prog.inits.idxOf? f = none) (hfn:C.prog.funcs[f]? = some fn) (hres:fn.resultTypes = #[T]) (hT:C.prog.underlying T = some .bool)
   (hread:fn.params.toList.all (fun t=>C.prog.readableRec t && decide (t < C.prog.types.size)) = true)
   (hvars:s.vars = []) (hspec:∀ (H:Type) (ds:List (DataW H)),ds.length = fn.params.size → (s.fn H (ds ++ [])).results = [.lit (.bool true)] ∧ (s.fn H (ds ++ [])).args = ds ∧ (s.fn H (ds ++ [])).vars = [])
   (walk:∀ (w:World) (args:Array Value),Args C.prog w fn.params.toList args.toList → Calls C.prog f args w fun e w'=>e = .returned (.bool true) ∧ Ext w w')
   {conds:List PathCond} (os:Os) (started:os.Started) (H:Type) (enc:TypeId × Value → H)
   (witness:∃ (w:World) (tape:Tape) (i:Input),w.os = os ∧ (w.forCall tape i).Shaped C.prog ∧ i.vars = [] ∧ Input.okWide C.prog (w.forCall tape i) .any w.heap.size f i ∧
     s.pre6 enc C.prog fn conds false (w.forCall tape i).memory i.args ∧ ({}:Assume).holds C.prog (lone (Frame.enter C.prog f i.args .normal) [] (w.forCall tape i))) :
   ReturnsInHanded {} C os f .any (s.pre6 enc C.prog fn conds false) (s.post enc C.prog fn false true false false):=by
 refine returnsInHanded_of_change (C:=C) own started noInit hfn witness ?_
 intro W base args ds gs before hval hW hcnd _
 have hW':=hW
 obtain ⟨p,q,hA,hV,rfl,hfz,hnd⟩:=hW
 rw [hvars] at hV
 obtain ⟨rfl,rfl⟩:=trodVars_none hV
 have hargs:Args C.prog W fn.params.toList args.toList:=args_of _ _ _ _ hA fun j t v h h'=>⟨base,hval j t v (by simpa using h) (by simpa using h')⟩
 have hlen:ds.length = fn.params.size:=by
   have:∀ (ts:List TypeId) (vs:List Value) (ds:List (DataW H)) (p:List MemPlace),DataW.TrodAll enc C.prog W 0 (fun _=>true) true ts vs ds p → ds.length = ts.length:=by
     intro ts
     induction ts with
     | nil=>intro vs ds p h;obtain ⟨_,rfl,_⟩:=trodAll_nil h;rfl
     | cons t ts ih=>intro vs ds p h;obtain ⟨_,_,_,_,_,_,rfl,rfl,rfl,_,h2⟩:=trodAll_cons h;simp [ih _ _ _ h2]
   rw [this _ _ _ _ hA];simp
 obtain ⟨e1,e2,e3⟩:=hspec H ds hlen
 refine (walk W args hargs).mono fun e W' ⟨he,bel⟩=>?_
 subst he
 refine ⟨_,rfl,ds,[],_,[],p,[],hW',?_,?_,?_,bel.below.frame _,fun h=>by cases h⟩
 · rw [e1,hres];exact trodAll_mk1 (shut_bool hT true)
 · rw [e2]
   refine trodAll_ext laidOut bel _ _ _ _ (fun t ht=>?_) hA
   have:=List.all_eq_true.1 hread t ht
   simpa using this
 · rw [e3,hvars];rfl
end
end Go.Proofs.YthlffkjpklpkfaaGreat
namespace Go.Proofs.YthlffkjpklpkfaaGreat
open Go.RowKit

theorem list7 {α:Type} (l:List α) (h:l.length = 7):∃ a b c d e f g,l = [a,b,c,d,e,f,g]:=by
 match l,h with|[a,b,c,d,e,f,g],_=>exact ⟨a,b,c,d,e,f,g,rfl⟩
theorem list2 {α:Type} (l:List α) (h:l.length = 2):∃ a b,l = [a,b]:=by
 match l,h with|[a,b],_=>exact ⟨a,b,rfl⟩

theorem rdVer (w:World):Rd Tryz.prog w 85 (fun cs=>∃ r c,cs = [Value.int .i64 r,.int .i64 c] ∧ (Lit.int .i64 r).wf = true ∧ (Lit.int .i64 c).wf = true):=by
 refine (Rd.struct' Tryz.underlying85).mono ?_
 rintro cs ⟨hl,hf⟩
 obtain ⟨c0,c1,rfl⟩:=list2 cs (hl.trans (by kernel_rfl))
 obtain ⟨r,h1,w1⟩:=hf 0 0 3 1 _ rfl (by kernel_rfl) (Rd.int Tryz.underlying3)
 obtain ⟨c,h2,w2⟩:=hf 1 1 3 1 _ rfl (by kernel_rfl) (Rd.int Tryz.underlying3)
 simp at h1 h2
 subst h1 h2
 exact ⟨r,c,rfl,w1,w2⟩

/-- the numbers and texts of an item that came in -/
def ItWf (x:It):Prop:=x.key.size ≤ maxLen ∧ x.body.size ≤ maxLen ∧ (Lit.int .i64 x.rep).wf = true ∧ (Lit.int .i64 x.cnt).wf = true ∧ (Lit.int .i64 x.rank).wf = true ∧ (Lit.int .i64 x.prio).wf = true

theorem rdIt (w:World):Rd Tryz.prog w 87 (fun cs=>∃ x,cs = encIt x ∧ ItWf x):=by
 refine (Rd.struct' Tryz.underlying87).mono ?_
 rintro cs ⟨hl,hf⟩
 obtain ⟨c0,c1,c2,c3,c4,c5,c6,rfl⟩:=list7 cs (hl.trans (by kernel_rfl))
 obtain ⟨s0,h0,w0⟩:=hf 0 0 9 1 _ rfl (by kernel_rfl) (Rd.string Tryz.underlying9)
 obtain ⟨r,c,h1,w1,w1'⟩:=hf 1 1 85 2 _ rfl (by kernel_rfl) (rdVer w)
 obtain ⟨n2,h2,w2⟩:=hf 2 3 3 1 _ rfl (by kernel_rfl) (Rd.int Tryz.underlying3)
 obtain ⟨n3,h3,w3⟩:=hf 3 4 3 1 _ rfl (by kernel_rfl) (Rd.int Tryz.underlying3)
 obtain ⟨b4,h4⟩:=hf 4 5 4 1 _ rfl (by kernel_rfl) (Rd.bool Tryz.underlying4)
 obtain ⟨s5,h5,w5⟩:=hf 5 6 9 1 _ rfl (by kernel_rfl) (Rd.string Tryz.underlying9)
 simp at h0 h1 h2 h3 h4 h5
 obtain ⟨rfl,rfl⟩:=h1
 subst h0 h2 h3 h4 h5
 exact ⟨⟨s0,r,c,n2,n3,b4,s5⟩,rfl,w0,w5,w1,w1',w2,w3⟩

theorem sl_lst {α:Type} {top N:BP} {k:Nat} {enc:α → List Value} (hE:Enc k enc) {l:List α} {w:World} {v:Value} (hN:∀ b,¬ top b) (h:Sl k enc w v l):lstAt top N k (l.map (rawsE enc)) w v:=by
 obtain ⟨a,c,b,o,rfl,h1,h2,h3,h0,h4⟩:=h
 refine ⟨a,c,b,o,by rw [List.length_map],by rw [List.length_map];exact h1,h2,h0,fun hl=>?_,fun i cs hi=>?_⟩
 · rw [List.length_map] at hl
   refine ⟨h3 hl,?_,hN b⟩
   have hk:0 < (enc l[0]).length:=by rw [hE.len];exact hE.pos
   have:=h4 0 l[0] (by simp [hl]) 0 (enc l[0])[0] (by simp [hk])
   rcases Nat.lt_or_ge b w.heap.size with hb|hb
   · exact hb
   · simp [World.cell?,Array.getElem?_eq_none hb] at this
 · rw [List.getElem?_map] at hi
   cases hx:l[i]? with
   | none=>rw [hx] at hi;cases hi
   | some x=>
     rw [hx] at hi;cases hi
     refine ⟨by unfold rawsE;rw [List.length_map,hE.len],fun j A hj=>?_⟩
     unfold rawsE at hj
     rw [List.getElem?_map] at hj
     cases hy:(enc x)[j]? with
     | none=>rw [hy] at hj;cases hj
     | some y=>
       rw [hy] at hj;cases hj
       exact ⟨y,h4 i x hx j y hy,hE.one x y (List.mem_of_getElem? hy),rfl⟩
def cx (w:World):Ctx:=⟨w,fun _=>False,fun _=>False,g0⟩
abbrev In (w:World) (v:Value) (c:Cnt):Prop:=crep (cx w) (fun _=>0) g0 w v c
theorem in_lst {α:Type} {k:Nat} {enc:α → List Value} (hE:Enc k enc) {l:List α} {w:World} {v:Value} (h:Sl k enc w v l):In w v (.per (lstP k (l.map (rawsE enc)))):=
 sl_lst hE (fun _ hb=>hb.elim id (fun h=>h rfl)) h
theorem run2 {P:Program} {f:FuncId} {c d:Cnt} {w:World} {v v':Value} (h:Fn P f [c,d] (.per (rawP (.bool true)))) (h0:In w v c) (h1:In w v' d):Calls P f #[v,v'] w fun e w'=>e = .returned (.bool true) ∧ Ext w w':=by
 refine (h.run (fun _=>False) w [v,v'] (fun _ hb=>hb.elim) ⟨rfl,fun i u d hi hj=>?_⟩).mono ?_
 · match i,hi,hj with
   | 0,hi,hj=>cases hi;cases hj;exact h0
   | 1,hi,hj=>cases hi;cases hj;exact h1
   | _ + 2,hi,_=>simp at hi
 · rintro e w' ⟨u,rfl,hx,hu⟩
   have hu:u = .bool true:=hu
   exact ⟨by rw [hu],hx⟩
/-- what reads as A reads as B -/
def Imp (A B:PV):Prop:=∀ (N:BP) (w:World) (v:Value),A.p N w v → B.p N w v
theorem Imp.refl {A:PV}:Imp A A:=fun _ _ _ h=>h
theorem nil_imp {k:Nat}:Imp (rawP (.slice none 0 0)) (lstP k []):=fun N w v h=>by
 have h:v = .slice none 0 0:=h
 subst h
 exact ⟨none,0,0,0,rfl,by simp,by decide,fun _=>rfl,by simp,fun i cs hi=>by simp at hi⟩
inductive PW:List PV → List PV → Prop
 | nil:PW [] []
 | cons {A B:PV} {l l':List PV} (h:Imp A B) (k:PW l l'):PW (A :: l) (B :: l')
theorem PW.len {l l':List PV} (h:PW l l'):l.length = l'.length:=by
 induction h with
 | nil=>rfl
 | cons h k ih=>simp [ih]
theorem PW.get {l l':List PV} (h:PW l l'):∀ (j:Nat) (B:PV),l'[j]? = some B → ∃ A,l[j]? = some A ∧ Imp A B:=by
 induction h with
 | nil=>intro j B h;simp at h
 | @cons A B l l' h k ih=>
   intro j C hj
   cases j with
   | zero=>simp at hj;subst hj;exact ⟨A,rfl,h⟩
   | succ j=>simpa using ih j C (by simpa using hj)
theorem agg_imp {l l':List PV} (h:PW l l'):Imp (aggP l) (aggP l'):=fun N w v ⟨vs,e,h1,h2⟩=>by
 refine ⟨vs,e,by rw [h1,h.len],fun j B hj=>?_⟩
 obtain ⟨A,q1,q2⟩:=h.get j B hj
 obtain ⟨y,r1,r2,r3⟩:=h2 j A q1
 exact ⟨y,r1,r2,q2 N w y r3⟩
theorem aI {l l':List PV} (h:PW l l':=by (repeat (first|exact PW.nil|(refine PW.cons (by first|exact Imp.refl|exact nil_imp) ?_)))):Imp (aggP l) (aggP l'):=agg_imp h
section
variable {P:Program} {n:Nat} {S:St} {A B:PV} {rv:ResultVar} {τ:List (Nat × Nat)}
theorem rvm_wk (h:RVM P n S τ rv (.per A)) (k:Imp A B):RVM P n S τ rv (.per B):=fun C g a w hR=>by
 obtain ⟨v,h1,h2⟩:=h C g a w hR
 exact ⟨v,h1,k _ _ _ h2⟩
theorem rv_wk (h:ResVarOk P n S rv (.per A)) (k:Imp A B):ResVarOk P n S rv (.per B):=fun C g a w hL hR=>by
 obtain ⟨v,h1,h2⟩:=h C g a w hL hR
 exact ⟨v,h1,k _ _ _ h2⟩
theorem Fn.arg1 {f:FuncId} {r:Ret} (h:Fn P f [.per B] r) (k:Imp A B):Fn P f [.per A] r:=⟨h.ent,fun N0 w vs hN ha=>by
 refine h.run N0 w vs hN ⟨ha.1,fun i u c hi hj=>?_⟩
 match i,hi,hj with
 | 0,hi,hj=>cases hj;exact k _ _ _ (ha.2 0 u (.per A) hi rfl)
 | _ + 1,_,hj=>simp at hj⟩
end
abbrev msCs (m:Msg):List PV:=[rawP (.int .i64 m.kind),rawP (.int .i64 m.ses),rawP (.int .i64 m.num),rawP (.int .i64 m.lim),rawP (.int .i64 m.seed),rawP (.int .i64 m.bits),rawP (.int .i64 m.nxt),rawP (.int .i64 m.err),rawP (.bool m.wants),rawP (.bool m.same),rawP (.bool m.last),rgsP m.flt,pcsP m.know,bysP m.there,rawP (.string m.rg.lo),rawP (.string m.rg.hi),rawP (.bool m.rg.op),rawP (.int .u64 (m.sum:Nat)),itsP m.its]
abbrev msP (m:Msg):PV:=aggP (msCs m)
abbrev msC (m:Msg):Cnt:=.per (msP m)
abbrev nilP:PV:=rawP (.slice none 0 0)
abbrev eP:PV:=rawP (.string ⟨#[]⟩)
abbrev zIP:PV:=rawP (.int .i64 0)
abbrev zBP:PV:=rawP (.bool false)
/-- the cells of 'Message{}' -/
abbrev zmCs:List PV:=[zIP,zIP,zIP,zIP,zIP,zIP,zIP,zIP,zBP,zBP,zBP,nilP,nilP,nilP,eP,eP,zBP,rawP (.int .u64 0),nilP]
end Go.Proofs.YthlffkjpklpkfaaGreat
namespace Go.Proofs.YthlffkjpklpkfaaGreat
open Go.RowKit Go.WideMaps Go
def litI (n:Int):DataW Unit:=.lit (.int .i64 n)
/-- a map of texts to numbers, of at most n entries: at a text it has f -/
def mapO (P:Program) (K E:TypeId) (n:Nat) (f:ByteArray → Int):OV where
 p F _ w v:=∃ (b:Nat) (D:DataW Unit),v = .map (some b) ∧ F b ∧ World.ownsMap w P K (plainElem P E) b n D ∧ ∀ s:ByteArray,s.size ≤ maxLen → D.atKey (.string s.data.toList) (litI 0) = litI (f s)
 mono:=by
   rintro F F' N N' w w' v h1 h2 h3 h4 h5 h6 ⟨b,D,rfl,hb,⟨es,clock,q1,q2,q3,q4⟩,hD⟩
   exact ⟨b,D,rfl,h1 b hb,⟨es,clock,by rw [h4 b (h2 b hb) hb];exact q1,q2,q3,q4⟩,hD⟩
 one:=by
   rintro F N w v ⟨b,D,rfl,_⟩
   exact ⟨rfl,rfl⟩
section
variable {P:Program} {n t:Nat} {ops:Array Oper} {o:Oper} {S:St} {K E:TypeId}
theorem op_mkmap {ty:TypeId} (hp:Pl n o t) (ho:o.op = .makeMap ty none):OpOk n P ops o [2 * t + 1] (.row t (S.ver t + 1)) [(t,S.ver t + 1,.obj (mapO P K E 0 (fun _=>0)))] S:=
 op_mk hp (by simp) fun C T g a w hA hR=>by
   refine ⟨.map (some w.heap.size),w.alloc (.map #[] 0),w.heap.size,?_,(Ext.refl w).alloc _,Nat.le_refl _,alloc_lt _ _,fun vr' hvr hst=>⟨?_,?_⟩⟩
   · simp only [execOp,ho,Sem.run_bind];rfl
   · exact ⟨by rw [hvr,if_pos rfl];exact Nat.le_refl _,fun _=>(if_pos rfl).symm⟩
   · have hrh:(g.mk1 t w.heap.size (.map (some w.heap.size))).rh t = .map (some w.heap.size):=if_pos rfl
     refine ⟨w.heap.size,.map [],hrh,if_pos rfl,World.ownsMap_made _ _ _ _,fun s _=>rfl⟩
theorem op_mapget {ty:TypeId} {x k:Operand} {id vr m:Nat} {f:ByteArray → Int} {s:ByteArray} (hp:Pl n o t) (ho:o.op = .lookup ty x k false) (hK:P.underlying K = some .string) (hT:P.underlying ty = some (.map K E)) (hE:P.underlying E = some (.int .i64))
   (hz:∀ w:World,(zeroValue E).run P w = .ok (.int .i64 0) w) (hx:S.opd x = .row id vr) (hv:S.ver id = vr) (hb:S.blk id = .obj (mapO P K E m f)) (hk:S.opd k = sC s) (hs:s.size ≤ maxLen) :
   OpOk n P ops o ((2 * id + 1) :: (opdN x ++ opdN k)) (iC .i64 (f s)) [] S:=
 op_val hp fun C T g a w hA hR=>by
   have hxe:=opd_rep (x:=x) hA (fun k h=>by simp [h]) hR
   rw [hx] at hxe
   have hvt:=(hA.2 id (by simp)).2
   have hev:=hxe.2 (by rw [hvt,hv])
   have hke:=raw_opd (x:=k) hA (fun k h=>by simp [h]) hR hk
   have hB:=hR.blks id
   rw [(hA.2 id (by simp)).1,hb] at hB
   obtain ⟨b,D,q1,q2,q3,q4⟩:=hB
   rw [q1] at hev
   obtain ⟨c,hrun,hat,_⟩:=q3.lookup_int (Maps.string_keyed hK) hT hE (hz w) (keyOf_string_mk hK hs)
   have hc:c = f s:=by
     have:=q4 s hs
     unfold litI at this
     rw [hat] at this
     injection this with this
     injection this
   refine ⟨.int .i64 (f s),?_,rfl⟩
   simp only [execOp,ho,hev,hke,Sem.run_bind,hrun,hc];rfl
theorem op_mapset {ty:TypeId} {x k y:Operand} {id vr m:Nat} {f:ByteArray → Int} {s:ByteArray} {z:Int} (hp:Pl0 o) (ho:o.op = .mapUpdate ty x k y) (hK:P.underlying K = some .string) (hT:P.underlying ty = some (.map K E)) (hE:P.underlying E = some (.int .i64))
   (hx:S.opd x = .row id vr) (hv:S.ver id = vr) (hb:S.blk id = .obj (mapO P K E m f)) (hk:S.opd k = sC s) (hs:s.size ≤ maxLen) (hy:S.opd y = iC .i64 z) (hw:(Lit.int .i64 z).wf = true) (hm:m < maxLen) :
   OpOk n P ops o ((2 * id + 1) :: (opdN x ++ opdN k ++ opdN y)) .any [(id,vr,.obj (mapO P K E (m + 1) (fun u=>if u = s then z else f u)))] S:=by
 refine ⟨?_⟩
 intro C T hA a w ⟨g,hR⟩
 have hxe:=opd_rep (x:=x) hA (fun k h=>by simp [h]) hR
 rw [hx] at hxe
 have hvt:=(hA.2 id (by simp)).2
 have hev:=hxe.2 (by rw [hvt,hv])
 have hke:=raw_opd (x:=k) hA (fun k h=>by simp [h]) hR hk
 have hye:=raw_opd (x:=y) hA (fun k h=>by simp [h]) hR hy
 have hB:=hR.blks id
 rw [(hA.2 id (by simp)).1,hb] at hB
 obtain ⟨b,D,q1,q2,q3,q4⟩:=hB
 rw [q1] at hev
 obtain ⟨w',hrun,r1,r2⟩:=q3.update (Maps.string_keyed hK) hT hm (keyOf_string_mk hK hs) (plainElem_int hE hw)
 unfold Exec
 rw [if_pos (by simp [Region.wanted,hp.1])]
 unfold Oper.wp
 have hex:(execOp a.eval o).run P w = .ok .skip w':=by
   simp only [execOp,ho,hev,hke,hye,Sem.run_bind,hrun];rfl
 rw [hex,Oper.upon_skip]
 have hver:(T.app o.dst .any [(id,vr,.obj (mapO P K E (m + 1) (fun u=>if u = s then z else f u)))]).ver = T.ver:=by
   funext i'
   rw [St.app_some_ver]
   split
   · rename_i h;subst h;rw [hvt,hv]
   · rfl
 have hst:Stp C (fun i=>i = id) T.ver T.ver g g w w':=by
   refine ⟨r2.size,fun b' hb' hn=>r2.block b' hb' (fun e=>by cases e;exact hn id rfl q2),fun b _ _=>rfl,fun b _ h=>h,fun b i e=>?_,fun _=>.inl rfl,fun _ _=>⟨rfl,rfl⟩,fun _ _=>⟨rfl,rfl⟩,r2.os,r2.tape,r2.output⟩
   have:=hR.dom b i e
   exact ⟨Nat.lt_of_lt_of_le this.1 r2.size,this.2⟩
 refine ⟨g,hR.app1 (c:=.any) (fun t h=>by rw [hp.2] at h;cases h) (by rw [hver];exact hst) trivial ?_⟩
 rw [hver]
 refine ⟨b,_,q1,q2,r1,fun u hu=>?_⟩
 by_cases e:u = s
 · subst e
   show _ = litI (if u = u then z else f u)
   rw [if_pos rfl]
   exact Maps.atKey_put_same (by obtain ⟨_,_,_,_,_,h⟩:=q3;exact ⟨_,h⟩) (by trivial) _ _
 · show _ = litI (if u = s then z else f u)
   rw [if_neg e,Maps.atKey_put_other (fun h=>e (by
     injection h with h
     exact ByteArray.ext (Array.toList_inj.1 h)))]
   exact q4 u hu
end
section
variable {P:Program} {n t:Nat} {ops:Array Oper} {o:Oper} {S:St} {K E:TypeId}
theorem op_mapgetE {ty:TypeId} {x k:Operand} {id vr m:Nat} {f:ByteArray → Int} {s:ByteArray} {z:Int} (hp:Pl n o t) (ho:o.op = .lookup ty x k false) (hK:P.underlying K = some .string) (hT:P.underlying ty = some (.map K E)) (hE:P.underlying E = some (.int .i64))
   (hz:∀ w:World,(zeroValue E).run P w = .ok (.int .i64 0) w) (hx:S.opd x = .row id vr) (hv:S.ver id = vr) (hb:S.blk id = .obj (mapO P K E m f)) (hk:S.opd k = sC s) (hs:s.size ≤ maxLen) (hf:f s = z) :
   OpOk n P ops o ((2 * id + 1) :: (opdN x ++ opdN k)) (iC .i64 z) [] S:=hf ▸ op_mapget hp ho hK hT hE hz hx hv hb hk hs
theorem op_mapsetE {ty:TypeId} {x k y:Operand} {id vr m:Nat} {f f':ByteArray → Int} {s:ByteArray} {z:Int} (hp:Pl0 o) (ho:o.op = .mapUpdate ty x k y) (hK:P.underlying K = some .string) (hT:P.underlying ty = some (.map K E)) (hE:P.underlying E = some (.int .i64))
   (hx:S.opd x = .row id vr) (hv:S.ver id = vr) (hb:S.blk id = .obj (mapO P K E m f)) (hk:S.opd k = sC s) (hs:s.size ≤ maxLen) (hy:S.opd y = iC .i64 z) (hw:(Lit.int .i64 z).wf = true) (hm:m < maxLen) (hf:(fun u=>if u = s then z else f u) = f') :
   OpOk n P ops o ((2 * id + 1) :: (opdN x ++ opdN k ++ opdN y)) .any [(id,vr,.obj (mapO P K E (m + 1) f'))] S:=hf ▸ op_mapset hp ho hK hT hE hx hv hb hk hs hy hw hm
end
theorem zero_int (w:World):(zeroValue 3).run Tryz.prog w = .ok (.int .i64 0) w:=by
 have h:(Tryz.prog.info? 3).bind (·.zero) = some (.int .i64 0):=by kernel_rfl
 cases hi:Tryz.prog.info? 3 with
 | none=>rw [hi] at h;cases h
 | some i=>
   rw [hi] at h
   have h:i.zero = some (.int .i64 0):=h
   simp [zeroValue,typeInfo,hi,h]
section
theorem ms_unlike (l:List It) (hl:l.length ≤ 1000000000) (hall:l.all itR = true):Fn Tryz.prog 87 [itsB l] (boR (ulk l)):=by
 rw [List.all_eq_true] at hall
 refine fi Tryz.func87 Tryz.ntmps87 ?_
 (refine w0 ?_;(repeat' (first|refine W2.mk ?_ ?_|refine W1.mk fun hc=>?_|((first|apply AL_t rfl|apply AL_0 rfl|apply AD_t rfl|apply AD_0 rfl);(focus (first|((exact op_mkmap (K:=9) (E:=3) ⟨rfl,rfl,rfl⟩ rfl))|(apply u_g;(focus rfl);apply op_gyes rfl rfl rfl rfl rfl;first|((exact op_mkmap (K:=9) (E:=3) ⟨rfl,rfl,rfl⟩ rfl)))));refine w0 ?_))))
 refine AW_loopP (X:=Nat) (fun i=>i ≤ l.length ∧ ((l.take i).map It.key).Nodup)
   (fun i=>mkSt [(3,.row 6 0),(7,itsB l),(8,iC .i64 (l.length:Nat)),(9,iC .i64 (i:Nat))] [(6,.obj (mapO Tryz.prog 9 3 i (seenF l i)))]) (fun i=>l.length - i) 0 ⟨Nat.zero_le _,by simp⟩ ?_ ?_
 · rw [seenF_zero]
   exact le_auto
 · rintro i ⟨h1,h2⟩
   by_cases hi:i < l.length
   · have hr:=hall _ (List.getElem_mem hi)
     have hk:=itR_nums hr
     have hkr:keyR l[i].key = true:=by unfold itR at hr;simp only [Bool.and_eq_true] at hr;exact hr.1.1
     have c1:=key_Right l[i].key
     rw [hkr] at c1
     have hks:l[i].key.size ≤ maxLen:=by unfold maxLen;omega
     have him:i < maxLen:=by unfold maxLen;omega
     by_cases hd:l[i].key ∈ (l.take i).map It.key
     · have g0:seenF l i l[i].key = 1:=seenF_in hd
       have hu:ulk l = false:=by
         rw [← Bool.not_eq_true,ulk_iff]
         exact fun q=>nodup_stop hi hd q.2
       obtain ⟨F,hF⟩:∃ F:ByteArray → Int,(fun u=>if u = l[i].key then (2:Int) else seenF l i u) = F:=⟨_,rfl⟩
       have g1:F l[i].key = 2:=by rw [← hF];simp
       rw [hu]
       clear hk hall
       (have kc1:=c1;have ke1:=Lib.hid ((show (1:Int) + 1 = 2 from rfl));refine w0e ?_;(repeat' (first|refine W2.mk ?_ ?_|refine W1.mk fun hc=>?_|((first|apply AL_t rfl|apply AL_0 rfl|apply AD_t rfl|apply AD_0 rfl);(focus (first|((exact op_mapgetE ⟨rfl,rfl,rfl⟩ rfl Tryz.underlying9 Tryz.underlying195 Tryz.underlying3 zero_int rfl rfl rfl rfl hks g0))|((exact op_mapgetE ⟨rfl,rfl,rfl⟩ rfl Tryz.underlying9 Tryz.underlying195 Tryz.underlying3 zero_int rfl rfl rfl rfl hks g1))|((exact op_mapsetE ⟨rfl,rfl⟩ rfl Tryz.underlying9 Tryz.underlying195 Tryz.underlying3 rfl rfl rfl rfl hks rfl (by decide) him hF))|(apply u_g;(focus rfl);apply op_gyes rfl rfl rfl rfl rfl;first|((exact op_mapgetE ⟨rfl,rfl,rfl⟩ rfl Tryz.underlying9 Tryz.underlying195 Tryz.underlying3 zero_int rfl rfl rfl rfl hks g0))|((exact op_mapgetE ⟨rfl,rfl,rfl⟩ rfl Tryz.underlying9 Tryz.underlying195 Tryz.underlying3 zero_int rfl rfl rfl rfl hks g1))|((exact op_mapsetE ⟨rfl,rfl⟩ rfl Tryz.underlying9 Tryz.underlying195 Tryz.underlying3 rfl rfl rfl rfl hks rfl (by decide) him hF)))));refine w0e ?_)));all_goals clear ke1 kc1)
       refine rt1 ?_
       exact rv_bool rfl rfl
     · have g0:seenF l i l[i].key = 0:=seenF_no hd
       have hF:=seenF_step hi
       have g1:seenF l (i + 1) l[i].key = 1:=by rw [← hF];simp
       have h2:=nodup_step hi h2 hd
       clear hk hall
       (have kc1:=c1;have ke1:=Lib.hid ((show (0:Int) + 1 = 1 from rfl));refine w0e ?_;(repeat' (first|refine W2.mk ?_ ?_|refine W1.mk fun hc=>?_|((first|apply AL_t rfl|apply AL_0 rfl|apply AD_t rfl|apply AD_0 rfl);(focus (first|((exact op_mapgetE ⟨rfl,rfl,rfl⟩ rfl Tryz.underlying9 Tryz.underlying195 Tryz.underlying3 zero_int rfl rfl rfl rfl hks g0))|((exact op_mapgetE ⟨rfl,rfl,rfl⟩ rfl Tryz.underlying9 Tryz.underlying195 Tryz.underlying3 zero_int rfl rfl rfl rfl hks g1))|((exact op_mapsetE ⟨rfl,rfl⟩ rfl Tryz.underlying9 Tryz.underlying195 Tryz.underlying3 rfl rfl rfl rfl hks rfl (by decide) him hF))|(apply u_g;(focus rfl);apply op_gyes rfl rfl rfl rfl rfl;first|((exact op_mapgetE ⟨rfl,rfl,rfl⟩ rfl Tryz.underlying9 Tryz.underlying195 Tryz.underlying3 zero_int rfl rfl rfl rfl hks g0))|((exact op_mapgetE ⟨rfl,rfl,rfl⟩ rfl Tryz.underlying9 Tryz.underlying195 Tryz.underlying3 zero_int rfl rfl rfl rfl hks g1))|((exact op_mapsetE ⟨rfl,rfl⟩ rfl Tryz.underlying9 Tryz.underlying195 Tryz.underlying3 rfl rfl rfl rfl hks rfl (by decide) him hF)))));refine w0e ?_)));all_goals clear ke1 kc1)
       refine ⟨i + 1,⟨by omega,h2⟩,by omega,?_⟩
       exact le_auto
   · rw [List.take_of_length_le (by omega)] at h2
     have hu:ulk l = true:=ulk_iff.2 ⟨List.all_eq_true.2 hall,h2⟩
     rw [hu]
     clear hall
     (refine w0 ?_;(repeat' first|refine W2.mk ?_ ?_|refine W1.mk fun hc=>?_))
     refine rt1 ?_
     exact rv_bool rfl rfl
theorem ms_flag (b:Bool):Fn Tryz.prog 80 [bC b] (inR (bitI b)):=by
 cases b with
 | false=>
   refine fi Tryz.func80 Tryz.ntmps80 ?_
   (refine w0 ?_;(repeat' first|refine W2.mk ?_ ?_|refine W1.mk fun hc=>?_))
   refine rt1 ?_
   exact rv_int rfl rfl
 | true=>
   refine fi Tryz.func80 Tryz.ntmps80 ?_
   (refine w0 ?_;(repeat' first|refine W2.mk ?_ ?_|refine W1.mk fun hc=>?_))
   refine rt1 ?_
   exact rv_int rfl rfl
theorem ms_sum (s:Nat):Fn Tryz.prog 83 [iC .u64 (s:Nat)] (ownB (oct s)):=by
 rw [show oct s = tlN 8 s from rfl]
 refine fi Tryz.func83 Tryz.ntmps83 ?_
 (repeat' (first|refine AW_seq ?_|refine AW_block ?_|refine AW_skip ?_|refine AW_exit ?_|refine AW_ret ?_|refine AW_region ?_|refine AW_draw mixed0 ?_|refine AL_nil ?_|refine AD_nil (by kernel_rfl) ?_|(refine AW_cl rfl rfl ⟨fun hc=>?_,fun hc=>?_⟩ <;> (repeat rw [List.length_map] at hc) <;> (try exact absd hc))|((first|apply AL_t rfl|apply AL_0 rfl|apply AD_t rfl|apply AD_0 rfl);focus (first|((exact u_mk (m:=8) ⟨rfl,rfl,rfl⟩ rfl inferInstance inferInstance rfl rfl rfl rfl (by omega) (by omega)))|(apply u_g;(focus rfl);apply op_gyes rfl rfl rfl rfl rfl;((exact u_mk (m:=8) ⟨rfl,rfl,rfl⟩ rfl inferInstance inferInstance rfl rfl rfl rfl (by omega) (by omega))))|exact z_auto|fail))|refine thenA_n ?_|refine thenA_r ?_|refine thenA_e ?_|refine inB_n ?_|refine inB_r ?_|refine inB_hit ?_|refine inB_miss rfl ?_|((first|refine AL_cl rfl rfl rfl ⟨fun hc=>?_,fun hc=>?_⟩|refine AD_cl rfl rfl rfl ⟨fun hc=>?_,fun hc=>?_⟩) <;> (fail_if_success (have q:(true = true):=hc)) <;> (fail_if_success (have q:(false = false):=hc)) <;> (repeat rw [List.length_map] at hc) <;> (try exact absd hc))|refine AW_cond_nil rfl rfl (fun hc=>?_) ?_))
 refine AW_loopP (X:=Nat) (fun k=>k ≤ 8) (fun k=>mkSt [(0,iC .u64 (s:Nat)),(3,.row 5 0),(7,iC .i64 8),(8,iC .i64 (k:Nat))] [(5,.row 5 1 ((tlR 8 s k).map byteP))]) (fun k=>8 - k) 0 (by omega) ?_ ?_
 · rw [tlR_0]
   exact le_auto
 · intro k hk
   have hl:=tlR_len 8 s k hk
   by_cases hlt:k < 8
   · have hZ:=shr_256 (s:=s) (k:=k) (b:=IntKind.u64.bits) (by show 8 * k ≤ 64;omega)
     have hW:=wrap_u8_nat (s / 256 ^ k)
     have HJ:((tlR 8 s k).map byteP)[k]? = some (byteP 0):=by rw [List.getElem?_map,tlR_get 8 s k hlt];rfl
     have HS:((tlR 8 s k).map byteP).set k (setP (byteP 0) 0 (byteP (UInt8.ofNat (s / 256 ^ k)))) = (tlR 8 s (k + 1)).map byteP:=by
       rw [← tlR_set 8 s k hlt,List.map_set];rfl
     generalize s / 256 ^ k = q at *
     (repeat' (first|refine AW_seq ?_|refine AW_block ?_|refine AW_skip ?_|refine AW_exit ?_|refine AW_ret ?_|refine AW_region ?_|refine AW_draw mixed0 ?_|refine AL_nil ?_|refine AD_nil (by kernel_rfl) ?_|(refine AW_cl rfl rfl ⟨fun hc=>?_,fun hc=>?_⟩ <;> (repeat rw [List.length_map] at hc) <;> (try exact absd hc))|((first|apply AL_t rfl|apply AL_0 rfl|apply AD_t rfl|apply AD_0 rfl);focus (first|((exact op_shrB ⟨rfl,rfl,rfl⟩ rfl rfl rfl (by omega) hZ))|(apply u_g;(focus rfl);apply op_gyes rfl rfl rfl rfl rfl;((exact op_shrB ⟨rfl,rfl,rfl⟩ rfl rfl rfl (by omega) hZ)))|((apply u_k 10;(focus rfl);exact u_conv ⟨rfl,rfl,rfl⟩ rfl inferInstance inferInstance rfl hW))|(apply u_g;(focus rfl);apply op_gyes rfl rfl rfl rfl rfl;((apply u_k 10;(focus rfl);exact u_conv ⟨rfl,rfl,rfl⟩ rfl inferInstance inferInstance rfl hW)))|exact z_auto|((apply u_k 6;(focus rfl);exact u_store_r ⟨rfl,rfl⟩ rfl inferInstance rfl rfl rfl rfl HJ rfl (part_raw rfl rfl rfl) rfl HS))|(apply u_g;(focus rfl);apply op_gyes rfl rfl rfl rfl rfl;((apply u_k 6;(focus rfl);exact u_store_r ⟨rfl,rfl⟩ rfl inferInstance rfl rfl rfl rfl HJ rfl (part_raw rfl rfl rfl) rfl HS)))|fail))|refine thenA_n ?_|refine thenA_r ?_|refine thenA_e ?_|refine inB_n ?_|refine inB_r ?_|refine inB_hit ?_|refine inB_miss rfl ?_|((first|refine AL_cl rfl rfl rfl ⟨fun hc=>?_,fun hc=>?_⟩|refine AD_cl rfl rfl rfl ⟨fun hc=>?_,fun hc=>?_⟩) <;> (fail_if_success (have q:(true = true):=hc)) <;> (fail_if_success (have q:(false = false):=hc)) <;> (repeat rw [List.length_map] at hc) <;> (try exact absd hc))|refine AW_cond_nil rfl rfl (fun hc=>?_) ?_))
     refine ⟨k + 1,by omega,by omega,?_⟩
     exact le_auto
   · obtain rfl:k = 8:=by omega
     rw [tlR_n] at *
     (refine w0 ?_;(repeat' first|refine W2.mk ?_ ?_|refine W1.mk fun hc=>?_))
     refine rt1 ?_
     exact rv_ownM rfl rfl rfl rfl
abbrev ownNs (l:List Int):Ret:=.own 3 1 (l.map intP)
theorem ms_numbers (m:Msg):Fn Tryz.prog 36 [msC m] (ownNs (msNums m)):=by
 unfold msNums
 by_cases c1:m.kind = 1
 · rw [if_pos c1]
   have h1:=ms_flag m.wants
   refine fi Tryz.func36 Tryz.ntmps36 ?_
   (repeat' (first|refine AW_seq ?_|refine AW_block ?_|refine AW_skip ?_|refine AW_exit ?_|refine AW_ret ?_|refine AW_region ?_|refine AW_draw mixed0 ?_|refine AL_nil ?_|refine AD_nil (by kernel_rfl) ?_|(refine AW_cl rfl rfl ⟨fun hc=>?_,fun hc=>?_⟩ <;> (repeat rw [List.length_map] at hc) <;> (try exact absd hc))|((first|apply AL_t rfl|apply AL_0 rfl|apply AD_t rfl|apply AD_0 rfl);focus (first|((apply u_k 15;(focus rfl);solve|(apply u_bslice_row <;> first|exact ⟨rfl,rfl,rfl⟩|rfl|infer_instance|(repeat (first|exact PartsL.nil|(apply PartsL.cons;(focus (first|exact part_raw rfl rfl rfl|exact part_agg rfl|exact part_lst rfl))))))))|(apply u_g;(focus rfl);apply op_gyes rfl rfl rfl rfl rfl;((apply u_k 15;(focus rfl);solve|(apply u_bslice_row <;> first|exact ⟨rfl,rfl,rfl⟩|rfl|infer_instance|(repeat (first|exact PartsL.nil|(apply PartsL.cons;(focus (first|exact part_raw rfl rfl rfl|exact part_agg rfl|exact part_lst rfl)))))))))|exact z_auto|exact c_A (h1)|fail))|refine thenA_n ?_|refine thenA_r ?_|refine thenA_e ?_|refine inB_n ?_|refine inB_r ?_|refine inB_hit ?_|refine inB_miss rfl ?_|((first|refine AL_cl rfl rfl rfl ⟨fun hc=>?_,fun hc=>?_⟩|refine AD_cl rfl rfl rfl ⟨fun hc=>?_,fun hc=>?_⟩) <;> (fail_if_success (have q:(true = true):=hc)) <;> (fail_if_success (have q:(false = false):=hc)) <;> (repeat rw [List.length_map] at hc) <;> (try exact absd hc))|refine AW_cond_nil rfl rfl (fun hc=>?_) ?_))
   refine rt1 ?_
   exact rv_own rfl rfl rfl
 rw [if_neg c1]
 by_cases c2:m.kind = 2
 · rw [if_pos c2]
   have h1:=ms_flag m.same
   refine fi Tryz.func36 Tryz.ntmps36 ?_
   (repeat' (first|refine AW_seq ?_|refine AW_block ?_|refine AW_skip ?_|refine AW_exit ?_|refine AW_ret ?_|refine AW_region ?_|refine AW_draw mixed0 ?_|refine AL_nil ?_|refine AD_nil (by kernel_rfl) ?_|(refine AW_cl rfl rfl ⟨fun hc=>?_,fun hc=>?_⟩ <;> (repeat rw [List.length_map] at hc) <;> (try exact absd hc))|((first|apply AL_t rfl|apply AL_0 rfl|apply AD_t rfl|apply AD_0 rfl);focus (first|((apply u_k 15;(focus rfl);solve|(apply u_bslice_row <;> first|exact ⟨rfl,rfl,rfl⟩|rfl|infer_instance|(repeat (first|exact PartsL.nil|(apply PartsL.cons;(focus (first|exact part_raw rfl rfl rfl|exact part_agg rfl|exact part_lst rfl))))))))|(apply u_g;(focus rfl);apply op_gyes rfl rfl rfl rfl rfl;((apply u_k 15;(focus rfl);solve|(apply u_bslice_row <;> first|exact ⟨rfl,rfl,rfl⟩|rfl|infer_instance|(repeat (first|exact PartsL.nil|(apply PartsL.cons;(focus (first|exact part_raw rfl rfl rfl|exact part_agg rfl|exact part_lst rfl)))))))))|exact z_auto|exact c_A (h1)|fail))|refine thenA_n ?_|refine thenA_r ?_|refine thenA_e ?_|refine inB_n ?_|refine inB_r ?_|refine inB_hit ?_|refine inB_miss rfl ?_|((first|refine AL_cl rfl rfl rfl ⟨fun hc=>?_,fun hc=>?_⟩|refine AD_cl rfl rfl rfl ⟨fun hc=>?_,fun hc=>?_⟩) <;> (fail_if_success (have q:(true = true):=hc)) <;> (fail_if_success (have q:(false = false):=hc)) <;> (repeat rw [List.length_map] at hc) <;> (try exact absd hc))|refine AW_cond_nil rfl rfl (fun hc=>?_) ?_))
   refine rt1 ?_
   exact rv_own rfl rfl rfl
 rw [if_neg c2]
 by_cases c3:m.kind = 3
 · rw [if_pos c3]
   refine fi Tryz.func36 Tryz.ntmps36 ?_
   (repeat' (first|refine AW_seq ?_|refine AW_block ?_|refine AW_skip ?_|refine AW_exit ?_|refine AW_ret ?_|refine AW_region ?_|refine AW_draw mixed0 ?_|refine AL_nil ?_|refine AD_nil (by kernel_rfl) ?_|(refine AW_cl rfl rfl ⟨fun hc=>?_,fun hc=>?_⟩ <;> (repeat rw [List.length_map] at hc) <;> (try exact absd hc))|((first|apply AL_t rfl|apply AL_0 rfl|apply AD_t rfl|apply AD_0 rfl);focus (first|((apply u_k 15;(focus rfl);solve|(apply u_bslice_row <;> first|exact ⟨rfl,rfl,rfl⟩|rfl|infer_instance|(repeat (first|exact PartsL.nil|(apply PartsL.cons;(focus (first|exact part_raw rfl rfl rfl|exact part_agg rfl|exact part_lst rfl))))))))|(apply u_g;(focus rfl);apply op_gyes rfl rfl rfl rfl rfl;((apply u_k 15;(focus rfl);solve|(apply u_bslice_row <;> first|exact ⟨rfl,rfl,rfl⟩|rfl|infer_instance|(repeat (first|exact PartsL.nil|(apply PartsL.cons;(focus (first|exact part_raw rfl rfl rfl|exact part_agg rfl|exact part_lst rfl)))))))))|exact z_auto|fail))|refine thenA_n ?_|refine thenA_r ?_|refine thenA_e ?_|refine inB_n ?_|refine inB_r ?_|refine inB_hit ?_|refine inB_miss rfl ?_|((first|refine AL_cl rfl rfl rfl ⟨fun hc=>?_,fun hc=>?_⟩|refine AD_cl rfl rfl rfl ⟨fun hc=>?_,fun hc=>?_⟩) <;> (fail_if_success (have q:(true = true):=hc)) <;> (fail_if_success (have q:(false = false):=hc)) <;> (repeat rw [List.length_map] at hc) <;> (try exact absd hc))|refine AW_cond_nil rfl rfl (fun hc=>?_) ?_))
   refine rt1 ?_
   exact rv_own rfl rfl rfl
 rw [if_neg c3]
 by_cases c5:m.kind = 5
 · rw [if_pos c5]
   have h1:=ms_flag m.last
   refine fi Tryz.func36 Tryz.ntmps36 ?_
   (repeat' (first|refine AW_seq ?_|refine AW_block ?_|refine AW_skip ?_|refine AW_exit ?_|refine AW_ret ?_|refine AW_region ?_|refine AW_draw mixed0 ?_|refine AL_nil ?_|refine AD_nil (by kernel_rfl) ?_|(refine AW_cl rfl rfl ⟨fun hc=>?_,fun hc=>?_⟩ <;> (repeat rw [List.length_map] at hc) <;> (try exact absd hc))|((first|apply AL_t rfl|apply AL_0 rfl|apply AD_t rfl|apply AD_0 rfl);focus (first|((apply u_k 15;(focus rfl);solve|(apply u_bslice_row <;> first|exact ⟨rfl,rfl,rfl⟩|rfl|infer_instance|(repeat (first|exact PartsL.nil|(apply PartsL.cons;(focus (first|exact part_raw rfl rfl rfl|exact part_agg rfl|exact part_lst rfl))))))))|(apply u_g;(focus rfl);apply op_gyes rfl rfl rfl rfl rfl;((apply u_k 15;(focus rfl);solve|(apply u_bslice_row <;> first|exact ⟨rfl,rfl,rfl⟩|rfl|infer_instance|(repeat (first|exact PartsL.nil|(apply PartsL.cons;(focus (first|exact part_raw rfl rfl rfl|exact part_agg rfl|exact part_lst rfl)))))))))|exact z_auto|exact c_A (h1)|fail))|refine thenA_n ?_|refine thenA_r ?_|refine thenA_e ?_|refine inB_n ?_|refine inB_r ?_|refine inB_hit ?_|refine inB_miss rfl ?_|((first|refine AL_cl rfl rfl rfl ⟨fun hc=>?_,fun hc=>?_⟩|refine AD_cl rfl rfl rfl ⟨fun hc=>?_,fun hc=>?_⟩) <;> (fail_if_success (have q:(true = true):=hc)) <;> (fail_if_success (have q:(false = false):=hc)) <;> (repeat rw [List.length_map] at hc) <;> (try exact absd hc))|refine AW_cond_nil rfl rfl (fun hc=>?_) ?_))
   refine rt1 ?_
   exact rv_own rfl rfl rfl
 rw [if_neg c5]
 by_cases c6:m.kind = 6
 · rw [if_pos c6]
   refine fi Tryz.func36 Tryz.ntmps36 ?_
   (repeat' (first|refine AW_seq ?_|refine AW_block ?_|refine AW_skip ?_|refine AW_exit ?_|refine AW_ret ?_|refine AW_region ?_|refine AW_draw mixed0 ?_|refine AL_nil ?_|refine AD_nil (by kernel_rfl) ?_|(refine AW_cl rfl rfl ⟨fun hc=>?_,fun hc=>?_⟩ <;> (repeat rw [List.length_map] at hc) <;> (try exact absd hc))|((first|apply AL_t rfl|apply AL_0 rfl|apply AD_t rfl|apply AD_0 rfl);focus (first|((apply u_k 15;(focus rfl);solve|(apply u_bslice_row <;> first|exact ⟨rfl,rfl,rfl⟩|rfl|infer_instance|(repeat (first|exact PartsL.nil|(apply PartsL.cons;(focus (first|exact part_raw rfl rfl rfl|exact part_agg rfl|exact part_lst rfl))))))))|(apply u_g;(focus rfl);apply op_gyes rfl rfl rfl rfl rfl;((apply u_k 15;(focus rfl);solve|(apply u_bslice_row <;> first|exact ⟨rfl,rfl,rfl⟩|rfl|infer_instance|(repeat (first|exact PartsL.nil|(apply PartsL.cons;(focus (first|exact part_raw rfl rfl rfl|exact part_agg rfl|exact part_lst rfl)))))))))|exact z_auto|fail))|refine thenA_n ?_|refine thenA_r ?_|refine thenA_e ?_|refine inB_n ?_|refine inB_r ?_|refine inB_hit ?_|refine inB_miss rfl ?_|((first|refine AL_cl rfl rfl rfl ⟨fun hc=>?_,fun hc=>?_⟩|refine AD_cl rfl rfl rfl ⟨fun hc=>?_,fun hc=>?_⟩) <;> (fail_if_success (have q:(true = true):=hc)) <;> (fail_if_success (have q:(false = false):=hc)) <;> (repeat rw [List.length_map] at hc) <;> (try exact absd hc))|refine AW_cond_nil rfl rfl (fun hc=>?_) ?_))
   refine rt1 ?_
   exact rv_own rfl rfl rfl
 · rw [if_neg c6]
   refine fi Tryz.func36 Tryz.ntmps36 ?_
   (repeat' (first|refine AW_seq ?_|refine AW_block ?_|refine AW_skip ?_|refine AW_exit ?_|refine AW_ret ?_|refine AW_region ?_|refine AW_draw mixed0 ?_|refine AL_nil ?_|refine AD_nil (by kernel_rfl) ?_|(refine AW_cl rfl rfl ⟨fun hc=>?_,fun hc=>?_⟩ <;> (repeat rw [List.length_map] at hc) <;> (try exact absd hc))|((first|apply AL_t rfl|apply AL_0 rfl|apply AD_t rfl|apply AD_0 rfl);focus (first|((apply u_k 15;(focus rfl);solve|(apply u_bslice_row <;> first|exact ⟨rfl,rfl,rfl⟩|rfl|infer_instance|(repeat (first|exact PartsL.nil|(apply PartsL.cons;(focus (first|exact part_raw rfl rfl rfl|exact part_agg rfl|exact part_lst rfl))))))))|(apply u_g;(focus rfl);apply op_gyes rfl rfl rfl rfl rfl;((apply u_k 15;(focus rfl);solve|(apply u_bslice_row <;> first|exact ⟨rfl,rfl,rfl⟩|rfl|infer_instance|(repeat (first|exact PartsL.nil|(apply PartsL.cons;(focus (first|exact part_raw rfl rfl rfl|exact part_agg rfl|exact part_lst rfl)))))))))|exact z_auto|fail))|refine thenA_n ?_|refine thenA_r ?_|refine thenA_e ?_|refine inB_n ?_|refine inB_r ?_|refine inB_hit ?_|refine inB_miss rfl ?_|((first|refine AL_cl rfl rfl rfl ⟨fun hc=>?_,fun hc=>?_⟩|refine AD_cl rfl rfl rfl ⟨fun hc=>?_,fun hc=>?_⟩) <;> (fail_if_success (have q:(true = true):=hc)) <;> (fail_if_success (have q:(false = false):=hc)) <;> (repeat rw [List.length_map] at hc) <;> (try exact absd hc))|refine AW_cond_nil rfl rfl (fun hc=>?_) ?_))
   refine rt1 ?_
   exact rv_own rfl rfl rfl
theorem txB_len (p:List UInt8) (h:p.length ≤ 100000000):(txB p).length ≤ p.length + 9:=by
 unfold txB textB
 have hs:(⟨p.toArray⟩:ByteArray).size = p.length:=by simp [ByteArray.size]
 rw [hs,List.length_append]
 have:=numI_len (p.length:Int) (by omega)
 unfold numI at this
 simp at this ⊢
 omega
theorem ms_put (b:List UInt8) (ps:List (List UInt8)) (hb:b.length ≤ 1000000) (hn:ps.length ≤ 100) (hs:∀ p ∈ ps,p.length ≤ 100000000):Fn Tryz.prog 40 [.per (bysP b),.bor 1 (ps.map bysQ')] (.per (bysP (b ++ ps.flatMap txB))):=by
 generalize hR:b ++ ps.flatMap txB = R
 refine fi Tryz.func40 Tryz.ntmps40 ?_
 (refine w0 ?_;(repeat' first|refine W2.mk ?_ ?_|refine W1.mk fun hc=>?_))
 refine AW_loopP (X:=Nat × List UInt8) (fun x=>x.1 ≤ ps.length ∧ x.2.length ≤ 1000000 + 100000009 * x.1 ∧ x.2 ++ (ps.drop x.1).flatMap txB = R)
   (fun x=>mkSt [(0,.per (bysP x.2)),(7,.bor 1 (ps.map bysQ')),(8,iC .i64 (ps.length:Nat)),(9,iC .i64 (x.1:Nat))] []) (fun x=>ps.length - x.1) (0,b) ⟨Nat.zero_le _,by simp only;omega,hR⟩ ?_ ?_
 · exact le_auto
 · rintro ⟨i,acc⟩ ⟨h1,h2,h3⟩
   simp only at h1 h2 h3 ⊢
   by_cases hi:i < ps.length
   · rw [List.drop_eq_getElem_cons hi,List.flatMap_cons,← List.append_assoc] at h3
     have hp:=hs _ (List.getElem_mem hi)
     have hl:=txB_len ps[i] hp
     have e:[(⟨ps[i].toArray⟩:ByteArray)].flatMap textB = txB ps[i]:=by simp [txB]
     have c1:=(varint_Text acc [⟨ps[i].toArray⟩] (by rw [e];omega)).frz
     rw [e] at c1
     clear e hs hR
     (have kc1:=c1;refine w0 ?_;(repeat' first|refine W2.mk ?_ ?_|refine W1.mk fun hc=>?_);all_goals clear kc1)
     refine ⟨(i + 1,acc ++ txB ps[i]),⟨by simp only;omega,by simp only [List.length_append];omega,h3⟩,by simp only;omega,?_⟩
     exact le_auto
   · rw [List.drop_of_length_le (by omega),List.flatMap_nil,List.append_nil] at h3
     subst h3
     clear hs
     (refine w0 ?_;(repeat' first|refine W2.mk ?_ ?_|refine W1.mk fun hc=>?_))
     refine rt1 ?_
     exact rv_per rfl
end
end Go.Proofs.YthlffkjpklpkfaaGreat
