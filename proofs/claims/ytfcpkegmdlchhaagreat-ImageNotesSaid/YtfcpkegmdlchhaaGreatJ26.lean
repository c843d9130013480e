/- Texts joined: OpenIt ArgsA Wk AbsMix WkB StR. -/
import Derived.Test.YtfcpkegmdlchhaaGreatJ01
import Derived.ProofKit
import Derived.OpenShut
import Derived.ShutString
import Derived.ChangeOld
import Derived.Deep.Slices
import Derived.Test.YtfcpkegmdlchhaaGreatJ07
import Derived.Test.YtfcpkegmdlchhaaGreatRows
import Derived.Test.YtfcpkegmdlchhaaGreatJ06
import Derived.Test.YtfcpkegmdlchhaaGreatJ03
import Derived.Test.YtfcpkegmdlchhaaGreatJ24
import Derived.Test.YtfcpkegmdlchhaaGreatJ16
import Derived.Test.YtfcpkegmdlchhaaGreatJ25
set_option maxRecDepth 10000
set_option maxHeartbeats 8000000
namespace Go.Proofs.YtfcpkegmdlchhaaGreat
open Go.RowKit Go.Deep Go.ChangeShapes Go.WideShapes

/-- whatever reads at type t has cells of the form Q -/
def Rd (P:Program) (w:World) (t:TypeId) (Q:List Value → Prop):Prop:=
 ∀ (H:Type) (enc:TypeId × Value → H) (spare:Nat → Bool) (held:Bool) (fuel:Nat) (cs:List Value) (x:DataW H × List MemPlace),DataW.trod enc P w 0 spare held fuel t cs = some x → Q cs

section
variable {P:Program} {w:World} {t:TypeId}
theorem Rd.mono {Q Q':List Value → Prop} (h:Rd P w t Q) (hq:∀ cs,Q cs → Q' cs):Rd P w t Q':=fun H enc sp hd f cs x hx=>hq _ (h H enc sp hd f cs x hx)
theorem Rd.int {k:IntKind} (ht:P.underlying t = some (.int k)):Rd P w t (fun cs=>∃ n,cs = [.int k n] ∧ (Lit.int k n).wf = true):=by
 intro H enc sp hd f cs x hx
 obtain ⟨n,h1,_,h2⟩:=DataW.trod_int ht hx
 exact ⟨n,h1,h2⟩
theorem Rd.bool (ht:P.underlying t = some .bool):Rd P w t (fun cs=>∃ b,cs = [.bool b]):=by
 intro H enc sp hd f cs x hx
 obtain ⟨n,h1,_⟩:=DataW.trod_bool ht hx
 exact ⟨n,h1⟩
theorem Rd.string (ht:P.underlying t = some .string):Rd P w t (fun cs=>∃ s,cs = [.string s] ∧ s.size ≤ maxLen):=by
 intro H enc sp hd f cs x hx
 obtain ⟨n,h1,_,h2⟩:=DataW.trod_string ht hx
 exact ⟨n,h1,h2⟩
theorem Rd.struct {fs:Array Field} (ht:P.underlying t = some (.struct fs)) :
   Rd P w t (fun cs=>cs.length = P.cellsOf t ∧ ∀ (i:Nat) (f:Field),fs[i]? = some f → ∀ Q,Rd P w f.type Q → Q ((cs.drop f.offset).take (P.cellsOf f.type))):=by
 intro H enc sp hd f cs x hx
 obtain ⟨xs,n,_,_,hl,hs,hall⟩:=DataW.trod_struct ht hx
 refine ⟨hl,fun i f hf Q hQ=>?_⟩
 have hi:i < fs.size:=by
   rcases Nat.lt_or_ge i fs.size with h|h
   · exact h
   · rw [Array.getElem?_eq_none h] at hf;cases hf
 have:=hall i f hf
 rw [List.getElem?_eq_getElem (by omega)] at this
 exact hQ _ _ _ _ _ _ _ this
theorem Rd.struct' {fs:Array Field} (ht:P.underlying t = some (.struct fs)) :
   Rd P w t (fun cs=>cs.length = P.cellsOf t ∧ ∀ (i off:Nat) (ty:TypeId) (sz:Nat) (Q:List Value → Prop),(fs[i]?).map (fun f=>(f.offset,f.type)) = some (off,ty) → P.cellsOf ty = sz → Rd P w ty Q → Q ((cs.drop off).take sz)):=by
 refine (Rd.struct ht).mono ?_
 rintro cs ⟨h1,h2⟩
 refine ⟨h1,fun i off ty sz Q hi hsz hQ=>?_⟩
 cases hf:fs[i]? with
 | none=>rw [hf] at hi;cases hi
 | some f=>
   rw [hf] at hi
   simp at hi
   obtain ⟨rfl,rfl⟩:=hi
   subst hsz
   exact h2 i f hf Q hQ
theorem Rd.array {n:Nat} {e:TypeId} (ht:P.underlying t = some (.array n e)) {Q:List Value → Prop} (hQ:Rd P w e Q) :
   Rd P w t (fun cs=>cs.length = P.cellsOf t ∧ ∀ i,i < n → Q ((cs.drop (i * P.cellsOf e)).take (P.cellsOf e))):=by
 intro H enc sp hd f cs x hx
 obtain ⟨xs,m,_,_,hl,hs,hall⟩:=DataW.trod_array ht hx
 refine ⟨hl,fun i hi=>?_⟩
 have:=hall i hi
 rw [List.getElem?_eq_getElem (by omega)] at this
 exact hQ _ _ _ _ _ _ _ this

theorem list_of_each {α:Type} {G:Nat → α → Prop}:∀ (n:Nat),(∀ i,i < n → ∃ x,G i x) → ∃ l:List α,l.length = n ∧ ∀ (i:Nat) (x:α),l[i]? = some x → G i x:=by
 intro n
 induction n with
 | zero=>intro _;exact ⟨[],rfl,fun i x h=>by simp at h⟩
 | succ n ih=>
   intro h
   obtain ⟨l,hl,hg⟩:=ih (fun i hi=>h i (by omega))
   obtain ⟨x,hx⟩:=h n (by omega)
   refine ⟨l ++ [x],by simp [hl],fun i y hy=>?_⟩
   rcases Nat.lt_or_ge i n with hi|hi
   · rw [List.getElem?_append_left (by omega)] at hy;exact hg i y hy
   · rw [List.getElem?_append_right (by omega)] at hy
     have:i = n:=by
       by_cases h0:i = n
       · exact h0
       · rw [List.getElem?_eq_none (by simp;omega)] at hy;cases hy
     subst this
     rw [hl] at hy;simp at hy;subst hy;exact hx

/-- a slice whose elements have the form Qe, each of which is written by enc -/
theorem Rd.slice {α:Type} {e:TypeId} {k:Nat} {enc:α → List Value} {Qe:List Value → Prop} {G:α → Prop} (ht:P.underlying t = some (.slice e)) (hk:P.cellsOf e = k) (hk0:0 < k)
   (hQ:Rd P w e Qe) (hdec:∀ cs,Qe cs → ∃ x:α,cs = enc x ∧ G x) :
   Rd P w t (fun cs=>∃ v l,cs = [v] ∧ Sl k enc w v l ∧ ∀ x ∈ l,G x):=by
 intro H en sp hd f cs x hx
 subst hk
 rcases DataW.trod_slice ht hx with ⟨rfl,_⟩|⟨a,len,cap,elems,rest,n,_,rfl,_,hb,hl,hm,hlen,hel,_,_⟩
 · exact ⟨_,[],rfl,⟨none,0,0,0,rfl,by simp,by unfold maxLen;omega,by simp,fun _=>rfl,fun i x hx=>by simp at hx⟩,by simp⟩
 · have key:∀ i,i < len → ∃ x:α,w.cells? 0 (a.add (i * P.cellsOf e)) (P.cellsOf e) = some (enc x) ∧ G x:=by
     intro i hi
     have:=hel i hi
     rw [List.getElem?_eq_getElem (by omega)] at this
     cases hc:w.cells? 0 (a.add (i * P.cellsOf e)) (P.cellsOf e) with
     | none=>rw [hc] at this;simp at this
     | some cs'=>
       rw [hc] at this
       obtain ⟨x,rfl,hg⟩:=hdec cs' (hQ _ _ _ _ _ _ _ this)
       exact ⟨x,rfl,hg⟩
   obtain ⟨l,hll,hcells⟩:=list_of_each len key
   subst hll
   refine ⟨_,l,rfl,?_,fun x hx=>?_⟩
   · have hsp:0 < l.length → a = ⟨a.block,a.off,none⟩:=by
       intro h0
       obtain ⟨c0,hc0⟩:=World.cells?_some (hcells 0 l[0] (by simp [h0])).1
       have h00:=hc0.2 0 (by omega)
       rw [Nat.zero_mul] at h00
       have hz:a.add 0 = a:=by simp [Addr.add]
       rw [hz,hz] at h00
       have:0 < (enc l[0]).length:=by omega
       rw [List.getElem?_eq_getElem this] at h00
       have:=World.cell?_spot h00
       cases a;simp_all
     refine ⟨some a,cap,a.block,a.off,rfl,hl,hm,fun h0=>by rw [← hsp h0],(fun h=>by cases h),?_⟩
     intro i x hx j y hy
     have hi:i < l.length:=by
       rcases Nat.lt_or_ge i l.length with h|h
       · exact h
       · rw [List.getElem?_eq_none h] at hx;cases hx
     obtain ⟨c0,hc0⟩:=World.cells?_some (hcells i x hx).1
     have hj:j < P.cellsOf e:=by
       rcases Nat.lt_or_ge j (enc x).length with h|h
       · omega
       · rw [List.getElem?_eq_none h] at hy;cases hy
     have:=hc0.2 j hj
     rw [add_add,hy] at this
     rw [hsp (by omega),Addr.add_lit] at this
     rw [show a.off + i * P.cellsOf e + j = a.off + (i * P.cellsOf e + j) by omega];exact this
   · obtain ⟨i,hi,rfl⟩:=List.getElem_of_mem hx
     exact (hcells i _ (by simp [hi])).2
end

section
variable {P:Program} {w:World} {t e s:TypeId}
theorem Rd.u8dec:∀ cs,(∃ n,cs = [Value.int .u8 n] ∧ (Lit.int .u8 n).wf = true) → ∃ x:UInt8,cs = encB x ∧ True:=by
 rintro cs ⟨n,rfl,h⟩
 have:=bounds_u8 h
 refine ⟨UInt8.ofNat n.toNat,?_,trivial⟩
 unfold encB
 congr 2
 rw [UInt8.toNat_ofNat']
 omega
/-- bytes that came in -/
theorem Rd.bytes (ht:P.underlying t = some (.slice e)) (he:P.underlying e = some (.int .u8)) (hc:P.cellsOf e = 1) :
   Rd P w t (fun cs=>∃ v l,cs = [v] ∧ Bs w v l):=
 (Rd.slice ht hc (by decide) (Rd.int he) Rd.u8dec).mono fun cs ⟨v,l,h1,h2,_⟩=>⟨v,l,h1,h2⟩
end

/-! ### a law's row out of its walk -/
section
variable {P:Program}

/-- an argument that came in -/
structure Arg (P:Program) (w:World) (t:TypeId) (v:Value):Prop where
 ok:∃ b,Value.okWide P w .any b t v
 rd:∀ Q,Rd P w t Q → Q v.cells.toList

def Args (P:Program) (w:World):List TypeId → List Value → Prop
 | [],[]=>True
 | t :: ts,v :: vs=>Arg P w t v ∧ Args P w ts vs
 | _,_=>False

section
variable {w:World} {t e s:TypeId} {v:Value}
theorem Arg.cells (h:Arg P w t v) (ht:(match P.underlying t with|some (.struct _)=>true|some (.array _ _)=>true|_=>false) = true):∃ cs:Array Value,v = .agg cs:=by
 obtain ⟨b,hb⟩:=h.ok
 unfold Value.okWide at hb
 split at hb
 · obtain ⟨cs,h1,_⟩:=hb;exact ⟨cs,h1⟩
 · obtain ⟨cs,h1,_⟩:=hb;exact ⟨cs,h1⟩
 · rename_i h1 h2
   split at ht
   · rename_i hu;exact absurd hu (h1 _)
   · rename_i hu;exact absurd hu (h2 _ _)
   · cases ht
theorem Arg.int (h:Arg P w t v) {k:IntKind} (ht:P.underlying t = some (.int k)):∃ n,v = .int k n ∧ (Lit.int k n).wf = true:=by
 obtain ⟨b,hb⟩:=h.ok
 obtain ⟨n,rfl⟩:=okWide_int ht hb
 obtain ⟨m,h1,h2⟩:=h.rd _ (Rd.int ht)
 simp [Value.cells] at h1;subst h1
 exact ⟨n,rfl,h2⟩
theorem Arg.bool (h:Arg P w t v) (ht:P.underlying t = some .bool):∃ n,v = .bool n:=by
 obtain ⟨b,hb⟩:=h.ok
 exact okWide_bool ht hb
theorem Arg.string (h:Arg P w t v) (ht:P.underlying t = some .string):∃ n,v = .string n ∧ n.size ≤ maxLen:=by
 obtain ⟨b,hb⟩:=h.ok
 obtain ⟨n,rfl⟩:=okWide_string ht hb
 obtain ⟨m,h1,h2⟩:=h.rd _ (Rd.string ht)
 simp [Value.cells] at h1;subst h1
 exact ⟨n,rfl,h2⟩
/-- a slice that came in, by what its cells are read as -/
theorem Arg.slice (h:Arg P w t v) (ht:P.underlying t = some (.slice e)) {Q:Value → Prop} (hq:Rd P w t (fun cs=>∃ v,cs = [v] ∧ Q v)):Q v:=by
 obtain ⟨b,hb⟩:=h.ok
 obtain ⟨a,l,c,rfl⟩:=okWide_slice ht hb
 obtain ⟨x,h1,h2⟩:=h.rd _ hq
 simp [Value.cells] at h1;subst h1
 exact h2
theorem Arg.bytes (h:Arg P w t v) (ht:P.underlying t = some (.slice e)) (he:P.underlying e = some (.int .u8)) (hc:P.cellsOf e = 1):∃ l,Bs w v l:=
 h.slice (Q:=fun v=>∃ l,Bs w v l) ht ((Rd.bytes ht he hc).mono fun _ ⟨v,l,h1,h2⟩=>⟨v,h1,l,h2⟩)
end

theorem Args.cons {w:World} {t:TypeId} {ts:List TypeId} {vs:List Value} (h:Args P w (t :: ts) vs):∃ v vs',vs = v :: vs' ∧ Arg P w t v ∧ Args P w ts vs':=by
 cases vs with
 | nil=>exact h.elim
 | cons v vs=>exact ⟨v,vs,rfl,h.1,h.2⟩
theorem Args.nil {w:World} {vs:List Value} (h:Args P w [] vs):vs = []:=by
 cases vs with
 | nil=>rfl
 | cons v vs=>exact h.elim
theorem Args.one {w:World} {t0:TypeId} {args:Array Value} (h:Args P w [t0] args.toList):∃ v0,args = #[v0] ∧ Arg P w t0 v0:=by
 obtain ⟨v0,_,e,h0,h⟩:=h.cons
 obtain rfl:=h.nil
 exact ⟨v0,by cases args;simp_all,h0⟩
theorem args_of {H:Type} {enc:TypeId × Value → H} {w:World}:∀ (ts:List TypeId) (vs:List Value) (ds:List (DataW H)) (p:List MemPlace),
   DataW.TrodAll enc P w 0 (fun _=>true) true ts vs ds p → (∀ (j:Nat) t v,ts[j]? = some t → vs[j]? = some v → ∃ b,Value.okWide P w .any b t v) → Args P w ts vs:=by
 intro ts
 induction ts with
 | nil=>intro vs ds p h _;obtain ⟨rfl,_,_⟩:=trodAll_nil h;trivial
 | cons t ts ih=>
   intro vs ds p h hok
   obtain ⟨v,vs',d,ds',p',q,rfl,rfl,rfl,h1,h2⟩:=trodAll_cons h
   refine ⟨⟨hok 0 t v rfl rfl,fun Q hQ=>?_⟩,ih _ _ _ h2 fun j t v h h'=>hok (j + 1) t v (by simpa using h) (by simpa using h')⟩
   obtain ⟨fuel,hf⟩:=h1
   exact hQ _ _ _ _ _ _ _ hf

theorem trodAll_ext {H:Type} {enc:TypeId × Value → H} {w w':World} (hl:laidOutB P = true) (he:Ext w w'):∀ (ts:List TypeId) (vs:List Value) (ds:List (DataW H)) (p:List MemPlace),
   (∀ t ∈ ts,P.readableRec t = true ∧ t < P.types.size) →
   DataW.TrodAll enc P w 0 (fun _=>true) true ts vs ds p → DataW.TrodAll enc P w' 0 (fun b=>decide (b < w.heap.size)) true ts vs ds p:=by
 intro ts
 induction ts with
 | nil=>intro vs ds p _ h;obtain ⟨rfl,rfl,rfl⟩:=trodAll_nil h;exact trodAll_mk0
 | cons t ts ih=>
   intro vs ds p hr h
   obtain ⟨v,vs',d,ds',p',q,rfl,rfl,rfl,h1,h2⟩:=trodAll_cons h
   have hlt:∀ x ∈ p',x.block < w.heap.size:=by obtain ⟨m,hm⟩:=h1;exact DataW.trod_lt m _ _ _ hm
   exact trodAll_cons_mk (Below.trod hl (hr t (by simp)).1 (hr t (by simp)).2 h1 he hlt) (ih _ _ _ (fun t ht=>hr t (by simp [ht])) h2)

theorem law_lifted {C:Checked} {f:FuncId} {fn:Func} {s:ChangeSpec} {T:TypeId} (own:ownKnob C.prog.godebug = none) (laidOut:laidOutB C.prog = true)
   (noInit:C.prog.inits.idxOf? f = none) (hfn:C.prog.funcs[f]? = some fn) (hres:fn.resultTypes = #[T]) (hT:C.prog.underlying T = some .bool)
   (hread:fn.params.toList.all (fun t=>C.prog.readableRec t && decide (t < C.prog.types.size)) = true)
   (hvars:s.vars = []) (hspec:∀ (H:Type) (ds:List (DataW H)),ds.length = fn.params.size → (s.fn H (ds ++ [])).results = [.lit (.bool true)] ∧ (s.fn H (ds ++ [])).args = ds ∧ (s.fn H (ds ++ [])).vars = [])
   (walk:∀ (w:World) (args:Array Value),Args C.prog w fn.params.toList args.toList → Calls C.prog f args w fun e w'=>e = .returned (.bool true) ∧ Ext w w')
   {conds:List PathCond} (os:Os) (started:os.Started) (H:Type) (enc:TypeId × Value → H)
   (witness:∃ (w:World) (tape:Tape) (i:Input),w.os = os ∧ (w.forCall tape i).Shaped C.prog ∧ i.vars = [] ∧ Input.okWide C.prog (w.forCall tape i) .any w.heap.size f i ∧
     s.pre6 enc C.prog fn conds false (w.forCall tape i).memory i.args ∧ ({}:Assume).holds C.prog (lone (Frame.enter C.prog f i.args .normal) [] (w.forCall tape i))) :
   ReturnsInHanded {} C os f .any (s.pre6 enc C.prog fn conds false) (s.post enc C.prog fn false true false false):=by
 refine returnsInHanded_of_change (C:=C) own started noInit hfn witness ?_
 intro W base args ds gs before hval hW hcnd _
 have hW':=hW
 obtain ⟨p,q,hA,hV,rfl,hfz,hnd⟩:=hW
 rw [hvars] at hV
 obtain ⟨rfl,rfl⟩:=trodVars_none hV
 have hargs:Args C.prog W fn.params.toList args.toList:=args_of _ _ _ _ hA fun j t v h h'=>⟨base,hval j t v (by simpa using h) (by simpa using h')⟩
 have hlen:ds.length = fn.params.size:=by
   have:∀ (ts:List TypeId) (vs:List Value) (ds:List (DataW H)) (p:List MemPlace),DataW.TrodAll enc C.prog W 0 (fun _=>true) true ts vs ds p → ds.length = ts.length:=by
     intro ts
     induction ts with
     | nil=>intro vs ds p h;obtain ⟨_,rfl,_⟩:=trodAll_nil h;rfl
     | cons t ts ih=>intro vs ds p h;obtain ⟨_,_,_,_,_,_,rfl,rfl,rfl,_,h2⟩:=trodAll_cons h;simp [ih _ _ _ h2]
   rw [this _ _ _ _ hA];simp
 obtain ⟨e1,e2,e3⟩:=hspec H ds hlen
 refine (walk W args hargs).mono fun e W' ⟨he,bel⟩=>?_
 subst he
 refine ⟨_,rfl,ds,[],_,[],p,[],hW',?_,?_,?_,bel.below.frame _,fun h=>by cases h⟩
 · rw [e1,hres];exact trodAll_mk1 (shut_bool hT true)
 · rw [e2]
   refine trodAll_ext laidOut bel _ _ _ _ (fun t ht=>?_) hA
   have:=List.all_eq_true.1 hread t ht
   simpa using this
 · rw [e3,hvars];rfl
end
end Go.Proofs.YtfcpkegmdlchhaaGreat
namespace Go.Proofs.YtfcpkegmdlchhaaGreat
open Go.RowKit

theorem list7 {α:Type} (l:List α) (h:l.length = 7):∃ a b c d e f g,l = [a,b,c,d,e,f,g]:=by
 match l,h with|[a,b,c,d,e,f,g],_=>exact ⟨a,b,c,d,e,f,g,rfl⟩
theorem list2 {α:Type} (l:List α) (h:l.length = 2):∃ a b,l = [a,b]:=by
 match l,h with|[a,b],_=>exact ⟨a,b,rfl⟩

theorem rdVer (w:World):Rd Tryz.prog w 68 (fun cs=>∃ r c,cs = [Value.int .i64 r,.int .i64 c] ∧ (Lit.int .i64 r).wf = true ∧ (Lit.int .i64 c).wf = true):=by
 refine (Rd.struct' Tryz.underlying68).mono ?_
 rintro cs ⟨hl,hf⟩
 obtain ⟨c0,c1,rfl⟩:=list2 cs (hl.trans (by kernel_rfl))
 obtain ⟨r,h1,w1⟩:=hf 0 0 3 1 _ rfl (by kernel_rfl) (Rd.int Tryz.underlying3)
 obtain ⟨c,h2,w2⟩:=hf 1 1 3 1 _ rfl (by kernel_rfl) (Rd.int Tryz.underlying3)
 simp at h1 h2
 subst h1 h2
 exact ⟨r,c,rfl,w1,w2⟩

/-- the numbers and texts of an item that came in -/
def ItWf (x:It):Prop:=x.key.size ≤ maxLen ∧ x.body.size ≤ maxLen ∧ (Lit.int .i64 x.rep).wf = true ∧ (Lit.int .i64 x.cnt).wf = true ∧ (Lit.int .i64 x.rank).wf = true ∧ (Lit.int .i64 x.prio).wf = true

theorem rdIt (w:World):Rd Tryz.prog w 70 (fun cs=>∃ x,cs = encIt x ∧ ItWf x):=by
 refine (Rd.struct' Tryz.underlying70).mono ?_
 rintro cs ⟨hl,hf⟩
 obtain ⟨c0,c1,c2,c3,c4,c5,c6,rfl⟩:=list7 cs (hl.trans (by kernel_rfl))
 obtain ⟨s0,h0,w0⟩:=hf 0 0 9 1 _ rfl (by kernel_rfl) (Rd.string Tryz.underlying9)
 obtain ⟨r,c,h1,w1,w1'⟩:=hf 1 1 68 2 _ rfl (by kernel_rfl) (rdVer w)
 obtain ⟨n2,h2,w2⟩:=hf 2 3 3 1 _ rfl (by kernel_rfl) (Rd.int Tryz.underlying3)
 obtain ⟨n3,h3,w3⟩:=hf 3 4 3 1 _ rfl (by kernel_rfl) (Rd.int Tryz.underlying3)
 obtain ⟨b4,h4⟩:=hf 4 5 4 1 _ rfl (by kernel_rfl) (Rd.bool Tryz.underlying4)
 obtain ⟨s5,h5,w5⟩:=hf 5 6 9 1 _ rfl (by kernel_rfl) (Rd.string Tryz.underlying9)
 simp at h0 h1 h2 h3 h4 h5
 obtain ⟨rfl,rfl⟩:=h1
 subst h0 h2 h3 h4 h5
 exact ⟨⟨s0,r,c,n2,n3,b4,s5⟩,rfl,w0,w5,w1,w1',w2,w3⟩

theorem sl_lst {α:Type} {top N:BP} {k:Nat} {enc:α → List Value} (hE:Enc k enc) {l:List α} {w:World} {v:Value} (hN:∀ b,¬ top b) (h:Sl k enc w v l):lstAt top N k (l.map (rawsE enc)) w v:=by
 obtain ⟨a,c,b,o,rfl,h1,h2,h3,h0,h4⟩:=h
 refine ⟨a,c,b,o,by rw [List.length_map],by rw [List.length_map];exact h1,h2,h0,fun hl=>?_,fun i cs hi=>?_⟩
 · rw [List.length_map] at hl
   refine ⟨h3 hl,?_,hN b⟩
   have hk:0 < (enc l[0]).length:=by rw [hE.len];exact hE.pos
   have:=h4 0 l[0] (by simp [hl]) 0 (enc l[0])[0] (by simp [hk])
   rcases Nat.lt_or_ge b w.heap.size with hb|hb
   · exact hb
   · simp [World.cell?,Array.getElem?_eq_none hb] at this
 · rw [List.getElem?_map] at hi
   cases hx:l[i]? with
   | none=>rw [hx] at hi;cases hi
   | some x=>
     rw [hx] at hi;cases hi
     refine ⟨by unfold rawsE;rw [List.length_map,hE.len],fun j A hj=>?_⟩
     unfold rawsE at hj
     rw [List.getElem?_map] at hj
     cases hy:(enc x)[j]? with
     | none=>rw [hy] at hj;cases hj
     | some y=>
       rw [hy] at hj;cases hj
       exact ⟨y,h4 i x hx j y hy,hE.one x y (List.mem_of_getElem? hy),rfl⟩
def cx (w:World):Ctx:=⟨w,fun _=>False,fun _=>False,g0⟩
abbrev In (w:World) (v:Value) (c:Cnt):Prop:=crep (cx w) (fun _=>0) g0 w v c
theorem in_lst {α:Type} {k:Nat} {enc:α → List Value} (hE:Enc k enc) {l:List α} {w:World} {v:Value} (h:Sl k enc w v l):In w v (.per (lstP k (l.map (rawsE enc)))):=
 sl_lst hE (fun _ hb=>hb.elim id (fun h=>h rfl)) h
theorem run1 {P:Program} {f:FuncId} {c:Cnt} {w:World} {v:Value} (h:Fn P f [c] (.per (rawP (.bool true)))) (h0:In w v c):Calls P f #[v] w fun e w'=>e = .returned (.bool true) ∧ Ext w w':=by
 refine (h.run (fun _=>False) w [v] (fun _ hb=>hb.elim) ⟨rfl,fun i u d hi hj=>?_⟩).mono ?_
 · match i,hi,hj with
   | 0,hi,hj=>cases hi;cases hj;exact h0
   | _ + 1,hi,_=>simp at hi
 · rintro e w' ⟨u,rfl,hx,hu⟩
   have hu:u = .bool true:=hu
   exact ⟨by rw [hu],hx⟩
/-- what reads as A reads as B -/
def Imp (A B:PV):Prop:=∀ (N:BP) (w:World) (v:Value),A.p N w v → B.p N w v
theorem Imp.refl {A:PV}:Imp A A:=fun _ _ _ h=>h
theorem nil_imp {k:Nat}:Imp (rawP (.slice none 0 0)) (lstP k []):=fun N w v h=>by
 have h:v = .slice none 0 0:=h
 subst h
 exact ⟨none,0,0,0,rfl,by simp,by decide,fun _=>rfl,by simp,fun i cs hi=>by simp at hi⟩
inductive PW:List PV → List PV → Prop
 | nil:PW [] []
 | cons {A B:PV} {l l':List PV} (h:Imp A B) (k:PW l l'):PW (A :: l) (B :: l')
theorem PW.len {l l':List PV} (h:PW l l'):l.length = l'.length:=by
 induction h with
 | nil=>rfl
 | cons h k ih=>simp [ih]
theorem PW.get {l l':List PV} (h:PW l l'):∀ (j:Nat) (B:PV),l'[j]? = some B → ∃ A,l[j]? = some A ∧ Imp A B:=by
 induction h with
 | nil=>intro j B h;simp at h
 | @cons A B l l' h k ih=>
   intro j C hj
   cases j with
   | zero=>simp at hj;subst hj;exact ⟨A,rfl,h⟩
   | succ j=>simpa using ih j C (by simpa using hj)
theorem agg_imp {l l':List PV} (h:PW l l'):Imp (aggP l) (aggP l'):=fun N w v ⟨vs,e,h1,h2⟩=>by
 refine ⟨vs,e,by rw [h1,h.len],fun j B hj=>?_⟩
 obtain ⟨A,q1,q2⟩:=h.get j B hj
 obtain ⟨y,r1,r2,r3⟩:=h2 j A q1
 exact ⟨y,r1,r2,q2 N w y r3⟩
theorem aI {l l':List PV} (h:PW l l':=by (repeat (first|exact PW.nil|(refine PW.cons (by first|exact Imp.refl|exact nil_imp) ?_)))):Imp (aggP l) (aggP l'):=agg_imp h
section
variable {P:Program} {n:Nat} {S:St} {A B:PV} {rv:ResultVar} {τ:List (Nat × Nat)}
theorem rvm_wk (h:RVM P n S τ rv (.per A)) (k:Imp A B):RVM P n S τ rv (.per B):=fun C g a w hR=>by
 obtain ⟨v,h1,h2⟩:=h C g a w hR
 exact ⟨v,h1,k _ _ _ h2⟩
theorem rv_wk (h:ResVarOk P n S rv (.per A)) (k:Imp A B):ResVarOk P n S rv (.per B):=fun C g a w hL hR=>by
 obtain ⟨v,h1,h2⟩:=h C g a w hL hR
 exact ⟨v,h1,k _ _ _ h2⟩
theorem Fn.arg1 {f:FuncId} {r:Ret} (h:Fn P f [.per B] r) (k:Imp A B):Fn P f [.per A] r:=⟨h.ent,fun N0 w vs hN ha=>by
 refine h.run N0 w vs hN ⟨ha.1,fun i u c hi hj=>?_⟩
 match i,hi,hj with
 | 0,hi,hj=>cases hj;exact k _ _ _ (ha.2 0 u (.per A) hi rfl)
 | _ + 1,_,hj=>simp at hj⟩
end
section
variable {P:Program} {n:Nat} {ops:Array Oper} {o:Oper} {F:List Nat} {S T:St} {C:Ctx} {g:Gh} {a:Act} {w w':World} {t:Nat}

/-- a step that turns what is said of a block alone -/
theorem R_blk {id vr:Nat} {B:Blk} (hR:RG C n S g a w) (hv:S.ver id = vr) (hb:brep C S.ver g w id B):RG C n (S.putB [(id,vr,B)]) g a w:=by
 have hver:(S.putB [(id,vr,B)]).ver = S.ver:=by
   funext i
   rw [St.putB_ver]
   split
   · rename_i h;subst h;exact hv.symm
   · rfl
 refine ⟨hR.defers,hR.tsz,hR.nle,hR.keep,hR.os,hR.tape,hR.output,hR.size,hR.old,hR.n0,hR.n0l,hR.dom,fun t=>?_,fun i=>?_⟩
 · rw [hver];exact hR.slots t
 · rw [hver,St.putB_blk]
   split
   · rename_i h;subst h;exact hb
   · exact hR.blks i
end
theorem Le_boxW {n:Nat} {S:St} (id vr e:Nat) (As Bs:List PV) (hv:S.ver id = vr) (hb:S.blk id = .box e (As.map Cnt.per)) (k:PW As Bs):Le n S (S.putB [(id,vr,.box e (Bs.map Cnt.per))]):=by
 rintro C a w ⟨g,hR⟩
 have h:=hR.blks id
 rw [hb] at h
 obtain ⟨cs,h1,h2,h3,h4⟩:=h
 refine ⟨g,R_blk hR hv ⟨cs,h1,h2,by rw [h3,List.length_map,List.length_map,k.len],fun j c hj=>?_⟩⟩
 rw [List.getElem?_map] at hj
 cases hB:Bs[j]? with
 | none=>rw [hB] at hj;cases hj
 | some B=>
   rw [hB] at hj;cases hj
   obtain ⟨A,q1,q2⟩:=k.get j B hB
   obtain ⟨y,r1,r2,r3⟩:=h4 j (.per A) (by rw [List.getElem?_map,q1];rfl)
   exact ⟨y,r1,r2,q2 _ _ _ r3⟩
/-- a row whose cells say less -/
theorem Le_rowW {n:Nat} {S:St} (id vr e k:Nat) (es es':List (List PV)) (hv:S.ver id = vr) (hb:S.blk id = .row e k es) (hl:es.length = es'.length) (h:∀ (i:Nat) (ps':List PV),es'[i]? = some ps' → ∃ ps,es[i]? = some ps ∧ PW ps ps'):Le n S (S.putB [(id,vr,.row e k es')]):=by
 rintro C a w ⟨g,hR⟩
 have hB:=hR.blks id
 rw [hb] at hB
 refine ⟨g,R_blk hR hv ?_⟩
 rcases hB with ⟨q1,q2⟩|⟨cap,cs,q1,q2,q3,q4,q5,q6,q7⟩
 · refine .inl ⟨q1,?_⟩
   rw [q2] at hl
   exact List.eq_nil_of_length_eq_zero hl.symm
 · refine .inr ⟨cap,cs,by rw [← hl];exact q1,q2,q3,by omega,q5,q6,fun i ps' hi=>?_⟩
   obtain ⟨ps,r1,r2⟩:=h i ps' hi
   obtain ⟨t1,t2⟩:=q7 i ps r1
   refine ⟨by rw [← t1,r2.len],fun j B hj=>?_⟩
   obtain ⟨A,u1,u2⟩:=r2.get j B hj
   obtain ⟨y,z1,z2,z3⟩:=t2 j A u1
   exact ⟨y,z1,z2,u2 _ _ _ z3⟩
def cutsP (f:List Rg):List Pc:=f.map fun r=>⟨r,[]⟩
theorem cuts_edg (k:List Pc) (f:List Rg):edgK (k ++ cutsP f) = resE k f:=by
 have e:cutsP f = f.map fun r=>(⟨r,[]⟩:Pc):=rfl
 unfold edgK resE rgsOf
 rw [List.map_append,e,List.map_map]
 congr 2
 have:(Pc.rg ∘ fun r=>(⟨r,[]⟩:Pc)) = id:=rfl
 rw [this,List.map_id]
theorem resE_len (k:List Pc) (f:List Rg):(resE k f).length ≤ 1 + 2 * (k.length + f.length):=by
 have:=edgT_len (rgsOf k ++ f) [emB]
 unfold resE
 unfold rgsOf at *
 simp only [List.length_cons,List.length_nil,List.length_append,List.length_map,Nat.zero_add] at this
 exact this
theorem resE_sz {k:List Pc} {f:List Rg} {m:ByteArray} (h:m ∈ resE k f):m.size ≤ 1000000000:=by
 have:=resE_ok k f m h;omega
theorem resF_tot {k:List Pc} (hk:pcsMid k) (f:List Rg) (s:ByteArray):knsTot (resF k f s):=by
 unfold resF
 split
 · have:=atK_sz hk s
   exact ⟨by omega,by omega⟩
 · exact ⟨by simp,by simp⟩
abbrev rgRw (r:Rg):List PV:=[rawP (.string r.lo),rawP (.string r.hi),rawP (.bool r.op),rawP (.slice none 0 0)]
section
theorem kn_res1 (k:List Pc) (f:List Rg) (s:ByteArray) (hk:pcsMid k) (hf:rgsOk f) (hfl:f.length ≤ 1000000) (hs:s.size ≤ 1000000000) :
   Fn Tryz.prog 123 [sC s,.per (rptrP [rgsP f]),.per (rptrP [pcsP k])] (ownKn (resF k f s)):=by
 have h1:=rgs_HasR f s hf (by omega) hs
 have h2:=kn_At k s hk hs
 unfold resF
 cases hh:anyR f s with
 | false=>
   rw [hh] at h1
   simp only [Bool.false_eq_true,if_false]
   refine fi Tryz.func123 Tryz.ntmps123 ?_
   (have kc1:=h1;refine w0 ?_;(repeat' first|refine W2.mk ?_ ?_|refine W1.mk fun hc=>?_);all_goals clear kc1)
   refine rt1 ?_
   exact rv_nil rfl
 | true=>
   rw [hh] at h1
   simp only [if_true]
   generalize atK k s = A at *
   refine fi Tryz.func123 Tryz.ntmps123 ?_
   (have kc1:=h1;have kc2:=h2;refine w0 ?_;(repeat' first|refine W2.mk ?_ ?_|refine W1.mk fun hc=>?_);all_goals clear kc2 kc1)
   refine rt1 ?_
   exact rv_own rfl rfl rfl
theorem kn_Restrict (k:List Pc) (f:List Rg) (hk:pcsMid k) (hf:rgsOk f) (hfl:f.length ≤ 100000) (hkl:k.length ≤ 500000) (hof:Fn Tryz.prog 120 [rgsB f] (ownRg f)) :
   Fn Tryz.prog 76 [pcsC k,.per (rgsP f)] (ownPc (restK k f)):=by
 have h0:=hof.frz
 have h1:=kn_edges [k,cutsP f] (by simp) (by simp [cutsP];omega)
 have e1:[k,cutsP f].flatten = k ++ cutsP f:=by simp
 rw [e1,cuts_edg] at h1
 have hlE:=resE_len k f
 have h2:=kn_build 123 [rptrP [rgsP f],rptrP [pcsP k]] (resF k f) (resE k f) (by omega) (fun s hs=>(kn_res1 k f s hk hf (by omega) (resE_sz hs)).frz.toM) (fun s _=>resF_ok k f s) (fun s _=>resF_tot hk f s)
 rw [show bldK (resF k f) (resE k f) = restK k f from rfl] at h2
 generalize restK k f = R at *
 generalize resE k f = E at *
 clear hlE e1 hk
 refine fi Tryz.func76 Tryz.ntmps76 ?_
 (have kc1:=h0;refine w0 ?_;(repeat' first|refine W2.mk ?_ ?_|refine W1.mk fun hc=>?_);all_goals clear kc1)
 refine AW_le (Le_nil 6 700 117 4 rfl rfl) ?_
 refine AW_loopP (X:=Nat) (fun i=>i ≤ f.length) (fun i=>mkSt [(2,.ptr 2 0 0),(5,.ptr 5 0 0),(6,.row 700 0),(11,.per (rgsP f)),(12,iC .i64 (f.length:Nat)),(13,iC .i64 (i:Nat))] [(2,.box 24 [pcsC k]),(5,.box 22 [.per (rgsP f)]),(700,.row 117 4 ((f.take i).map rgRw))]) (fun i=>f.length - i) 0 (Nat.zero_le _) ?_ ?_
 · exact le_auto
 · intro i hi
   by_cases hlt:i < f.length
   · have hsn:f.take (i + 1) = f.take i ++ [f[i]]:=by rw [List.take_succ_eq_append_getElem hlt]
     have hlk:(f.take i).length ≤ i:=by rw [List.length_take];omega
     generalize f.take i = A at *
     clear h0 h1 h2
     (refine w0 ?_;(repeat' first|refine W2.mk ?_ ?_|refine W1.mk fun hc=>?_))
     refine ⟨i + 1,hlt,by omega,Le_trans (Le_mv 700 701) (Le_trans (Le_mv 701 700) ?_)⟩
     rw [hsn]
     exact le_auto
   · rw [List.take_of_length_le (show f.length ≤ i by omega)]
     clear h0
     refine AW_le (Le_rowW 700 _ 117 4 _ ((cutsP f).map pcP) rfl rfl (by simp [cutsP]) (fun j ps' hj=>?_)) ?_
     · unfold cutsP at hj
       rw [List.map_map,List.getElem?_map] at hj
       cases hq:f[j]? with
       | none=>rw [hq] at hj;cases hj
       | some r=>
         rw [hq] at hj;cases hj
         refine ⟨rgRw r,by rw [List.getElem?_map,hq];rfl,?_⟩
         (repeat (first|exact PW.nil|(refine PW.cons (by first|exact Imp.refl|exact nil_imp) ?_)))
     refine AW_le (Le_fz 700 _ 117 4 rfl rfl) (AW_le (Le_fzB 2 _ 24 rfl rfl rfl) (AW_le (Le_fzB 5 _ 22 rfl rfl rfl) ?_))
     (repeat' (first|refine AW_seq ?_|refine AW_block ?_|refine AW_skip ?_|refine AW_exit ?_|refine AW_ret ?_|refine AW_region ?_|refine AW_draw mixed0 ?_|refine AL_nil ?_|refine AD_nil (by kernel_rfl) ?_|(refine AW_cl rfl rfl ⟨fun hc=>?_,fun hc=>?_⟩ <;> (repeat rw [List.length_map] at hc) <;> (try exact absd hc))|((first|apply AL_t rfl|apply AL_0 rfl|apply AD_t rfl|apply AD_0 rfl);focus (first|((apply u_k 22;(focus rfl);exact op_mkP2 ⟨rfl,rfl,rfl⟩ rfl rfl rfl))|(apply u_g;(focus rfl);apply op_gyes rfl rfl rfl rfl rfl;((apply u_k 22;(focus rfl);exact op_mkP2 ⟨rfl,rfl,rfl⟩ rfl rfl rfl)))|exact z_auto|((refine c_O (h1) (hg:=?_);((repeat (first|exact GL.nil|(refine GL.cons ?_ ?_;focus (first|exact gl_per rfl|exact gl_lst rfl|exact gl_row rfl rfl rfl|exact gl_bor rfl|exact gl_nil rfl|exact gl_nil' rfl))));done)))|(apply u_g;(focus rfl);apply op_gyes rfl rfl rfl rfl rfl;((refine c_O (h1) (hg:=?_);((repeat (first|exact GL.nil|(refine GL.cons ?_ ?_;focus (first|exact gl_per rfl|exact gl_lst rfl|exact gl_row rfl rfl rfl|exact gl_bor rfl|exact gl_nil rfl|exact gl_nil' rfl))));done))))|((refine c_O (h2) (hg:=?_);((repeat (first|exact GL.nil|(refine GL.cons ?_ ?_;focus (first|exact gl_per rfl|exact gl_lst rfl|exact gl_row rfl rfl rfl|exact gl_bor rfl|exact gl_nil rfl|exact gl_nil' rfl))));done)))|(apply u_g;(focus rfl);apply op_gyes rfl rfl rfl rfl rfl;((refine c_O (h2) (hg:=?_);((repeat (first|exact GL.nil|(refine GL.cons ?_ ?_;focus (first|exact gl_per rfl|exact gl_lst rfl|exact gl_row rfl rfl rfl|exact gl_bor rfl|exact gl_nil rfl|exact gl_nil' rfl))));done))))|fail))|refine thenA_n ?_|refine thenA_r ?_|refine thenA_e ?_|refine inB_n ?_|refine inB_r ?_|refine inB_hit ?_|refine inB_miss rfl ?_|((first|refine AL_cl rfl rfl rfl ⟨fun hc=>?_,fun hc=>?_⟩|refine AD_cl rfl rfl rfl ⟨fun hc=>?_,fun hc=>?_⟩) <;> (fail_if_success (have q:(true = true):=hc)) <;> (fail_if_success (have q:(false = false):=hc)) <;> (repeat rw [List.length_map] at hc) <;> (try exact absd hc))|refine AW_cond_nil rfl rfl (fun hc=>?_) ?_))
     refine rt1 ?_
     exact rv_own rfl rfl rfl
theorem kn_Same1 (p q:Pc) (hp:knsOk p.set) (hq:knsOk q.set) (tp:knsTot p.set) (tq:knsTot q.set):FnM Tryz.prog 119 [pcC p,pcC q] [] (bC (decide (p = q))) []:=by
 have h1:=vs_Same p.set q.set p.set q.set (vs_Of_ok p.set tp hp) (vs_Of_ok q.set tq hq) tp.sz
 have hEo:=rgE_o p.rg q.rg
 have hE:p = q ↔ p.rg = q.rg ∧ p.set = q.set:=by cases p;cases q;simp
 clear hp hq tp tq
 by_cases e1:p.rg = q.rg
 · rw [(rgE_iff _ _).2 e1] at hEo
   by_cases e2:p.set = q.set
   · rw [decide_eq_true (hE.2 ⟨e1,e2⟩)]
     rw [decide_eq_true e2] at h1
     clear hE e2 e1
     refine fmi Tryz.func119 Tryz.ntmps119 ?_
     (have kc1:=h1;refine w0 ?_;(repeat' (first|refine W2.mk ?_ ?_|refine W1.mk fun hc=>?_|((first|apply AL_t rfl|apply AL_0 rfl|apply AD_t rfl|apply AD_0 rfl);(focus (first|(exact op_eqA (us:=encRg p.rg) (vs:=encRg q.rg) ⟨rfl,rfl,rfl⟩ rfl rfl rfl (by first|exact .inl ⟨rfl,rfl⟩|exact .inr ⟨rfl,rfl⟩) rgG rfl hEo)|((apply u_k 5;(focus rfl);first|exact u_load_bpT ⟨rfl,rfl,rfl⟩ rfl inferInstance inferInstance rfl rfl rfl rfl|exact u_load_rpT ⟨rfl,rfl,rfl⟩ rfl inferInstance inferInstance rfl rfl rfl rfl))|(apply u_g;(focus rfl);apply op_gyes rfl rfl rfl rfl rfl;first|(exact op_eqA (us:=encRg p.rg) (vs:=encRg q.rg) ⟨rfl,rfl,rfl⟩ rfl rfl rfl (by first|exact .inl ⟨rfl,rfl⟩|exact .inr ⟨rfl,rfl⟩) rgG rfl hEo)|((apply u_k 5;(focus rfl);first|exact u_load_bpT ⟨rfl,rfl,rfl⟩ rfl inferInstance inferInstance rfl rfl rfl rfl|exact u_load_rpT ⟨rfl,rfl,rfl⟩ rfl inferInstance inferInstance rfl rfl rfl rfl)))));refine w0 ?_)));all_goals clear kc1)
     (refine ⟨(by first|exact .inl rfl|exact .inr rfl),resM1 [] rfl rfl .nil ?_⟩)
     exact rvm_bool rfl (by first|rfl|(simp;done))
   · rw [decide_eq_false (fun h=>e2 (hE.1 h).2)]
     rw [decide_eq_false e2] at h1
     clear hE e2 e1
     refine fmi Tryz.func119 Tryz.ntmps119 ?_
     (have kc1:=h1;refine w0 ?_;(repeat' (first|refine W2.mk ?_ ?_|refine W1.mk fun hc=>?_|((first|apply AL_t rfl|apply AL_0 rfl|apply AD_t rfl|apply AD_0 rfl);(focus (first|(exact op_eqA (us:=encRg p.rg) (vs:=encRg q.rg) ⟨rfl,rfl,rfl⟩ rfl rfl rfl (by first|exact .inl ⟨rfl,rfl⟩|exact .inr ⟨rfl,rfl⟩) rgG rfl hEo)|((apply u_k 5;(focus rfl);first|exact u_load_bpT ⟨rfl,rfl,rfl⟩ rfl inferInstance inferInstance rfl rfl rfl rfl|exact u_load_rpT ⟨rfl,rfl,rfl⟩ rfl inferInstance inferInstance rfl rfl rfl rfl))|(apply u_g;(focus rfl);apply op_gyes rfl rfl rfl rfl rfl;first|(exact op_eqA (us:=encRg p.rg) (vs:=encRg q.rg) ⟨rfl,rfl,rfl⟩ rfl rfl rfl (by first|exact .inl ⟨rfl,rfl⟩|exact .inr ⟨rfl,rfl⟩) rgG rfl hEo)|((apply u_k 5;(focus rfl);first|exact u_load_bpT ⟨rfl,rfl,rfl⟩ rfl inferInstance inferInstance rfl rfl rfl rfl|exact u_load_rpT ⟨rfl,rfl,rfl⟩ rfl inferInstance inferInstance rfl rfl rfl rfl)))));refine w0 ?_)));all_goals clear kc1)
     (refine ⟨(by first|exact .inl rfl|exact .inr rfl),resM1 [] rfl rfl .nil ?_⟩)
     exact rvm_bool rfl (by first|rfl|(simp;done))
 · rw [decide_eq_false (fun h=>e1 (hE.1 h).1)]
   have he:rgE p.rg q.rg = false:=by rw [← Bool.not_eq_true,rgE_iff];exact e1
   rw [he] at hEo
   clear hE e1 he
   refine fmi Tryz.func119 Tryz.ntmps119 ?_
   (have kc1:=h1;refine w0 ?_;(repeat' (first|refine W2.mk ?_ ?_|refine W1.mk fun hc=>?_|((first|apply AL_t rfl|apply AL_0 rfl|apply AD_t rfl|apply AD_0 rfl);(focus (first|(exact op_eqA (us:=encRg p.rg) (vs:=encRg q.rg) ⟨rfl,rfl,rfl⟩ rfl rfl rfl (by first|exact .inl ⟨rfl,rfl⟩|exact .inr ⟨rfl,rfl⟩) rgG rfl hEo)|((apply u_k 5;(focus rfl);first|exact u_load_bpT ⟨rfl,rfl,rfl⟩ rfl inferInstance inferInstance rfl rfl rfl rfl|exact u_load_rpT ⟨rfl,rfl,rfl⟩ rfl inferInstance inferInstance rfl rfl rfl rfl))|(apply u_g;(focus rfl);apply op_gyes rfl rfl rfl rfl rfl;first|(exact op_eqA (us:=encRg p.rg) (vs:=encRg q.rg) ⟨rfl,rfl,rfl⟩ rfl rfl rfl (by first|exact .inl ⟨rfl,rfl⟩|exact .inr ⟨rfl,rfl⟩) rgG rfl hEo)|((apply u_k 5;(focus rfl);first|exact u_load_bpT ⟨rfl,rfl,rfl⟩ rfl inferInstance inferInstance rfl rfl rfl rfl|exact u_load_rpT ⟨rfl,rfl,rfl⟩ rfl inferInstance inferInstance rfl rfl rfl rfl)))));refine w0 ?_)));all_goals clear kc1)
   (refine ⟨(by first|exact .inl rfl|exact .inr rfl),resM1 [] rfl rfl .nil ?_⟩)
   exact rvm_bool rfl (by first|rfl|(simp;done))
abbrev ks1C:Cnt:=.per (rawP (.func (.func 119) #[] #[]))
theorem sl_EqualPc (l m:List Pc) (hl:pcsSz l) (hm:pcsSz m) (ol:∀ p ∈ l,knsOk p.set) (om:∀ p ∈ m,knsOk p.set):Fn Tryz.prog 117 [pcsB l,pcsB m,ks1C] (boR (decide (l = m))):=by
 have hl0:=hl.1
 refine fi Tryz.func117 Tryz.ntmps117 ?_
 (refine w0 ?_;(repeat' first|refine W2.mk ?_ ?_|refine W1.mk fun hc=>?_))
 · refine rt1 ?_
   exact rv_bool rfl (by symm;rw [decide_eq_false_iff_not];intro h;subst h;omega)
 have hlm:l.length = m.length:=by omega
 refine AW_loopP (fun k=>k ≤ l.length ∧ l.take k = m.take k) (fun k=>mkSt [(1,pcsB m),(2,ks1C),(15,pcsB l),(16,iC .i64 (l.length:Nat)),(17,iC .i64 (k:Nat))] []) (fun k=>l.length - k) 0 ⟨Nat.zero_le _,rfl⟩ ?_ ?_
 · exact le_auto
 · rintro k ⟨hk,hpre⟩
   by_cases hlt:k < l.length
   · have hltm:k < m.length:=by omega
     have c1:=kn_Same1 l[k] m[k] (ol _ (List.getElem_mem hlt)) (om _ (List.getElem_mem hltm)) (hl.at hlt) (hm.at hltm)
     clear ol om hl hm
     by_cases he:l[k] = m[k]
     · rw [decide_eq_true he] at c1
       (refine w0 ?_;(repeat' (first|refine W2.mk ?_ ?_|refine W1.mk fun hc=>?_|((first|apply AL_t rfl|apply AL_0 rfl|apply AD_t rfl|apply AD_0 rfl);(focus (first|(exact c_Vx [] c1)|(apply u_g;(focus rfl);apply op_gyes rfl rfl rfl rfl rfl;first|(exact c_Vx [] c1))));refine w0 ?_))))
       refine ⟨k + 1,⟨by omega,?_⟩,by omega,?_⟩
       · rw [take_snoc' l k hlt,take_snoc' m k hltm,hpre,he]
       · exact le_auto
     · rw [decide_eq_false he] at c1
       have hd:¬ l = m:=fun h=>he (by subst h;rfl)
       rw [decide_eq_false hd]
       clear hd he
       (refine w0 ?_;(repeat' (first|refine W2.mk ?_ ?_|refine W1.mk fun hc=>?_|((first|apply AL_t rfl|apply AL_0 rfl|apply AD_t rfl|apply AD_0 rfl);(focus (first|(exact c_Vx [] c1)|(apply u_g;(focus rfl);apply op_gyes rfl rfl rfl rfl rfl;first|(exact c_Vx [] c1))));refine w0 ?_))))
       refine rt1 ?_
       exact rv_bool rfl rfl
   · rw [List.take_of_length_le (by omega),List.take_of_length_le (by omega)] at hpre
     rw [decide_eq_true hpre]
     clear hpre ol om hl hm
     (refine w0 ?_;(repeat' first|refine W2.mk ?_ ?_|refine W1.mk fun hc=>?_))
     refine rt1 ?_
     exact rv_bool rfl rfl
theorem pcsOk_sets {k:List Pc} (h:pcsOk k):∀ p ∈ k,knsOk p.set:=fun p hp=>by
 obtain ⟨i,hi,rfl⟩:=List.getElem_of_mem hp
 exact (h i hi hi).2.2.1
/-- two right ones held against each other -/
theorem kn_SameR (a b:List Pc) (ha:pcsSz a) (hb:pcsSz b) (oa:pcsOk a) (ob:pcsOk b):Fn Tryz.prog 75 [pcsC a,pcsC b] (boR (decide (a = b))):=by
 have h1:=kn_Of_ok a oa ha
 have h2:=kn_Of_ok b ob hb
 have h3:=sl_EqualPc a b ha hb (pcsOk_sets oa) (pcsOk_sets ob)
 clear ha hb oa ob
 refine fi Tryz.func75 Tryz.ntmps75 ?_
 (have ko1:=h1;have ko2:=h2;have kc1:=h3;refine w0 ?_;(repeat' first|refine W2.mk ?_ ?_|refine W1.mk fun hc=>?_);all_goals clear kc1 ko2 ko1)
 refine rt1 ?_
 exact rv_bool rfl rfl
end
end Go.Proofs.YtfcpkegmdlchhaaGreat
