/- Texts joined: Lib Slice. -/
import Derived.WalkKit
import Derived.WalkLawsBesides
import Derived.WalkSpells
import Derived.Lib.Hide
import Derived.Laws.AppendOwnNone
import Derived.Lib.AppendStr
namespace Go.Proofs.YtliiahjpiagdkaaGreat
open Go.RowKit
def bw (w w':World):Prop:=Below w.heap.size w w'
theorem bw.refl (w:World):bw w w:=Below.refl _ _
theorem bw.size {w w':World} (h:bw w w'):w.heap.size ≤ w'.heap.size:=Below.size h
theorem bw.trans {a b c:World} (h:bw a b) (k:bw b c):bw a c:=Below.trans h (Below.mono k h.size)
theorem bw.alloc {a w:World} (h:bw a w) (o:Obj):bw a (w.alloc o):=Below.alloc h h.size o
theorem bw.drew {a w:World} (h:bw a w):bw a w.drew:=Below.drew h
theorem bw.drewN {a w:World} (h:bw a w) (n:Nat):bw a (w.drewN n):=⟨h.os,h.tape,h.output,h.size,h.block⟩
theorem bw.setCell {a w:World} (h:bw a w) {p:Addr} (hp:a.heap.size ≤ p.block) (u:Value):bw a (w.setCell p u):=Below.setCell h hp u
theorem bw.grown {a w w':World} {row:Option Nat} (h:bw a w) (hg:w.grownBy w' row) (hr:∀ k,row = some k → a.heap.size ≤ k):bw a w':=Below.grown h hg h.size hr
theorem bw.below {a w:World} (h:bw a w):Below a.heap.size a w:=h
theorem bw.cell {w w':World} (h:bw w w') {p:Addr} {v:Value} (hc:w.cell? p = some v):w'.cell? p = some v:=by
 have hp:=World.block_lt_of_cell? w p hc
 rw [Below.cell h hp];exact hc
theorem bw.cells {w w':World} (h:bw w w'):∀ b o,b < w.heap.size → w'.cell? ⟨b,o,none⟩ = w.cell? ⟨b,o,none⟩:=fun b o hb=>Below.cell h (p:=⟨b,o,none⟩) hb
theorem bw.frozens {w w':World} (h:bw w w'):∀ b o,b < w.heap.size → w'.frozen? ⟨b,o,none⟩ = w.frozen? ⟨b,o,none⟩:=fun b o hb=>Below.frozen h (p:=⟨b,o,none⟩) hb
def Sl {α:Type} (k:Nat) (enc:α → List Value) (w:World) (v:Value) (l:List α):Prop:=
 ∃ a c b o,v = .slice a l.length c ∧ l.length ≤ c ∧ c ≤ maxLen ∧ (0 < l.length → a = some ⟨b,o,none⟩) ∧ (a = none → c = 0) ∧
  ∀ (i:Nat) (x:α),l[i]? = some x → ∀ (j:Nat) (y:Value),(enc x)[j]? = some y → w.cell? ⟨b,o + i * k + j,none⟩ = some y
theorem Sl.ext {α:Type} {k:Nat} {enc:α → List Value} {w w':World} {v:Value} {l:List α} (h:Sl k enc w v l) (he:bw w w'):Sl k enc w' v l:=by
 obtain ⟨a,c,b,o,hv,h1,h2,h3,h0,h4⟩:=h
 exact ⟨a,c,b,o,hv,h1,h2,h3,h0,fun i x hx j y hy=>he.cell (h4 i x hx j y hy)⟩
def encB (c:UInt8):List Value:=[.int .u8 (c.toNat:Int)]
abbrev Bs (w:World) (v:Value) (l:List UInt8):Prop:=Sl 1 encB w v l
theorem Bs.open {w:World} {v:Value} {l:List UInt8} (h:Bs w v l) :
 ∃ a c b o,v = .slice a l.length c ∧ l.length ≤ c ∧ c ≤ maxLen ∧ (0 < l.length → a = some ⟨b,o,none⟩) ∧
  ∀ (i:Nat) (h:i < l.length),w.cell? ⟨b,o + i,none⟩ = some (.int .u8 ((l[i]).toNat:Int)):=by
 obtain ⟨a,c,b,o,hv,h1,h2,h3,h0,h4⟩:=h
 refine ⟨a,c,b,o,hv,h1,h2,h3,fun i hi=>?_⟩
 have:=h4 i l[i] (by simp [hi]) 0 _ rfl
 simpa using this
def OX (v:Value):List Value:=[v]
theorem Sl.open1 {w:World} {v:Value} {l:List Value} (h:Sl 1 OX w v l) :
 ∃ a c b o,v = .slice a l.length c ∧ l.length ≤ c ∧ c ≤ maxLen ∧ (0 < l.length → a = some ⟨b,o,none⟩) ∧
  ∀ (i:Nat) (h:i < l.length),w.cell? ⟨b,o + i,none⟩ = some l[i]:=by
 obtain ⟨a,c,b,o,hv,h1,h2,h3,h0,h4⟩:=h
 refine ⟨a,c,b,o,hv,h1,h2,h3,fun i hi=>?_⟩
 have:=h4 i l[i] (by simp [hi]) 0 _ rfl
 simpa using this
def PI (w:World) (v:Value) (ls:List (List UInt8)):Prop:=
 ∃ vs:List Value,vs.length = ls.length ∧ Sl 1 OX w v vs ∧ ∀ (i:Nat) (h:i < vs.length) (h':i < ls.length),Bs w vs[i] ls[i]
theorem PI.ext {w w':World} {v:Value} {ls:List (List UInt8)} (h:PI w v ls) (he:bw w w'):PI w' v ls:=by
 obtain ⟨vs,h1,h2,h3⟩:=h
 exact ⟨vs,h1,h2.ext he,fun i hi hi'=>(h3 i hi hi').ext he⟩
theorem eJ {a b:Value} (h:a = b):Ending.returned a = .returned b:=by rw [h]
theorem my {a b:Bool} (h:a = b):Value.bool a = .bool b:=by rw [h]
theorem iB {k:IntKind} {a b:Int} (h:a = b):Value.int k a = .int k b:=by rw [h]
theorem gF {α:Type} (l:List α) (k:Nat) (h:k < l.length):l.take (k + 1) = l.take k ++ [l[k]]:=by
 rw [List.take_succ_eq_append_getElem h]
theorem pj {n c:Nat} (h:n ≤ c) (h':c ≤ maxLen):n ≤ 9223372036854775807:=by unfold maxLen at h';omega
theorem aF (w:World) (o:Obj) (n:Nat) (hn:n = w.heap.size):(w.alloc o).heap[n]? = some o:=by
 subst hn;exact heap_alloc_new w o
theorem ag (w:World) (o:Obj) (n:Nat) (hn:n < w.heap.size):(w.alloc o).heap[n]? = w.heap[n]?:=heap_alloc_old _ _ hn
theorem dH (w:World) (n:Nat):(w.drew).heap[n]? = w.heap[n]?:=rfl
theorem g9 {α:Type} (k:Nat) (enc:α → List Value) (hk:∀ x,(enc x).length = k) :
 ∀ (l:List α) (i:Nat) (x:α),l[i]? = some x → ∀ (j:Nat) (y:Value),(enc x)[j]? = some y → (l.flatMap enc)[i * k + j]? = some y:=by
 intro l
 induction l with
 | nil=>intro i x hx;simp at hx
 | cons a l ih=>
  intro i x hx j y hy
  cases i with
  | zero=>
   simp at hx;subst hx
   have hj:j < (enc a).length:=by
    by_cases h:j < (enc a).length
    ·exact h
    ·rw [List.getElem?_eq_none (by omega)] at hy;cases hy
   simp only [List.flatMap_cons,Nat.zero_mul,Nat.zero_add]
   rw [List.getElem?_append_left hj];exact hy
  | succ i=>
   simp at hx
   simp only [List.flatMap_cons]
   rw [List.getElem?_append_right (by rw [hk];rw [Nat.succ_mul];omega),hk]
   rw [show (i + 1) * k + j - k = i * k + j by rw [Nat.succ_mul];omega]
   exact ih i x hx j y hy
theorem hY {α:Type} (k:Nat) (enc:α → List Value) (hk:∀ x,(enc x).length = k) (l:List α):(l.flatMap enc).length = l.length * k:=by
 induction l with
 | nil=>simp
 | cons a l ih=>simp only [List.flatMap_cons,List.length_append,hk,ih,List.length_cons,Nat.succ_mul];omega
theorem tH {α:Type} (k:Nat) (enc:α → List Value) (hk:∀ x,(enc x).length = k) (hp:0 < k) (l:List α) (j:Nat) (y:Value) (h:(l.flatMap enc)[j]? = some y) :
 ∃ x,l[j / k]? = some x ∧ (enc x)[j % k]? = some y:=by
 have hj:j < (l.flatMap enc).length:=by
  by_cases hh:j < (l.flatMap enc).length
  ·exact hh
  ·rw [List.getElem?_eq_none (by omega)] at h;cases h
 rw [hY k enc hk] at hj
 have hq:j / k < l.length:=(Nat.div_lt_iff_lt_mul hp).2 hj
 refine ⟨l[j / k],by simp [hq],?_⟩
 have hr:j % k < (enc l[j / k]).length:=by rw [hk];exact Nat.mod_lt _ hp
 have h5:=g9 k enc hk l (j / k) l[j / k] (by simp [hq]) (j % k) _ (List.getElem?_eq_getElem hr)
 have hjk:j / k * k + j % k = j:=by rw [Nat.mul_comm];exact Nat.div_add_mod j k
 rw [hjk,h] at h5
 rw [List.getElem?_eq_getElem hr,← Option.some.inj h5]
structure Dv {α:Type} (k:Nat) (enc:α → List Value):Prop where
 pos:0 < k
 len:∀ x,(enc x).length = k
 one:∀ x,∀ u ∈ enc x,u.oneCell' = true
theorem ca:Dv 1 encB:=⟨by decide,fun _=>rfl,fun x u hu=>by simp [encB] at hu;subst hu;rfl⟩
def encI (n:Int):List Value:=[.int .i64 n]
theorem qM:Dv 1 encI:=⟨by decide,fun _=>rfl,fun x u hu=>by simp [encI] at hu;subst hu;rfl⟩
def js {α:Type} (e k:Nat) (enc:α → List Value) (wB w:World) (v:Value) (l:List α):Prop:=
 bw wB w ∧ w.ownsRow wB.heap.size e k v l.length (l.flatMap enc)
section
variable {α:Type} {e k:Nat} {enc:α → List Value} {wB w:World} {v:Value} {l:List α}
theorem js.ext (h:js e k enc wB w v l):bw wB w:=h.1
theorem js.mono {w0:World} (h:js e k enc wB w v l) (h0:bw w0 wB):js e k enc w0 w v l:=by
 refine ⟨h0.trans h.1,h.2.1,?_⟩
 rcases h.2.2 with h2|⟨g,cap,cur,hv,hg,r⟩
 ·exact .inl h2
 ·exact .inr ⟨g,cap,cur,hv,Nat.le_trans h0.size hg,r⟩
theorem js.nil (h:bw wB w):js e k enc wB w (.slice none 0 0) ([]:List α):=⟨h,World.ownsRow_nil _ _ _ _⟩
theorem js.alloc (h:js e k enc wB w v l) (o:Obj):js e k enc wB (w.alloc o) v l:=⟨h.1.alloc o,h.2.alloc o⟩
theorem js.drew (h:js e k enc wB w v l):js e k enc wB w.drew v l:=⟨h.1.drew,h.2⟩
theorem js.extend {w':World} (h:js e k enc wB w v l) (he:bw w w'):js e k enc wB w' v l:=by
 refine ⟨h.1.trans he,h.2.1,?_⟩
 rcases h.2.2 with h2|⟨g,cap,cur,hv,hg,hh,r⟩
 ·exact .inl h2
 ·refine .inr ⟨g,cap,cur,hv,hg,?_,r⟩
  rw [Below.block he g (Array.getElem?_eq_some_iff.1 hh).1];exact hh
theorem js.sl (h:js e k enc wB w v l) (hE:Dv k enc):Sl k enc w v l:=by
 obtain ⟨_,hl,h2⟩:=h
 rcases h2 with ⟨rfl,hn⟩|⟨g,cap,cur,rfl,hg,hh,h3,h4,h5,h6⟩
 ·refine ⟨none,0,0,0,by rw [hn],by omega,by unfold maxLen;omega,by omega,fun _=>rfl,?_⟩
  intro i x hx
  have:l = []:=List.eq_nil_of_length_eq_zero hn
  subst this;simp at hx
 ·refine ⟨_,cap,g,0,rfl,h3,h4,fun _=>rfl,(fun h=>by cases h),?_⟩
  intro i x hx j y hy
  have hf:=g9 k enc hE.len l i x hx j y hy
  rw [← h6,List.getElem?_take] at hf
  split at hf
  ·rw [cell_of_row w g _ cur e (0,0) hh];simpa using hf
  ·cases hf
end
theorem Sl.lit {α:Type} {k e:Nat} {enc:α → List Value} {w:World} {b:Nat} {C:Array Value} {fz:Nat × Nat} {l:List α} {n c:Nat} (hE:∀ x,(enc x).length = k)
 (h:w.heap[b]? = some (.cells C e fz)) (hl:l.flatMap enc = C.toList) (hn:n = l.length) (hc:n ≤ c) (hm:c ≤ maxLen):Sl k enc w (.slice (some ⟨b,0,none⟩) n c) l:=by
 subst hn
 refine ⟨_,c,b,0,rfl,hc,hm,fun _=>rfl,(fun h=>by cases h),?_⟩
 intro i x hx j y hy
 have hf:=g9 k enc hE l i x hx j y hy
 rw [hl] at hf
 rw [cell_of_row w b _ C e fz h];simpa using hf
structure TI (P:Program) (t e k bytes:Nat):Prop where
 und:P.underlying t = some (.slice e)
 info:∃ i z,P.info? e = some i ∧ i.zero = some z ∧ i.size = k ∧ i.bytes = bytes ∧ z.cells.size = k
theorem TI.mk' {P:Program} {t e k bytes:Nat} (h:P.underlying t = some (.slice e))
 (hi:(P.info? e).map (fun i=>(i.zero.map (fun z=>z.cells.size),i.size,i.bytes)) = some (some k,k,bytes)):TI P t e k bytes:=by
 refine ⟨h,?_⟩
 cases hp:P.info? e with
 | none=>rw [hp] at hi;simp at hi
 | some i=>
  rw [hp] at hi;simp at hi
  obtain ⟨⟨z,hz,hz2⟩,h2,h3⟩:=hi
  exact ⟨i,z,rfl,hz,h2,h3,hz2⟩
def rA {α:Type} (base e k:Nat) (enc:α → List Value) (w:World) (v:Value) (l:List α):Prop:=w.ownsRow base e k v l.length (l.flatMap enc)
theorem rA.lt {α:Type} {base e k:Nat} {enc:α → List Value} {w:World} {v:Value} {l:List α} (h:rA base e k enc w v l):∀ q,v.ownBlock = some q → base ≤ q ∧ q < w.heap.size:=World.ownsRow.lt h
theorem rA.nil {α:Type} {base e k:Nat} {enc:α → List Value} {w:World}:rA base e k enc w (.slice none 0 0) ([]:List α):=World.ownsRow_nil _ _ _ _
theorem rA.alloc {α:Type} {base e k:Nat} {enc:α → List Value} {w:World} {v:Value} {l:List α} (h:rA base e k enc w v l) (o:Obj):rA base e k enc (w.alloc o) v l:=World.ownsRow.alloc h o
theorem rA.own {α:Type} {e k:Nat} {enc:α → List Value} {wB w:World} {v:Value} {l:List α} (h:rA wB.heap.size e k enc w v l) (hx:bw wB w):js e k enc wB w v l:=⟨hx,h⟩
theorem rA.sl {α:Type} {base e k:Nat} {enc:α → List Value} {w:World} {v:Value} {l:List α} (h:rA base e k enc w v l) (hE:Dv k enc):Sl k enc w v l:=by
 obtain ⟨hl,h2⟩:=h
 rcases h2 with ⟨rfl,hn⟩|⟨g,cap,cur,rfl,hg,hh,h3,h4,h5,h6⟩
 ·refine ⟨none,0,0,0,by rw [hn],by omega,by unfold maxLen;omega,by omega,fun _=>rfl,?_⟩
  intro i x hx
  have:l = []:=List.eq_nil_of_length_eq_zero hn
  subst this;simp at hx
 ·refine ⟨_,cap,g,0,rfl,h3,h4,fun _=>rfl,(fun h=>by cases h),?_⟩
  intro i x hx j y hy
  have hf:=g9 k enc hE.len l i x hx j y hy
  rw [← h6,List.getElem?_take] at hf
  split at hf
  ·rw [cell_of_row w g _ cur e (0,0) hh];simpa using hf
  ·cases hf
theorem vg {P:Program} {w:World} {ops:Array Oper} {rest:List Oper} {o:Oper} {a:Act} {Q:Exit → Act → World → Prop}
 (hw:Region.wanted o (yielded ops a.tmps) = true) (s x:Operand) (t:TypeId)
 (ho:o.op = .call { callee:=.builtin .append,args:=#[s,x],argTypes:=#[t,t] })
 {α:Type} {e k bytes:Nat} {enc:α → List Value} (hT:TI P t e k bytes) (hE:Dv k enc) (wB:World) (l m:List α) (v xv:Value)
 (hs:a.eval s = v) (hx:a.eval x = xv) (hown:js e k enc wB w v l) (hsl:Sl k enc w xv m)
 (hlen:l.length + m.length ≤ maxLen) (hb:(l.length + m.length) * bytes ≤ 140737488355328)
 (h:∀ v' w' r,Hid (r = l ++ m) → js e k enc wB w' v' r → w.grownBy w' v.ownBlock → (v' = .slice none 0 0 ↔ v = .slice none 0 0 ∧ m.length = 0) → wpList P ops Q rest (a.put o.dst v') w') :
 wpList P ops Q (o :: rest) a w:=by
 obtain ⟨i,z,hi,hz,h1,h2,h3⟩:=hT.info
 obtain ⟨ad,c,b,off,rfl,g1,g2,g3,g0,g4⟩:=hsl
 have hgrown:∀ (v':Value) (w':World),w.grownBy w' v.ownBlock → bw wB w':=fun v' w' hg=>hown.1.grown hg (fun kk hk=>(hown.2.lt kk hk).1)
 cases ad with
 | none=>
  have hm:m = []:=by
   cases m with
   | nil=>rfl
   | cons x m=>have:=g3 (by simp);cases this
  subst hm
  obtain rfl:=g0 rfl
  have hrun:=run_append_owned_none (P:=P) (w:=w) wB.heap.size t o.type e i k hT.und hi v l.length (l.flatMap enc) hown.2
  have hx':a.eval x = .slice none 0 0:=hx
  unfold wpList
  rw [if_pos hw]
  refine .inl ?_
  unfold Oper.wp
  simp only [execOp,ho,resolve,invoke,builtin,Sem.run_bind,Sem.run_pure,Result.andThen_ok,List.map_toArray,List.map_cons,List.map_nil,hs,hx',hrun]
  exact h v w l (Lib.hid (List.append_nil l).symm) hown ⟨rfl,rfl,rfl,Nat.le_refl _,fun _ _ _=>rfl⟩ (by simp)
 | some ad=>
  unfold wpList
  rw [if_pos hw]
  refine .inl ?_
  refine wp_append_own w s x t ho wB.heap.size e i z k bytes hT.und hi hz h1 h2 h3 hE.pos v l.length (l.flatMap enc) hs hown.2 ad m.length c (m.flatMap enc) hx
   (hY k enc hE.len m) ?_ ?_ hlen hb hown.1.size ?_
  ·intro j u hu
   have hj:j < (m.flatMap enc).length:=by
    by_cases h:j < (m.flatMap enc).length
    ·exact h
    ·rw [List.getElem?_eq_none (by omega)] at hu;cases hu
   rw [hY k enc hE.len] at hj
   have hk:=hE.pos
   have hm:0 < m.length:=by
    rcases Nat.eq_zero_or_pos m.length with h|h
    ·rw [h] at hj;simp at hj
    ·exact h
   have hq:j / k < m.length:=(Nat.div_lt_iff_lt_mul hk).2 hj
   have had:=g3 hm
   simp at had;subst had
   have hr:j % k < (enc m[j / k]).length:=by rw [hE.len];exact Nat.mod_lt _ hk
   have h5:=g9 k enc hE.len m (j / k) m[j / k] (by simp [hq]) (j % k) _ (List.getElem?_eq_getElem hr)
   have hjk:j / k * k + j % k = j:=by rw [Nat.mul_comm];exact Nat.div_add_mod j k
   rw [hjk,hu] at h5
   have h6:=g4 (j / k) m[j / k] (by simp [hq]) (j % k) _ (List.getElem?_eq_getElem hr)
   rw [show off + j / k * k + j % k = off + j by omega] at h6
   rw [Addr.add_lit]
   rw [h6];simp only [Option.some.injEq] at h5;rw [h5]
  ·intro u hu
   rw [List.mem_flatMap] at hu
   obtain ⟨x,_,hx⟩:=hu
   exact hE.one x u hx
  ·intro v' w' h7 h8 h9
   refine h v' w' _ (Lib.hid rfl) ⟨hgrown v' w' h8,?_⟩ h8 h9
   rw [List.length_append,List.flatMap_append];exact h7
theorem dP {P:Program} {w:World} {ops:Array Oper} {rest:List Oper} {o:Oper} {a:Act} {Q:Exit → Act → World → Prop}
 (hgd:o.guard = none) (s x:Operand) (t:TypeId)
 (ho:o.op = .call { callee:=.builtin .append,args:=#[s,x],argTypes:=#[t,t] })
 {α:Type} {e k bytes:Nat} {enc:α → List Value} (hT:TI P t e k bytes) (hE:Dv k enc) (wB:World) (l m:List α) (v xv:Value)
 (hs:a.eval s = v) (hx:a.eval x = xv) (hown:js e k enc wB w v l) (hsl:Sl k enc w xv m)
 (hlen:l.length + m.length ≤ maxLen) (hb:(l.length + m.length) * bytes ≤ 140737488355328)
 (h:∀ v' w' r,Hid (r = l ++ m) → js e k enc wB w' v' r → w.grownBy w' v.ownBlock → (v' = .slice none 0 0 ↔ v = .slice none 0 0 ∧ m.length = 0) → wpList P ops Q rest (a.put o.dst v') w') :
 wpList P ops Q (o :: rest) a w:=
 vg (by simp [Region.wanted,hgd]) s x t ho hT hE wB l m v xv hs hx hown hsl hlen hb h
theorem Sl.new1 {α:Type} {k:Nat} {enc:α → List Value} (hE:∀ x,(enc x).length = k) (w:World) (C:Array Value) (e:TypeId) (x:α) (h:enc x = C.toList) :
 Sl k enc (w.alloc (.cells C e)) (.slice (some ⟨w.heap.size,0,none⟩) 1 1) [x]:=
 Sl.lit hE (heap_alloc_new w _) (by simp [h]) rfl (by decide) (by decide)
theorem Sl.nil {α:Type} {k:Nat} {enc:α → List Value} (w:World):Sl k enc w (.slice none 0 0) ([]:List α):=
 ⟨none,0,0,0,rfl,by simp,by decide,by simp,fun _=>rfl,fun i x hx=>by simp at hx⟩
theorem js.empty {α:Type} {e k:Nat} {enc:α → List Value} {wB w:World} (h:bw wB w):js e k enc wB (w.alloc (.cells #[] e)) (.slice (some ⟨w.heap.size,0,none⟩) 0 0) ([]:List α):=
 ⟨h.alloc _,by simp,.inr ⟨w.heap.size,0,#[],rfl,h.size,heap_alloc_new w _,by simp,by decide,by simp,by simp⟩⟩
def encS (s:ByteArray):List Value:=[.string s]
theorem n8:Dv 1 encS:=⟨by decide,fun _=>rfl,fun x u hu=>by simp [encS] at hu;subst hu;rfl⟩
theorem vh (s:ByteArray):Lib.strCells s = s.data.toList.flatMap encB:=by
 rw [Lib.strCells,List.flatMap_def]
 induction s.data.toList with
 | nil=>rfl
 | cons a l ih=>simp [encB] at ih ⊢;exact ih
theorem wY {P:Program} {w:World} {ops:Array Oper} {rest:List Oper} {o:Oper} {a:Act} {Q:Exit → Act → World → Prop}
 (hgd:o.guard = none) (sl x:Operand) (t u:TypeId)
 (ho:o.op = .call { callee:=.builtin .append,args:=#[sl,x],argTypes:=#[t,u] })
 {e:Nat} (hT:TI P t e 1 1) (hz:(P.info? e).bind (·.zero) = some (.int .u8 0)) (hu:P.underlying u = some .string) (wB:World) (l:List UInt8) (s:ByteArray) (v:Value)
 (hs:a.eval sl = v) (hx:a.eval x = .string s) (hown:js e 1 encB wB w v l)
 (hlen:l.length + s.size ≤ 140737488355328)
 (h:∀ v' w' r,Hid (r = l ++ s.data.toList) → js e 1 encB wB w' v' r → w.grownBy w' v.ownBlock → wpList P ops Q rest (a.put o.dst v') w') :
 wpList P ops Q (o :: rest) a w:=by
 obtain ⟨i,z,hi,hz',h1,h2,h3⟩:=hT.info
 rw [hi] at hz
 refine Lib.wpList_append_own_string w hgd sl x t u ho wB.heap.size e i hT.und hu hi hz h1 h2 v l.length (l.flatMap encB) hs hown.2 s hx (by unfold maxLen;omega) hlen hown.1.size ?_
 intro v' w' h7 h8 h9
 refine h v' w' _ (Lib.hid rfl) ⟨hown.1.grown h8 (fun kk hk=>(hown.2.lt kk hk).1),?_⟩ h8
 rw [List.length_append,List.flatMap_append,← vh]
 exact h7
def gG {α:Type} (e k:Nat) (enc:α → List Value) (wB:World) (l:List α) (en:Ending) (w':World):Prop:=∃ v',en = .returned v' ∧ js e k enc wB w' v' l
theorem Sl.openI {w:World} {v:Value} {l:List Int} (h:Sl 1 encI w v l) :
 ∃ a c b o,v = .slice a l.length c ∧ l.length ≤ c ∧ c ≤ maxLen ∧ (0 < l.length → a = some ⟨b,o,none⟩) ∧
  ∀ (i:Nat) (h:i < l.length),w.cell? ⟨b,o + i,none⟩ = some (.int .i64 l[i]):=by
 obtain ⟨a,c,b,o,hv,h1,h2,h3,h0,h4⟩:=h
 refine ⟨a,c,b,o,hv,h1,h2,h3,fun i hi=>?_⟩
 have:=h4 i l[i] (by simp [hi]) 0 _ rfl
 simpa using this
theorem Sl.openS {w:World} {v:Value} {l:List ByteArray} (h:Sl 1 encS w v l) :
 ∃ a c b o,v = .slice a l.length c ∧ l.length ≤ c ∧ c ≤ maxLen ∧ (0 < l.length → a = some ⟨b,o,none⟩) ∧
  ∀ (i:Nat) (h:i < l.length),w.cell? ⟨b,o + i,none⟩ = some (.string l[i]):=by
 obtain ⟨a,c,b,o,hv,h1,h2,h3,h0,h4⟩:=h
 refine ⟨a,c,b,o,hv,h1,h2,h3,fun i hi=>?_⟩
 have:=h4 i l[i] (by simp [hi]) 0 _ rfl
 simpa using this
def Ce {α:Type} (e k:Nat) (enc:α → List Value) (wB:World) (l:List α) (x:Value) (en:Ending) (w':World):Prop:=∃ v',en = .returned (.tuple #[v',x]) ∧ js e k enc wB w' v' l
theorem js.lit {α:Type} {e k:Nat} {enc:α → List Value} (hE:∀ x,(enc x).length = k) {wB w:World} (h:bw wB w) (C:Array Value) (l:List α) (hl:l.flatMap enc = C.toList) (n:Nat) (hn:n = l.length) (hm:n ≤ maxLen) :
 js e k enc wB (w.alloc (.cells C e)) (.slice (some ⟨w.heap.size,0,none⟩) n n) l:=by
 subst hn
 have hlen:=hY k enc hE l
 refine ⟨h.alloc _,hlen,.inr ⟨w.heap.size,l.length,C,rfl,h.size,heap_alloc_new w _,Nat.le_refl _,hm,?_,?_⟩⟩
 ·rw [← hlen,hl];simp
 ·rw [← hlen,hl];exact List.take_of_length_le (Nat.le_refl _)
theorem FJ (s:ByteArray) (k:Nat) (h:k < s.size):s.data.toList.take (k + 1) = s.data.toList.take k ++ [s[k]]:=by
 rw [List.take_succ_eq_append_getElem (by simpa using h)];rfl
theorem KA (s:ByteArray) (k:Nat) (h:s.size ≤ k):s.data.toList.take k = s.data.toList:=by
 rw [List.take_of_length_le];simpa using h
theorem vi (s:ByteArray):s.data.toList.length = s.size:=by simp
theorem fP (s:ByteArray):s.toList = s.data.toList:=ByteArray.toList_eq s
theorem t7 (s:ByteArray):s.toList.isEmpty = decide (s.size = 0):=by
 rw [fP,Bool.eq_iff_iff,List.isEmpty_iff_length_eq_zero];simp
section
variable {P:Program} {T e k:Nat} {α:Type} {enc:α → List Value} {w:World} {v:Value} {l:List α}
theorem Sl.cut0 (h:Sl k enc w v l) (lo hi:Nat) (h1:lo ≤ hi) (h2:hi ≤ l.length) :
 ∃ a c,v = .slice a l.length c ∧ hi ≤ c ∧ Sl k enc w (.slice (if c = lo then a else a.map (·.add (lo * k))) (hi - lo) (c - lo)) ((l.drop lo).take (hi - lo)):=by
 obtain ⟨a,c,b,o,rfl,g1,g2,g3,g0,g4⟩:=h
 refine ⟨a,c,rfl,by omega,?_⟩
 have hlen:((l.drop lo).take (hi - lo)).length = hi - lo:=by simp;omega
 by_cases hz:hi = lo
 ·subst hz
  refine ⟨_,c - hi,0,0,by rw [hlen],by omega,by omega,by rw [hlen];omega,?_,?_⟩
  ·intro hn
   by_cases hc:c = hi
   ·omega
   ·rw [if_neg hc] at hn
    cases a with
    | none=>have:=g0 rfl;omega
    | some a=>simp at hn
  ·intro i x hx
   rw [List.getElem?_eq_none (by rw [hlen];omega)] at hx;cases hx
 ·have ha:=g3 (by omega)
  have hc:¬ c = lo:=by omega
  refine ⟨_,c - lo,b,o + lo * k,by rw [hlen],by omega,by omega,fun _=>?_,?_,?_⟩
  ·rw [if_neg hc,ha];simp [Addr.add_lit]
  ·intro hn;rw [if_neg hc,ha] at hn;simp at hn
  ·intro i x hx j y hy
   rw [List.getElem?_take] at hx
   split at hx
   ·rw [List.getElem?_drop] at hx
    have:=g4 (lo + i) x hx j y hy
    rw [show o + lo * k + i * k + j = o + (lo + i) * k + j by rw [Nat.add_mul];omega]
    exact this
   ·cases hx
theorem Sl.cut (h:Sl k enc w v l) (lo hi:Nat) (h1:lo ≤ hi) (h2:hi ≤ l.length) :
 ∃ a c,v = .slice a l.length c ∧ hi ≤ c ∧ ∃ a',a' = (if c = lo then a else a.map (·.add (lo * k))) ∧ ∀ w0,Sl k enc w0 v l → Sl k enc w0 (.slice a' (hi - lo) (c - lo)) ((l.drop lo).take (hi - lo)):=by
 obtain ⟨a,c,rfl,h3,h4⟩:=h.cut0 lo hi h1 h2
 refine ⟨a,c,rfl,h3,_,rfl,fun w0 h0=>?_⟩
 obtain ⟨a',c',he,_,h5⟩:=h0.cut0 lo hi h1 h2
 simp only [Value.slice.injEq,true_and] at he
 obtain ⟨rfl,rfl⟩:=he
 exact h5
theorem Sl.from {bytes:Nat} (hT:TI P T e k bytes) (h:Sl k enc w v l) (lo:Nat) (h1:lo ≤ l.length) (kk:IntKind) :
 ∃ a' c',(∀ w',(Instr.slice T v (some (.int kk (lo:Int))) none none).run P w' = .ok (.slice a' (l.length - lo) c') w') ∧ Sl k enc w (.slice a' (l.length - lo) c') (l.drop lo) ∧ ∀ w0,Sl k enc w0 v l → Sl k enc w0 (.slice a' (l.length - lo) c') (l.drop lo):=by
 have h00:=h
 obtain ⟨a,c,rfl,h3,a',ha',hs⟩:=h.cut lo l.length h1 (Nat.le_refl _)
 rw [List.take_of_length_le (by simp)] at hs
 refine ⟨a',c - lo,fun w'=>?_,hs _ h00,hs⟩
 ·obtain ⟨ti,z,hti,hz,hk0,_,_⟩:=hT.info
  have hk:P.cellsOf e = k:=by unfold Program.cellsOf;rw [hti];simpa using hk0
  have ht:=hT.und
  have hel:P.elem T = e:=by unfold Program.elem;rw [ht]
  rw [run_slice_l (ht:=by rw [hel];exact ht) (h0:=by omega) (h1:=by omega),hel,run_sizeOf _ hti,hk]
  simp [sliced,Result.andThen,ha']
theorem Sl.to {bytes:Nat} (hT:TI P T e k bytes) (h:Sl k enc w v l) (hi:Nat) (h1:hi ≤ l.length) (kk:IntKind) :
 ∃ a' c',(∀ w',(Instr.slice T v none (some (.int kk (hi:Int))) none).run P w' = .ok (.slice a' hi c') w') ∧ Sl k enc w (.slice a' hi c') (l.take hi) ∧ ∀ w0,Sl k enc w0 v l → Sl k enc w0 (.slice a' hi c') (l.take hi):=by
 have h00:=h
 obtain ⟨a,c,rfl,h3,a',ha',hs⟩:=h.cut 0 hi (Nat.zero_le _) h1
 simp only [List.drop_zero,Nat.sub_zero] at hs
 refine ⟨a',c,fun w'=>?_,hs _ h00,hs⟩
 ·obtain ⟨ti,z,hti,hz,hk0,_,_⟩:=hT.info
  have hk:P.cellsOf e = k:=by unfold Program.cellsOf;rw [hti];simpa using hk0
  have ht:=hT.und
  have hel:P.elem T = e:=by unfold Program.elem;rw [ht]
  rw [run_slice_h (ht:=by rw [hel];exact ht) (h0:=by omega) (h2:=by omega),hel,run_sizeOf _ hti,hk]
  simp [sliced,Result.andThen,ha']
theorem Sl.mid {bytes:Nat} (hT:TI P T e k bytes) (h:Sl k enc w v l) (lo hi:Nat) (h0:lo ≤ hi) (h1:hi ≤ l.length) (kk kk':IntKind) :
 ∃ a' c',(∀ w',(Instr.slice T v (some (.int kk (lo:Int))) (some (.int kk' (hi:Int))) none).run P w' = .ok (.slice a' (hi - lo) c') w') ∧ Sl k enc w (.slice a' (hi - lo) c') ((l.drop lo).take (hi - lo)) ∧ ∀ w0,Sl k enc w0 v l → Sl k enc w0 (.slice a' (hi - lo) c') ((l.drop lo).take (hi - lo)):=by
 have h00:=h
 obtain ⟨a,c,rfl,h3,a',ha',hs⟩:=h.cut lo hi h0 h1
 refine ⟨a',c - lo,fun w'=>?_,hs _ h00,hs⟩
 obtain ⟨ti,z,hti,hz,hk0,_,_⟩:=hT.info
 have hk:P.cellsOf e = k:=by unfold Program.cellsOf;rw [hti];simpa using hk0
 have ht:=hT.und
 have hel:P.elem T = e:=by unfold Program.elem;rw [ht]
 rw [run_slice_lh (ht:=by rw [hel];exact ht) (h0:=by omega) (h1:=by omega) (h2:=by omega),hel,run_sizeOf _ hti,hk]
 simp [sliced,Result.andThen,ha']
def fh (w:World) (B:Nat) (T:TypeId) (vs:Array Value):Prop:=w.heap[B]? = some (.cells vs T (0,0))
theorem fh.cell {B:Nat} {vs:Array Value} (h:fh w B T vs) (j:Nat):w.cell? ⟨B,j,none⟩ = vs[j]?:=cell_of_row w B j _ _ _ h
theorem fh.frozen {B:Nat} {vs:Array Value} (h:fh w B T vs) (j:Nat):w.frozen? ⟨B,j,none⟩ = false:=by
 unfold World.frozen?;rw [h];simp
theorem fh.lt {B:Nat} {vs:Array Value} (h:fh w B T vs):B < w.heap.size:=(Array.getElem?_eq_some_iff.1 h).1
theorem fh.ext {w':World} {B:Nat} {vs:Array Value} (h:fh w B T vs) (he:bw w w'):fh w' B T vs:=by
 unfold fh;rw [Below.block he B h.lt];exact h
theorem fh.grown {w':World} {B:Nat} {vs:Array Value} {row:Option Nat} (h:fh w B T vs) (hg:w.grownBy w' row) (hr:some B ≠ row):fh w' B T vs:=by
 unfold fh;rw [hg.block B h.lt hr];exact h
theorem fh.set {B:Nat} {vs:Array Value} (h:fh w B T vs) (j:Nat) (x:Value):fh (w.setCell ⟨B,j,none⟩ x) B T (vs.setIfInBounds j x):=by
 unfold fh World.setCell
 simp only [Array.getElem?_modify,if_true]
 rw [h];simp
theorem wZ {a b:World} {row:Option Nat} (h:bw a b):a.grownBy b row:=⟨h.os,h.tape,h.output,h.size,fun k hk _=>h.block k hk⟩
theorem Sl.grown {w':World} {B:Nat} (h:Sl k enc w v l) (hg:w.grownBy w' (some B)) (hB:∀ b o y,w.cell? ⟨b,o,none⟩ = some y → (∃ x,y ∈ enc x) → b ≠ B):Sl k enc w' v l:=by
 obtain ⟨a,c,b,o,hv,g1,g2,g3,g0,g4⟩:=h
 refine ⟨a,c,b,o,hv,g1,g2,g3,g0,fun i x hx j y hy=>?_⟩
 have hc:=g4 i x hx j y hy
 exact hg.cell hc (by simp;exact hB _ _ _ hc ⟨x,List.mem_of_getElem? hy⟩)
theorem fh.noB {B:Nat} {vs:Array Value} (h:fh w B T vs) (hv:∀ y ∈ vs,∀ n,y ≠ .int .u8 n):∀ b o y,w.cell? ⟨b,o,none⟩ = some y → (∃ x,y ∈ encB x) → b ≠ B:=by
 rintro b o y hc ⟨x,hx⟩ rfl
 rw [h.cell] at hc
 simp [encB] at hx
 exact hv y (Array.mem_of_getElem? hc) _ hx
end
theorem zX (l:List UInt8):∀ s:ByteArray,(l.map (fun c=>(c.toNat:Int))).foldl (fun r n=>r.push (UInt8.ofNat n.toNat)) s = ⟨s.data ++ l.toArray⟩:=by
 induction l with
 | nil=>intro s;simp
 | cons c l ih=>
  intro s
  simp only [List.map_cons,List.foldl_cons]
  rw [ih]
  have:UInt8.ofNat ((c.toNat:Int)).toNat = c:=by simp
  rw [this]
  show (⟨(s.push c).data ++ l.toArray⟩:ByteArray) = _
  have:(s.push c).data = s.data.push c:=rfl
  rw [this]
  congr 1
  apply Array.ext'
  simp
theorem Bs.toStr {P:Program} {src dst e:TypeId} (hs:P.underlying src = some (.slice e)) (he:P.underlying e = some (.int .u8)) (hd:P.underlying dst = some .string)
 {w:World} {v:Value} {l:List UInt8} (h:Bs w v l):(convert src dst v).run P w = .ok (.string ⟨l.toArray⟩) w:=by
 obtain ⟨a,c,b,o,rfl,h1,h2,h3,h0,h4⟩:=h
 rw [run_convert_bytes_string w src dst e a l.length c hs he hd]
 cases a with
 | none=>
  have:l = []:=by
   cases l with
   | nil=>rfl
   | cons x l=>have:=h3 (by simp);cases this
  subst this
  simp [Conv.bytesToString,Sem.run_pure];rfl
 | some ad=>
  have hf:=run_firstCells_some (P:=P) w 1 l.length ad l.length c (l.flatMap encB) (by rw [hY 1 encB ca.len]) (by
   intro j u hu
   obtain ⟨x,hx,hy⟩:=tH 1 encB ca.len (by decide) l j u hu
   rw [Nat.div_one] at hx
   rw [Nat.mod_one] at hy
   have hj:j < l.length:=by
    rcases Nat.lt_or_ge j l.length with h|h
    ·exact h
    ·rw [List.getElem?_eq_none h] at hx;cases hx
   have hsp:=h3 (by omega)
   simp at hsp;subst hsp
   rw [Addr.add_lit]
   have:=h4 j x hx 0 u hy
   simpa using this)
  have hl:l.flatMap encB = (l.map (fun c=>(c.toNat:Int))).map (Value.int .u8):=by
   clear hf h4 h3 h2 h1
   induction l with
   | nil=>rfl
   | cons x l ih=>simp [encB] at ih ⊢;exact ih
  rw [hl] at hf
  simp only [Builtin.firstCells,Nat.mul_one] at hf
  rw [run_bytesToString w ad l.length c _ hf,zX]
  congr 2
  simp
structure Kz (B C:Nat) (w w':World):Prop where
 os:w'.os = w.os
 tape:w'.tape = w.tape
 output:w'.output = w.output
 size:w.heap.size ≤ w'.heap.size
 block:∀ k,k < w.heap.size → k ≠ B → k ≠ C → w'.heap[k]? = w.heap[k]?
theorem Kz.refl (B C:Nat) (w:World):Kz B C w w:=⟨rfl,rfl,rfl,Nat.le_refl _,fun _ _ _ _=>rfl⟩
theorem Kz.grown {B C:Nat} {a b c:World} {row:Option Nat} (h:Kz B C a b) (h':b.grownBy c row) (hr:∀ k,row = some k → k = B ∨ k = C ∨ a.heap.size ≤ k):Kz B C a c:=
 ⟨h'.os.trans h.os,h'.tape.trans h.tape,h'.output.trans h.output,Nat.le_trans h.size h'.size,fun k hk h1 h2=>
  (h'.block k (Nat.lt_of_lt_of_le hk h.size) (fun e=>by rcases hr k e.symm with h|h|h;exact h1 h;exact h2 h;omega)).trans (h.block k hk h1 h2)⟩
theorem Kz.ext {B C:Nat} {a b c:World} (h:Kz B C a b) (h':bw b c):Kz B C a c:=h.grown (row:=none) (wZ h') (by simp)
theorem Kz.bs {B C:Nat} {a b:World} {v:Value} {l:List UInt8} {TB TC:TypeId} {xs ys:Array Value} (h:Kz B C a b) (hs:Bs a v l) (hB:fh a B TB xs) (hC:fh a C TC ys)
 (nB:∀ y ∈ xs,∀ n,y ≠ .int .u8 n) (nC:∀ y ∈ ys,∀ n,y ≠ .int .u8 n):Bs b v l:=by
 obtain ⟨aa,c,bb,o,hv,g1,g2,g3,g0,g4⟩:=hs
 refine ⟨aa,c,bb,o,hv,g1,g2,g3,g0,fun i x hx j y hy=>?_⟩
 have hc:=g4 i x hx j y hy
 have hlt:=World.block_lt_of_cell? a _ hc
 rw [World.cell?_of_block (w:=a) (h.block bb hlt (hB.noB nB _ _ _ hc ⟨x,List.mem_of_getElem? hy⟩) (hC.noB nC _ _ _ hc ⟨x,List.mem_of_getElem? hy⟩))]
 exact hc
end Go.Proofs.YtliiahjpiagdkaaGreat
