/- Texts joined: OpenP OpenRg OpenKn OpenSt OpenAs. -/
import Derived.Test.YtliiahjpiagdkaaGreatJ28
import Derived.Test.YtliiahjpiagdkaaGreatJ05
import Derived.Test.YtliiahjpiagdkaaGreatJ27
import Derived.Test.YtliiahjpiagdkaaGreatJ09
import Derived.Test.YtliiahjpiagdkaaGreatJ10
import Derived.Test.YtliiahjpiagdkaaGreatJ30
import Derived.Test.YtliiahjpiagdkaaGreatJ40
set_option maxRecDepth 10000
set_option maxHeartbeats 8000000
namespace Go.Proofs.YtliiahjpiagdkaaGreat
open Go.RowKit
abbrev QC (w:World):BP:=g0.N (cx w)
def Wr {β:Type} (w:World) (k:Nat) (f:β → List PV) (cs:List Value) (y:β):Prop:=
 cs.length = k ∧ (f y).length = k ∧ ∀ (j:Nat) (A:PV) (u:Value),(f y)[j]? = some A → cs[j]? = some u → u.oneCell' = true ∧ A.p (QC w) w u
def wX {β:Type} (P:Program) (w:World) (t:TypeId) (k:Nat) (f:β → List PV) (Q:β → Prop):Prop:=Rd P w t (fun cs=>∃ y:β,Q y ∧ Wr w k f cs y)
section
variable {P:Program} {w:World} {t e:TypeId} {β:Type} {k:Nat} {f:β → List PV} {Q:β → Prop}
theorem Wr.ones {cs:List Value} {y:β} (h:Wr w k f cs y):∀ u ∈ cs,u.oneCell' = true:=fun u hu=>by
 obtain ⟨j,hj,rfl⟩:=List.getElem_of_mem hu
 have hj':j < (f y).length:=by have:=h.1;have:=h.2.1;omega
 exact (h.2.2 j _ _ (List.getElem?_eq_getElem hj') (List.getElem?_eq_getElem hj)).1
theorem wX.slice (h:wX P w e k f Q) (ht:P.underlying t = some (.slice e)) (hk:P.cellsOf e = k) (hk0:0 < k) :
 Rd P w t (fun cs=>∃ (v:Value) (l:List β),cs = [v] ∧ (cD k (l.map f)).p (QC w) w v ∧ ∀ y ∈ l,Q y):=by
 refine (Rd.slice (α:={ cs:List Value // cs.length = k ∧ ∀ u ∈ cs,u.oneCell' = true }) (enc:=fun x=>x.1) (G:=fun x=>∃ y:β,Q y ∧ Wr w k f x.1 y) ht hk hk0 h fun cs ⟨y,h1,h2⟩=>⟨⟨cs,h2.1,h2.ones⟩,rfl,y,h1,h2⟩).mono ?_
 rintro cs ⟨v,lv,rfl,⟨a,c,b,o,rfl,h1,h2,h3,h0,h4⟩,hG⟩
 obtain ⟨l,hl,hg⟩:=o6 (G:=fun i y=>∀ (h:i < lv.length),Q y ∧ Wr w k f lv[i].1 y) lv.length (fun i hi=>by
  obtain ⟨y,q1,q2⟩:=hG lv[i] (List.getElem_mem hi)
  exact ⟨y,fun _=>⟨q1,q2⟩⟩)
 refine ⟨_,l,rfl,⟨a,c,b,o,by rw [List.length_map,hl],by rw [List.length_map,hl];exact h1,h2,h0,fun hn=>?_,fun i cs hi=>?_⟩,fun y hy=>?_⟩
 ·rw [List.length_map,hl] at hn
  refine ⟨h3 hn,?_,fun hb=>hb.elim id (fun h=>h rfl)⟩
  have hp:=lv[0].2.1
  have:=h4 0 lv[0] (by simp [hn]) 0 (lv[0].1[0]'(by omega)) (by simp)
  rcases Nat.lt_or_ge b w.heap.size with hb|hb
  ·exact hb
  ·simp [World.cell?,Array.getElem?_eq_none hb] at this
 ·rw [List.getElem?_map] at hi
  cases hx:l[i]? with
  | none=>rw [hx] at hi;cases hi
  | some y=>
   rw [hx] at hi;cases hi
   have hil:i < lv.length:=by
    have:=(List.getElem?_eq_some_iff.1 hx).1;omega
   obtain ⟨_,q1,q2,q3⟩:=hg i y hx hil
   refine ⟨q2,fun j A hj=>?_⟩
   have hjk:j < lv[i].1.length:=by
    have:=(List.getElem?_eq_some_iff.1 hj).1;omega
   obtain ⟨r1,r2⟩:=q3 j A _ hj (List.getElem?_eq_getElem hjk)
   exact ⟨_,h4 i lv[i] (List.getElem?_eq_getElem hil) j _ (List.getElem?_eq_getElem hjk),r1,r2⟩
 ·obtain ⟨i,hi,rfl⟩:=List.getElem_of_mem hy
  exact (hg i _ (List.getElem?_eq_getElem hi) (by omega)).1
theorem wX.arg {v:Value} (h:wX P w e k f Q) (hA:pi P w t v) (ht:P.underlying t = some (.slice e)) (hk:P.cellsOf e = k) (hk0:0 < k) :
 ∃ l:List β,In w v (.per (cD k (l.map f))) ∧ ∀ y ∈ l,Q y:=
 hA.slice (Q:=fun v=>∃ l:List β,In w v (.per (cD k (l.map f))) ∧ ∀ y ∈ l,Q y) ht ((h.slice ht hk hk0).mono fun _ ⟨v,l,h1,h2,h3⟩=>⟨v,h1,l,h2,h3⟩)
theorem wX.flat {enc:β → List Value} (hE:Dv k enc) (h:Rd P w e (fun cs=>∃ y,cs = enc y ∧ Q y)):wX P w e k (eC enc) Q:=
 h.mono fun cs ⟨y,h1,h2⟩=>⟨y,h2,by rw [h1,hE.len],by unfold eC;rw [List.length_map,hE.len],fun j A u hj hu=>by
  unfold eC at hj
  rw [List.getElem?_map] at hj
  rw [h1] at hu
  rw [hu] at hj;cases hj
  exact ⟨hE.one y u (List.mem_of_getElem? hu),rfl⟩⟩
end
theorem PA {α:Type} (l:List α) (h:l.length = 3):∃ a b c,l = [a,b,c]:=by
 match l,h with|[a,b,c],_=>exact ⟨a,b,c,rfl⟩
theorem Ng {α:Type} (l:List α) (h:l.length = 4):∃ a b c d,l = [a,b,c,d]:=by
 match l,h with|[a,b,c,d],_=>exact ⟨a,b,c,d,rfl⟩
def FE (x:Rg):Prop:=x.lo.size ≤ maxLen ∧ x.hi.size ≤ maxLen
theorem MT (w:World):Rd Tryz.prog w 50 (fun cs=>∃ x,cs = encRg x ∧ FE x):=by
 refine (Rd.struct' Tryz.underlying50).mono ?_
 rintro cs ⟨hl,hf⟩
 obtain ⟨c0,c1,c2,rfl⟩:=PA cs (hl.trans (by kernel_rfl))
 obtain ⟨s0,h0,w0⟩:=hf 0 0 9 1 _ rfl (by kernel_rfl) (Rd.string Tryz.underlying9)
 obtain ⟨s1,h1,w1⟩:=hf 1 1 9 1 _ rfl (by kernel_rfl) (Rd.string Tryz.underlying9)
 obtain ⟨b2,h2⟩:=hf 2 2 4 1 _ rfl (by kernel_rfl) (Rd.bool Tryz.underlying4)
 simp at h0 h1 h2
 subst h0 h1 h2
 exact ⟨⟨s0,s1,b2⟩,rfl,w0,w1⟩
theorem pi.range {w:World} {v:Value} (h:pi Tryz.prog w 50 v):∃ x,v = .agg (encRg x).toArray ∧ FE x:=by
 obtain ⟨cs,rfl⟩:=h.cells (by rw [Tryz.underlying50])
 obtain ⟨x,h1,h2⟩:=h.rd _ (MT w)
 refine ⟨x,?_,h2⟩
 rw [← h1];simp [Value.cells]
theorem Qn (w:World):Rd Tryz.prog w 147 (fun cs=>∃ x,cs = encRn x ∧ True):=by
 refine (Rd.struct' Tryz.underlying147).mono ?_
 rintro cs ⟨hl,hf⟩
 obtain ⟨c0,c1,rfl⟩:=JA cs (hl.trans (by kernel_rfl))
 obtain ⟨n0,h0,w0⟩:=hf 0 0 3 1 _ rfl (by kernel_rfl) (Rd.int Tryz.underlying3)
 obtain ⟨n1,h1,w1⟩:=hf 1 1 3 1 _ rfl (by kernel_rfl) (Rd.int Tryz.underlying3)
 simp at h0 h1
 subst h0 h1
 exact ⟨⟨n0,n1⟩,rfl,trivial⟩
theorem PB (w:World):wX Tryz.prog w 147 2 rnP (fun _=>True):=wX.flat yj (Qn w)
theorem PC (w:World):wX Tryz.prog w 95 2 CA (fun _=>True):=by
 refine (Rd.struct' Tryz.underlying95).mono ?_
 rintro cs ⟨hl,hf⟩
 obtain ⟨c0,c1,rfl⟩:=JA cs (hl.trans (by kernel_rfl))
 obtain ⟨n0,h0,w0⟩:=hf 0 0 3 1 _ rfl (by kernel_rfl) (Rd.int Tryz.underlying3)
 obtain ⟨v,l,h1,h2,_⟩:=hf 1 1 93 1 _ rfl (by kernel_rfl) ((PB w).slice Tryz.underlying93 (by kernel_rfl) (by decide))
 simp at h0 h1
 subst h0 h1
 refine ⟨⟨n0,l⟩,trivial,rfl,rfl,fun j A u hj hu=>?_⟩
 match j,hj,hu with
 | 0,hj,hu=>cases hj;cases hu;exact ⟨rfl,rfl⟩
 | 1,hj,hu=>cases hj;cases hu;exact ⟨by obtain ⟨a,c,b,o,rfl,_⟩:=h2;rfl,h2⟩
 | _ + 2,hj,_=>simp at hj
theorem Ky (w:World):wX Tryz.prog w 66 4 pcP (fun p=>FE p.rg):=by
 refine (Rd.struct' Tryz.underlying66).mono ?_
 rintro cs ⟨hl,hf⟩
 obtain ⟨c0,c1,c2,c3,rfl⟩:=Ng cs (hl.trans (by kernel_rfl))
 obtain ⟨r,h0,w0⟩:=hf 0 0 50 3 _ rfl (by kernel_rfl) (MT w)
 obtain ⟨v,l,h1,h2,_⟩:=hf 1 3 64 1 _ rfl (by kernel_rfl) ((PC w).slice Tryz.underlying64 (by kernel_rfl) (by decide))
 simp [encRg] at h0 h1
 obtain ⟨rfl,rfl,rfl⟩:=h0
 subst h1
 refine ⟨⟨r,l⟩,w0,rfl,rfl,fun j A u hj hu=>?_⟩
 match j,hj,hu with
 | 0,hj,hu=>cases hj;cases hu;exact ⟨rfl,rfl⟩
 | 1,hj,hu=>cases hj;cases hu;exact ⟨rfl,rfl⟩
 | 2,hj,hu=>cases hj;cases hu;exact ⟨rfl,rfl⟩
 | 3,hj,hu=>cases hj;cases hu;exact ⟨by obtain ⟨a,c,b,o,rfl,_⟩:=h2;rfl,h2⟩
 | _ + 4,hj,_=>simp at hj
theorem jp {N:BP} {w:World} {k:Nat} {es:List (List PV)} {v:Value} (h:(cD k es).p N w v):v.oneCell' = true:=by obtain ⟨a,c,b,o,rfl,_⟩:=h;rfl
theorem PD {α:Type} (l:List α) (h:l.length = 5):∃ a0 a1 a2 a3 a4,l = [a0,a1,a2,a3,a4]:=by
 match l,h with|[a0,a1,a2,a3,a4],_=>exact ⟨a0,a1,a2,a3,a4,rfl⟩
def PE (s:Sta):Prop:=(∀ r ∈ s.flt,FE r) ∧ (∀ p ∈ s.know,FE p.rg) ∧ (∀ x ∈ s.its,Oi x)
theorem PF (w:World):Rd Tryz.prog w 26 (fun cs=>∃ s:Sta,PE s ∧ Wr w 5 nc cs s):=by
 refine (Rd.struct' Tryz.underlying26).mono ?_
 rintro cs ⟨hl,hf⟩
 obtain ⟨c0,c1,c2,c3,c4,rfl⟩:=PD cs (hl.trans (by kernel_rfl))
 obtain ⟨n0,h0,_⟩:=hf 0 0 3 1 _ rfl (by kernel_rfl) (Rd.int Tryz.underlying3)
 obtain ⟨v1,l1,h1,p1,w1⟩:=hf 1 1 22 1 _ rfl (by kernel_rfl) ((wX.flat ye (MT w)).slice Tryz.underlying22 (by kernel_rfl) (by decide))
 obtain ⟨v2,l2,h2,p2,w2⟩:=hf 2 2 23 1 _ rfl (by kernel_rfl) ((wX.flat yb (Pq w)).slice Tryz.underlying23 (by kernel_rfl) (by decide))
 obtain ⟨v3,l3,h3,p3,w3⟩:=hf 3 3 24 1 _ rfl (by kernel_rfl) ((Ky w).slice Tryz.underlying24 (by kernel_rfl) (by decide))
 obtain ⟨n4,h4,_⟩:=hf 4 4 3 1 _ rfl (by kernel_rfl) (Rd.int Tryz.underlying3)
 simp at h0 h1 h2 h3 h4
 subst h0 h1 h2 h3 h4
 refine ⟨⟨n0,l1,l2,l3,n4⟩,⟨w1,w3,w2⟩,rfl,rfl,fun j A u hj hu=>?_⟩
 match j,hj,hu with
 | 0,hj,hu|4,hj,hu=>cases hj;cases hu;exact ⟨rfl,rfl⟩
 | 1,hj,hu=>cases hj;cases hu;exact ⟨jp p1,p1⟩
 | 2,hj,hu=>cases hj;cases hu;exact ⟨jp p2,p2⟩
 | 3,hj,hu=>cases hj;cases hu;exact ⟨jp p3,p3⟩
 | _ + 5,hj,_=>simp at hj
theorem pi.state {w:World} {v:Value} (h:pi Tryz.prog w 26 v):∃ s:Sta,PE s ∧ In w v (dX s):=by
 obtain ⟨cs,rfl⟩:=h.cells (by rw [Tryz.underlying26])
 obtain ⟨s,h1,h2,h3,h4⟩:=h.rd _ (PF w)
 refine ⟨s,h1,cs,rfl,?_,fun j A hj=>?_⟩
 ·have:cs.toList.length = 5:=h2
  simpa using this
 ·have hjl:j < cs.toList.length:=by
   have:=(List.getElem?_eq_some_iff.1 hj).1
   show j < (Value.agg cs).cells.toList.length
   rw [h2];exact this
  obtain ⟨q1,q2⟩:=h4 j A cs.toList[j] hj (List.getElem?_eq_getElem hjl)
  exact ⟨cs.toList[j],by simp at hjl ⊢,q1,q2⟩
theorem PG {α:Type} (l:List α) (h:l.length = 6):∃ a0 a1 a2 a3 a4 a5,l = [a0,a1,a2,a3,a4,a5]:=by
 match l,h with|[a0,a1,a2,a3,a4,a5],_=>exact ⟨a0,a1,a2,a3,a4,a5,rfl⟩
theorem wX.agg {β:Type} {P:Program} {w:World} {t:TypeId} {k:Nat} {f:β → List PV} {Q:β → Prop} {v:Value} (h:wX P w t k f Q) (hA:pi P w t v) (hs:∃ cs:Array Value,v = .agg cs):∃ y,Q y ∧ In w v (.per (bX (f y))):=by
 obtain ⟨cs,rfl⟩:=hs
 obtain ⟨y,h1,h2,h3,h4⟩:=hA.rd _ h
 have hl:cs.toList.length = (f y).length:=h2.trans h3.symm
 refine ⟨y,h1,cs,rfl,by simpa using hl,fun j A hj=>?_⟩
 have hjl:j < cs.toList.length:=by
  have:=(List.getElem?_eq_some_iff.1 hj).1
  omega
 obtain ⟨q1,q2⟩:=h4 j A cs.toList[j] hj (List.getElem?_eq_getElem hjl)
 exact ⟨cs.toList[j],by simp at hjl ⊢,q1,q2⟩
def AcWf (a:Act):Prop:=(∀ p ∈ a.know,FE p.rg) ∧ ∀ x ∈ a.its,Oi x
theorem PH (w:World):wX Tryz.prog w 63 6 OH AcWf:=by
 refine (Rd.struct' Tryz.underlying63).mono ?_
 rintro cs ⟨hl,hf⟩
 obtain ⟨c0,c1,c2,c3,c4,c5,rfl⟩:=PG cs (hl.trans (by kernel_rfl))
 obtain ⟨n0,h0,_⟩:=hf 0 0 3 1 _ rfl (by kernel_rfl) (Rd.int Tryz.underlying3)
 obtain ⟨s1,h1,_⟩:=hf 1 1 9 1 _ rfl (by kernel_rfl) (Rd.string Tryz.underlying9)
 obtain ⟨n2,h2,_⟩:=hf 2 2 3 1 _ rfl (by kernel_rfl) (Rd.int Tryz.underlying3)
 obtain ⟨s3,h3,_⟩:=hf 3 3 9 1 _ rfl (by kernel_rfl) (Rd.string Tryz.underlying9)
 obtain ⟨v4,l4,h4,p4,w4⟩:=hf 4 4 23 1 _ rfl (by kernel_rfl) ((wX.flat yb (Pq w)).slice Tryz.underlying23 (by kernel_rfl) (by decide))
 obtain ⟨v5,l5,h5,p5,w5⟩:=hf 5 5 24 1 _ rfl (by kernel_rfl) ((Ky w).slice Tryz.underlying24 (by kernel_rfl) (by decide))
 simp at h0 h1 h2 h3 h4 h5
 subst h0 h1 h2 h3 h4 h5
 refine ⟨⟨n0,s1,n2,s3,l4,l5⟩,⟨w5,w4⟩,rfl,rfl,fun j A u hj hu=>?_⟩
 match j,hj,hu with
 | 0,hj,hu|1,hj,hu|2,hj,hu|3,hj,hu=>cases hj;cases hu;exact ⟨rfl,rfl⟩
 | 4,hj,hu=>cases hj;cases hu;exact ⟨jp p4,p4⟩
 | 5,hj,hu=>cases hj;cases hu;exact ⟨jp p5,p5⟩
 | _ + 6,hj,_=>simp at hj
theorem pi.acts {w:World} {v:Value} (h:pi Tryz.prog w 27 v):∃ l:List Act,In w v (.per (n7 l)) ∧ ∀ a ∈ l,AcWf a:=
 (PH w).arg h Tryz.underlying27 (by kernel_rfl) (by decide)
theorem Qo (w:World):wX Tryz.prog w 29 4 OO (fun a=>0 ≤ a.bits ∧ a.bits < 256):=by
 refine (Rd.struct' Tryz.underlying29).mono ?_
 rintro cs ⟨hl,hf⟩
 obtain ⟨c0,c1,c2,c3,rfl⟩:=Ng cs (hl.trans (by kernel_rfl))
 obtain ⟨v0,l0,h0,p0,_⟩:=hf 0 0 22 1 _ rfl (by kernel_rfl) ((wX.flat ye (MT w)).slice Tryz.underlying22 (by kernel_rfl) (by decide))
 obtain ⟨v1,l1,h1,p1,_⟩:=hf 1 1 24 1 _ rfl (by kernel_rfl) ((Ky w).slice Tryz.underlying24 (by kernel_rfl) (by decide))
 obtain ⟨s2,h2,_⟩:=hf 2 2 9 1 _ rfl (by kernel_rfl) (Rd.string Tryz.underlying9)
 obtain ⟨n3,h3,w3⟩:=hf 3 3 5 1 _ rfl (by kernel_rfl) (Rd.int Tryz.underlying5)
 simp at h0 h1 h2 h3
 subst h0 h1 h2 h3
 refine ⟨⟨l0,l1,s2,n3⟩,by have:=bounds_u8 w3;exact ⟨by dsimp only;omega,by dsimp only;omega⟩,rfl,rfl,fun j A u hj hu=>?_⟩
 match j,hj,hu with
 | 2,hj,hu|3,hj,hu=>cases hj;cases hu;exact ⟨rfl,rfl⟩
 | 0,hj,hu=>cases hj;cases hu;exact ⟨jp p0,p0⟩
 | 1,hj,hu=>cases hj;cases hu;exact ⟨jp p1,p1⟩
 | _ + 4,hj,_=>simp at hj
theorem pi.aq {w:World} {v:Value} (h:pi Tryz.prog w 29 v):∃ a:Aq,(0 ≤ a.bits ∧ a.bits < 256) ∧ In w v (.per (bX (OO a))):=(Qo w).agg h (h.cells (by rw [Tryz.underlying29]))
end Go.Proofs.YtliiahjpiagdkaaGreat
