/- Texts joined: OpenP OpenRg OpenKn OpenSt OpenAk. -/
import Derived.Test.YtembiemaiacdfaaGreatJ25
import Derived.Test.YtembiemaiacdfaaGreatJ05
import Derived.Test.YtembiemaiacdfaaGreatJ09
import Derived.Test.YtembiemaiacdfaaGreatJ11
import Derived.Test.YtembiemaiacdfaaGreatJ28
import Derived.Test.YtembiemaiacdfaaGreatJ41
set_option maxRecDepth 10000
set_option maxHeartbeats 8000000
namespace Go.Proofs.YtembiemaiacdfaaGreat
open Go.RowKit
abbrev Mg (w:World):BP:=g0.N (cx w)
def Wr {β:Type} (w:World) (k:Nat) (f:β → List PV) (cs:List Value) (y:β):Prop:=
 cs.length = k ∧ (f y).length = k ∧ ∀ (j:Nat) (A:PV) (u:Value),(f y)[j]? = some A → cs[j]? = some u → u.oneCell' = true ∧ A.p (Mg w) w u
def Co {β:Type} (P:Program) (w:World) (t:TypeId) (k:Nat) (f:β → List PV) (Q:β → Prop):Prop:=Rd P w t (fun cs=>∃ y:β,Q y ∧ Wr w k f cs y)
section
variable {P:Program} {w:World} {t e:TypeId} {β:Type} {k:Nat} {f:β → List PV} {Q:β → Prop}
theorem Wr.ones {cs:List Value} {y:β} (h:Wr w k f cs y):∀ u ∈ cs,u.oneCell' = true:=fun u hu=>by
 obtain ⟨j,hj,rfl⟩:=List.getElem_of_mem hu
 have hj':j < (f y).length:=by have:=h.1;have:=h.2.1;omega
 exact (h.2.2 j _ _ (List.getElem?_eq_getElem hj') (List.getElem?_eq_getElem hj)).1
theorem Co.slice (h:Co P w e k f Q) (ht:P.underlying t = some (.slice e)) (hk:P.cellsOf e = k) (hk0:0 < k) :
   Rd P w t (fun cs=>∃ (v:Value) (l:List β),cs = [v] ∧ (bK k (l.map f)).p (Mg w) w v ∧ ∀ y ∈ l,Q y):=by
 refine (Rd.slice (α:={ cs:List Value // cs.length = k ∧ ∀ u ∈ cs,u.oneCell' = true }) (enc:=fun x=>x.1) (G:=fun x=>∃ y:β,Q y ∧ Wr w k f x.1 y) ht hk hk0 h fun cs ⟨y,h1,h2⟩=>⟨⟨cs,h2.1,h2.ones⟩,rfl,y,h1,h2⟩).mono ?_
 rintro cs ⟨v,lv,rfl,⟨a,c,b,o,rfl,h1,h2,h3,h0,h4⟩,hG⟩
 obtain ⟨l,hl,hg⟩:=m9 (G:=fun i y=>∀ (h:i < lv.length),Q y ∧ Wr w k f lv[i].1 y) lv.length (fun i hi=>by
   obtain ⟨y,q1,q2⟩:=hG lv[i] (List.getElem_mem hi)
   exact ⟨y,fun _=>⟨q1,q2⟩⟩)
 refine ⟨_,l,rfl,⟨a,c,b,o,by rw [List.length_map,hl],by rw [List.length_map,hl];exact h1,h2,h0,fun hn=>?_,fun i cs hi=>?_⟩,fun y hy=>?_⟩
 · rw [List.length_map,hl] at hn
   refine ⟨h3 hn,?_,fun hb=>hb.elim id (fun h=>h rfl)⟩
   have hp:=lv[0].2.1
   have:=h4 0 lv[0] (by simp [hn]) 0 (lv[0].1[0]'(by omega)) (by simp)
   rcases Nat.lt_or_ge b w.heap.size with hb|hb
   · exact hb
   · simp [World.cell?,Array.getElem?_eq_none hb] at this
 · rw [List.getElem?_map] at hi
   cases hx:l[i]? with
   | none=>rw [hx] at hi;cases hi
   | some y=>
     rw [hx] at hi;cases hi
     have hil:i < lv.length:=by
       have:=(List.getElem?_eq_some_iff.1 hx).1;omega
     obtain ⟨_,q1,q2,q3⟩:=hg i y hx hil
     refine ⟨q2,fun j A hj=>?_⟩
     have hjk:j < lv[i].1.length:=by
       have:=(List.getElem?_eq_some_iff.1 hj).1;omega
     obtain ⟨r1,r2⟩:=q3 j A _ hj (List.getElem?_eq_getElem hjk)
     exact ⟨_,h4 i lv[i] (List.getElem?_eq_getElem hil) j _ (List.getElem?_eq_getElem hjk),r1,r2⟩
 · obtain ⟨i,hi,rfl⟩:=List.getElem_of_mem hy
   exact (hg i _ (List.getElem?_eq_getElem hi) (by omega)).1
theorem Co.flat {enc:β → List Value} (hE:Cp k enc) (h:Rd P w e (fun cs=>∃ y,cs = enc y ∧ Q y)):Co P w e k (dD enc) Q:=
 h.mono fun cs ⟨y,h1,h2⟩=>⟨y,h2,by rw [h1,hE.len],by unfold dD;rw [List.length_map,hE.len],fun j A u hj hu=>by
   unfold dD at hj
   rw [List.getElem?_map] at hj
   rw [h1] at hu
   rw [hu] at hj;cases hj
   exact ⟨hE.one y u (List.mem_of_getElem? hu),rfl⟩⟩
end
theorem Lp {α:Type} (l:List α) (h:l.length = 3):∃ a b c,l = [a,b,c]:=by
 match l,h with|[a,b,c],_=>exact ⟨a,b,c,rfl⟩
theorem Lq {α:Type} (l:List α) (h:l.length = 4):∃ a b c d,l = [a,b,c,d]:=by
 match l,h with|[a,b,c,d],_=>exact ⟨a,b,c,d,rfl⟩
def GK (x:Rg):Prop:=x.lo.size ≤ maxLen ∧ x.hi.size ≤ maxLen
theorem GM (w:World):Rd Tryz.prog w 82 (fun cs=>∃ x,cs = encRg x ∧ GK x):=by
 refine (Rd.struct' Tryz.underlying82).mono ?_
 rintro cs ⟨hl,hf⟩
 obtain ⟨c0,c1,c2,rfl⟩:=Lp cs (hl.trans (by kernel_rfl))
 obtain ⟨s0,h0,w0⟩:=hf 0 0 9 1 _ rfl (by kernel_rfl) (Rd.string Tryz.underlying9)
 obtain ⟨s1,h1,w1⟩:=hf 1 1 9 1 _ rfl (by kernel_rfl) (Rd.string Tryz.underlying9)
 obtain ⟨b2,h2⟩:=hf 2 2 4 1 _ rfl (by kernel_rfl) (Rd.bool Tryz.underlying4)
 simp at h0 h1 h2
 subst h0 h1 h2
 exact ⟨⟨s0,s1,b2⟩,rfl,w0,w1⟩
theorem qy.range {w:World} {v:Value} (h:qy Tryz.prog w 82 v):∃ x,v = .agg (encRg x).toArray ∧ GK x:=by
 obtain ⟨cs,rfl⟩:=h.cells (by rw [Tryz.underlying82])
 obtain ⟨x,h1,h2⟩:=h.rd _ (GM w)
 refine ⟨x,?_,h2⟩
 rw [← h1];simp [Value.cells]
theorem L0 (w:World):Rd Tryz.prog w 132 (fun cs=>∃ x,cs = encRn x ∧ True):=by
 refine (Rd.struct' Tryz.underlying132).mono ?_
 rintro cs ⟨hl,hf⟩
 obtain ⟨c0,c1,rfl⟩:=Fj cs (hl.trans (by kernel_rfl))
 obtain ⟨n0,h0,w0⟩:=hf 0 0 3 1 _ rfl (by kernel_rfl) (Rd.int Tryz.underlying3)
 obtain ⟨n1,h1,w1⟩:=hf 1 1 3 1 _ rfl (by kernel_rfl) (Rd.int Tryz.underlying3)
 simp at h0 h1
 subst h0 h1
 exact ⟨⟨n0,n1⟩,rfl,trivial⟩
theorem Lr (w:World):Co Tryz.prog w 132 2 rnP (fun _=>True):=Co.flat vA (L0 w)
theorem Ls (w:World):Co Tryz.prog w 130 2 zv (fun _=>True):=by
 refine (Rd.struct' Tryz.underlying130).mono ?_
 rintro cs ⟨hl,hf⟩
 obtain ⟨c0,c1,rfl⟩:=Fj cs (hl.trans (by kernel_rfl))
 obtain ⟨n0,h0,w0⟩:=hf 0 0 3 1 _ rfl (by kernel_rfl) (Rd.int Tryz.underlying3)
 obtain ⟨v,l,h1,h2,_⟩:=hf 1 1 128 1 _ rfl (by kernel_rfl) ((Lr w).slice Tryz.underlying128 (by kernel_rfl) (by decide))
 simp at h0 h1
 subst h0 h1
 refine ⟨⟨n0,l⟩,trivial,rfl,rfl,fun j A u hj hu=>?_⟩
 match j,hj,hu with
 | 0,hj,hu=>cases hj;cases hu;exact ⟨rfl,rfl⟩
 | 1,hj,hu=>cases hj;cases hu;exact ⟨by obtain ⟨a,c,b,o,rfl,_⟩:=h2;rfl,h2⟩
 | _ + 2,hj,_=>simp at hj
theorem JE (w:World):Co Tryz.prog w 110 4 pcP (fun p=>GK p.rg):=by
 refine (Rd.struct' Tryz.underlying110).mono ?_
 rintro cs ⟨hl,hf⟩
 obtain ⟨c0,c1,c2,c3,rfl⟩:=Lq cs (hl.trans (by kernel_rfl))
 obtain ⟨r,h0,w0⟩:=hf 0 0 82 3 _ rfl (by kernel_rfl) (GM w)
 obtain ⟨v,l,h1,h2,_⟩:=hf 1 3 108 1 _ rfl (by kernel_rfl) ((Ls w).slice Tryz.underlying108 (by kernel_rfl) (by decide))
 simp [encRg] at h0 h1
 obtain ⟨rfl,rfl,rfl⟩:=h0
 subst h1
 refine ⟨⟨r,l⟩,w0,rfl,rfl,fun j A u hj hu=>?_⟩
 match j,hj,hu with
 | 0,hj,hu=>cases hj;cases hu;exact ⟨rfl,rfl⟩
 | 1,hj,hu=>cases hj;cases hu;exact ⟨rfl,rfl⟩
 | 2,hj,hu=>cases hj;cases hu;exact ⟨rfl,rfl⟩
 | 3,hj,hu=>cases hj;cases hu;exact ⟨by obtain ⟨a,c,b,o,rfl,_⟩:=h2;rfl,h2⟩
 | _ + 4,hj,_=>simp at hj
theorem iz {N:BP} {w:World} {k:Nat} {es:List (List PV)} {v:Value} (h:(bK k es).p N w v):v.oneCell' = true:=by obtain ⟨a,c,b,o,rfl,_⟩:=h;rfl
theorem JF {α:Type} (l:List α) (h:l.length = 5):∃ a0 a1 a2 a3 a4,l = [a0,a1,a2,a3,a4]:=by
 match l,h with|[a0,a1,a2,a3,a4],_=>exact ⟨a0,a1,a2,a3,a4,rfl⟩
def Lu (s:Sta):Prop:=(∀ r ∈ s.flt,GK r) ∧ (∀ p ∈ s.know,GK p.rg) ∧ (∀ x ∈ s.its,K8 x)
theorem Lv (w:World):Rd Tryz.prog w 26 (fun cs=>∃ s:Sta,Lu s ∧ Wr w 5 FF cs s):=by
 refine (Rd.struct' Tryz.underlying26).mono ?_
 rintro cs ⟨hl,hf⟩
 obtain ⟨c0,c1,c2,c3,c4,rfl⟩:=JF cs (hl.trans (by kernel_rfl))
 obtain ⟨n0,h0,_⟩:=hf 0 0 3 1 _ rfl (by kernel_rfl) (Rd.int Tryz.underlying3)
 obtain ⟨v1,l1,h1,p1,w1⟩:=hf 1 1 22 1 _ rfl (by kernel_rfl) ((Co.flat pQ (GM w)).slice Tryz.underlying22 (by kernel_rfl) (by decide))
 obtain ⟨v2,l2,h2,p2,w2⟩:=hf 2 2 23 1 _ rfl (by kernel_rfl) ((Co.flat DQ (LV w)).slice Tryz.underlying23 (by kernel_rfl) (by decide))
 obtain ⟨v3,l3,h3,p3,w3⟩:=hf 3 3 24 1 _ rfl (by kernel_rfl) ((JE w).slice Tryz.underlying24 (by kernel_rfl) (by decide))
 obtain ⟨n4,h4,_⟩:=hf 4 4 3 1 _ rfl (by kernel_rfl) (Rd.int Tryz.underlying3)
 simp at h0 h1 h2 h3 h4
 subst h0 h1 h2 h3 h4
 refine ⟨⟨n0,l1,l2,l3,n4⟩,⟨w1,w3,w2⟩,rfl,rfl,fun j A u hj hu=>?_⟩
 match j,hj,hu with
 | 0,hj,hu|4,hj,hu=>cases hj;cases hu;exact ⟨rfl,rfl⟩
 | 1,hj,hu=>cases hj;cases hu;exact ⟨iz p1,p1⟩
 | 2,hj,hu=>cases hj;cases hu;exact ⟨iz p2,p2⟩
 | 3,hj,hu=>cases hj;cases hu;exact ⟨iz p3,p3⟩
 | _ + 5,hj,_=>simp at hj
theorem qy.state {w:World} {v:Value} (h:qy Tryz.prog w 26 v):∃ s:Sta,Lu s ∧ In w v (iV s):=by
 obtain ⟨cs,rfl⟩:=h.cells (by rw [Tryz.underlying26])
 obtain ⟨s,h1,h2,h3,h4⟩:=h.rd _ (Lv w)
 refine ⟨s,h1,cs,rfl,?_,fun j A hj=>?_⟩
 · have:cs.toList.length = 5:=h2
   simpa using this
 · have hjl:j < cs.toList.length:=by
     have:=(List.getElem?_eq_some_iff.1 hj).1
     show j < (Value.agg cs).cells.toList.length
     rw [h2];exact this
   obtain ⟨q1,q2⟩:=h4 j A cs.toList[j] hj (List.getElem?_eq_getElem hjl)
   exact ⟨cs.toList[j],by simp at hjl ⊢,q1,q2⟩
structure Ak where
 flt:List Rg
 know:List Pc
 lim:Int
 lik:List Rg
 there:List UInt8
abbrev L3 (a:Ak):List PV:=ug a.flt a.know a.lim a.lik a.there
theorem Lw (w:World):Rd Tryz.prog w 5 (fun cs=>∃ x:UInt8,cs = encB x ∧ True):=(Rd.int Tryz.underlying5).mono Rd.u8dec
theorem L4 (w:World):Rd Tryz.prog w 45 (fun cs=>∃ a:Ak,(-9223372036854775808 ≤ a.lim ∧ a.lim ≤ 9223372036854775807) ∧ Wr w 5 L3 cs a):=by
 refine (Rd.struct' Tryz.underlying45).mono ?_
 rintro cs ⟨hl,hf⟩
 obtain ⟨c0,c1,c2,c3,c4,rfl⟩:=JF cs (hl.trans (by kernel_rfl))
 obtain ⟨v0,l0,h0,p0,w0⟩:=hf 0 0 22 1 _ rfl (by kernel_rfl) ((Co.flat pQ (GM w)).slice Tryz.underlying22 (by kernel_rfl) (by decide))
 obtain ⟨v1,l1,h1,p1,w1⟩:=hf 1 1 24 1 _ rfl (by kernel_rfl) ((JE w).slice Tryz.underlying24 (by kernel_rfl) (by decide))
 obtain ⟨n2,h2,w2⟩:=hf 2 2 3 1 _ rfl (by kernel_rfl) (Rd.int Tryz.underlying3)
 obtain ⟨v3,l3,h3,p3,w3⟩:=hf 3 3 22 1 _ rfl (by kernel_rfl) ((Co.flat pQ (GM w)).slice Tryz.underlying22 (by kernel_rfl) (by decide))
 obtain ⟨v4,l4,h4,p4,w4⟩:=hf 4 4 43 1 _ rfl (by kernel_rfl) ((Co.flat cu (Lw w)).slice Tryz.underlying43 (by kernel_rfl) (by decide))
 simp at h0 h1 h2 h3 h4
 subst h0 h1 h2 h3 h4
 have hb:=bounds_i64 w2
 refine ⟨⟨l0,l1,n2,l3,l4⟩,hb,rfl,rfl,fun j A u hj hu=>?_⟩
 match j,hj,hu with
 | 2,hj,hu=>cases hj;cases hu;exact ⟨rfl,rfl⟩
 | 0,hj,hu=>cases hj;cases hu;exact ⟨iz p0,p0⟩
 | 1,hj,hu=>cases hj;cases hu;exact ⟨iz p1,p1⟩
 | 3,hj,hu=>cases hj;cases hu;exact ⟨iz p3,p3⟩
 | 4,hj,hu=>cases hj;cases hu;exact ⟨iz p4,p4⟩
 | _ + 5,hj,_=>simp at hj
theorem qy.ask {w:World} {v:Value} (h:qy Tryz.prog w 45 v):∃ a:Ak,(-9223372036854775808 ≤ a.lim ∧ a.lim ≤ 9223372036854775807) ∧ In w v (q9 a.flt a.know a.lim a.lik a.there):=by
 obtain ⟨cs,rfl⟩:=h.cells (by rw [Tryz.underlying45])
 obtain ⟨s,h1,h2,h3,h4⟩:=h.rd _ (L4 w)
 refine ⟨s,h1,cs,rfl,?_,fun j A hj=>?_⟩
 · have:cs.toList.length = 5:=h2
   simpa using this
 · have hjl:j < cs.toList.length:=by
     have:=(List.getElem?_eq_some_iff.1 hj).1
     show j < (Value.agg cs).cells.toList.length
     rw [h2];exact this
   obtain ⟨q1,q2⟩:=h4 j A cs.toList[j] hj (List.getElem?_eq_getElem hjl)
   exact ⟨cs.toList[j],by simp at hjl ⊢,q1,q2⟩
end Go.Proofs.YtembiemaiacdfaaGreat
