/- Texts joined: OpenRg OpenKn OpenSt OpenAk. -/
import Derived.Test.YtembiemaiacdfaaGreatJ25
import Derived.Test.YtembiemaiacdfaaGreatJ09
import Derived.Test.YtembiemaiacdfaaGreatJ05
import Derived.Test.YtembiemaiacdfaaGreatJ42
import Derived.Test.YtembiemaiacdfaaGreatJ11
import Derived.Test.YtembiemaiacdfaaGreatJ28
import Derived.Test.YtembiemaiacdfaaGreatJ41
set_option maxRecDepth 10000
set_option maxHeartbeats 8000000
namespace Go.Proofs.YtembiemaiacdfaaGreat
open Go.RowKit
theorem L7 {α:Type} (l:List α) (h:l.length = 3):∃ a b c,l = [a,b,c]:=by
 match l,h with|[a,b,c],_=>exact ⟨a,b,c,rfl⟩
theorem L8 {α:Type} (l:List α) (h:l.length = 4):∃ a b c d,l = [a,b,c,d]:=by
 match l,h with|[a,b,c,d],_=>exact ⟨a,b,c,d,rfl⟩
def Hp (x:Rg):Prop:=x.lo.size ≤ maxLen ∧ x.hi.size ≤ maxLen
theorem Hq (w:World):Rd Tryz.prog w 82 (fun cs=>∃ x,cs = encRg x ∧ Hp x):=by
 refine (Rd.struct' Tryz.underlying82).mono ?_
 rintro cs ⟨hl,hf⟩
 obtain ⟨c0,c1,c2,rfl⟩:=L7 cs (hl.trans (by kernel_rfl))
 obtain ⟨s0,h0,w0⟩:=hf 0 0 9 1 _ rfl (by kernel_rfl) (Rd.string Tryz.underlying9)
 obtain ⟨s1,h1,w1⟩:=hf 1 1 9 1 _ rfl (by kernel_rfl) (Rd.string Tryz.underlying9)
 obtain ⟨b2,h2⟩:=hf 2 2 4 1 _ rfl (by kernel_rfl) (Rd.bool Tryz.underlying4)
 simp at h0 h1 h2
 subst h0 h1 h2
 exact ⟨⟨s0,s1,b2⟩,rfl,w0,w1⟩
theorem nM.range {w:World} {v:Value} (h:nM Tryz.prog w 82 v):∃ x,v = .agg (encRg x).toArray ∧ Hp x:=by
 obtain ⟨cs,rfl⟩:=h.cells (by rw [Tryz.underlying82])
 obtain ⟨x,h1,h2⟩:=h.rd _ (Hq w)
 refine ⟨x,?_,h2⟩
 rw [← h1];simp [Value.cells]
theorem MF (w:World):Rd Tryz.prog w 132 (fun cs=>∃ x,cs = encRn x ∧ True):=by
 refine (Rd.struct' Tryz.underlying132).mono ?_
 rintro cs ⟨hl,hf⟩
 obtain ⟨c0,c1,rfl⟩:=F1 cs (hl.trans (by kernel_rfl))
 obtain ⟨n0,h0,w0⟩:=hf 0 0 3 1 _ rfl (by kernel_rfl) (Rd.int Tryz.underlying3)
 obtain ⟨n1,h1,w1⟩:=hf 1 1 3 1 _ rfl (by kernel_rfl) (Rd.int Tryz.underlying3)
 simp at h0 h1
 subst h0 h1
 exact ⟨⟨n0,n1⟩,rfl,trivial⟩
theorem L9 (w:World):Dm Tryz.prog w 132 2 rnP (fun _=>True):=Dm.flat v6 (MF w)
theorem Ma (w:World):Dm Tryz.prog w 130 2 Ap (fun _=>True):=by
 refine (Rd.struct' Tryz.underlying130).mono ?_
 rintro cs ⟨hl,hf⟩
 obtain ⟨c0,c1,rfl⟩:=F1 cs (hl.trans (by kernel_rfl))
 obtain ⟨n0,h0,w0⟩:=hf 0 0 3 1 _ rfl (by kernel_rfl) (Rd.int Tryz.underlying3)
 obtain ⟨v,l,h1,h2,_⟩:=hf 1 1 128 1 _ rfl (by kernel_rfl) ((L9 w).slice Tryz.underlying128 (by kernel_rfl) (by decide))
 simp at h0 h1
 subst h0 h1
 refine ⟨⟨n0,l⟩,trivial,rfl,rfl,fun j A u hj hu=>?_⟩
 match j,hj,hu with
 | 0,hj,hu=>cases hj;cases hu;exact ⟨rfl,rfl⟩
 | 1,hj,hu=>cases hj;cases hu;exact ⟨by obtain ⟨a,c,b,o,rfl,_⟩:=h2;rfl,h2⟩
 | _ + 2,hj,_=>simp at hj
theorem Kg (w:World):Dm Tryz.prog w 110 4 pcP (fun p=>Hp p.rg):=by
 refine (Rd.struct' Tryz.underlying110).mono ?_
 rintro cs ⟨hl,hf⟩
 obtain ⟨c0,c1,c2,c3,rfl⟩:=L8 cs (hl.trans (by kernel_rfl))
 obtain ⟨r,h0,w0⟩:=hf 0 0 82 3 _ rfl (by kernel_rfl) (Hq w)
 obtain ⟨v,l,h1,h2,_⟩:=hf 1 3 108 1 _ rfl (by kernel_rfl) ((Ma w).slice Tryz.underlying108 (by kernel_rfl) (by decide))
 simp [encRg] at h0 h1
 obtain ⟨rfl,rfl,rfl⟩:=h0
 subst h1
 refine ⟨⟨r,l⟩,w0,rfl,rfl,fun j A u hj hu=>?_⟩
 match j,hj,hu with
 | 0,hj,hu=>cases hj;cases hu;exact ⟨rfl,rfl⟩
 | 1,hj,hu=>cases hj;cases hu;exact ⟨rfl,rfl⟩
 | 2,hj,hu=>cases hj;cases hu;exact ⟨rfl,rfl⟩
 | 3,hj,hu=>cases hj;cases hu;exact ⟨by obtain ⟨a,c,b,o,rfl,_⟩:=h2;rfl,h2⟩
 | _ + 4,hj,_=>simp at hj
theorem iM {N:BP} {w:World} {k:Nat} {es:List (List PV)} {v:Value} (h:(ct k es).p N w v):v.oneCell' = true:=by obtain ⟨a,c,b,o,rfl,_⟩:=h;rfl
theorem Kh {α:Type} (l:List α) (h:l.length = 5):∃ a0 a1 a2 a3 a4,l = [a0,a1,a2,a3,a4]:=by
 match l,h with|[a0,a1,a2,a3,a4],_=>exact ⟨a0,a1,a2,a3,a4,rfl⟩
def Mb (s:Sta):Prop:=(∀ r ∈ s.flt,Hp r) ∧ (∀ p ∈ s.know,Hp p.rg) ∧ (∀ x ∈ s.its,KW x)
theorem Mc (w:World):Rd Tryz.prog w 26 (fun cs=>∃ s:Sta,Mb s ∧ Wr w 5 o6 cs s):=by
 refine (Rd.struct' Tryz.underlying26).mono ?_
 rintro cs ⟨hl,hf⟩
 obtain ⟨c0,c1,c2,c3,c4,rfl⟩:=Kh cs (hl.trans (by kernel_rfl))
 obtain ⟨n0,h0,_⟩:=hf 0 0 3 1 _ rfl (by kernel_rfl) (Rd.int Tryz.underlying3)
 obtain ⟨v1,l1,h1,p1,w1⟩:=hf 1 1 22 1 _ rfl (by kernel_rfl) ((Dm.flat pZ (Hq w)).slice Tryz.underlying22 (by kernel_rfl) (by decide))
 obtain ⟨v2,l2,h2,p2,w2⟩:=hf 2 2 23 1 _ rfl (by kernel_rfl) ((Dm.flat EO (LS w)).slice Tryz.underlying23 (by kernel_rfl) (by decide))
 obtain ⟨v3,l3,h3,p3,w3⟩:=hf 3 3 24 1 _ rfl (by kernel_rfl) ((Kg w).slice Tryz.underlying24 (by kernel_rfl) (by decide))
 obtain ⟨n4,h4,_⟩:=hf 4 4 3 1 _ rfl (by kernel_rfl) (Rd.int Tryz.underlying3)
 simp at h0 h1 h2 h3 h4
 subst h0 h1 h2 h3 h4
 refine ⟨⟨n0,l1,l2,l3,n4⟩,⟨w1,w3,w2⟩,rfl,rfl,fun j A u hj hu=>?_⟩
 match j,hj,hu with
 | 0,hj,hu|4,hj,hu=>cases hj;cases hu;exact ⟨rfl,rfl⟩
 | 1,hj,hu=>cases hj;cases hu;exact ⟨iM p1,p1⟩
 | 2,hj,hu=>cases hj;cases hu;exact ⟨iM p2,p2⟩
 | 3,hj,hu=>cases hj;cases hu;exact ⟨iM p3,p3⟩
 | _ + 5,hj,_=>simp at hj
theorem nM.state {w:World} {v:Value} (h:nM Tryz.prog w 26 v):∃ s:Sta,Mb s ∧ In w v (cY s):=by
 obtain ⟨cs,rfl⟩:=h.cells (by rw [Tryz.underlying26])
 obtain ⟨s,h1,h2,h3,h4⟩:=h.rd _ (Mc w)
 refine ⟨s,h1,cs,rfl,?_,fun j A hj=>?_⟩
 · have:cs.toList.length = 5:=h2
   simpa using this
 · have hjl:j < cs.toList.length:=by
     have:=(List.getElem?_eq_some_iff.1 hj).1
     show j < (Value.agg cs).cells.toList.length
     rw [h2];exact this
   obtain ⟨q1,q2⟩:=h4 j A cs.toList[j] hj (List.getElem?_eq_getElem hjl)
   exact ⟨cs.toList[j],by simp at hjl ⊢,q1,q2⟩
structure Ak where
 flt:List Rg
 know:List Pc
 lim:Int
 lik:List Rg
 there:List UInt8
abbrev MG (a:Ak):List PV:=zQ a.flt a.know a.lim a.lik a.there
theorem Md (w:World):Rd Tryz.prog w 5 (fun cs=>∃ x:UInt8,cs = encB x ∧ True):=(Rd.int Tryz.underlying5).mono Rd.u8dec
theorem MH (w:World):Rd Tryz.prog w 45 (fun cs=>∃ a:Ak,(-9223372036854775808 ≤ a.lim ∧ a.lim ≤ 9223372036854775807) ∧ Wr w 5 MG cs a):=by
 refine (Rd.struct' Tryz.underlying45).mono ?_
 rintro cs ⟨hl,hf⟩
 obtain ⟨c0,c1,c2,c3,c4,rfl⟩:=Kh cs (hl.trans (by kernel_rfl))
 obtain ⟨v0,l0,h0,p0,w0⟩:=hf 0 0 22 1 _ rfl (by kernel_rfl) ((Dm.flat pZ (Hq w)).slice Tryz.underlying22 (by kernel_rfl) (by decide))
 obtain ⟨v1,l1,h1,p1,w1⟩:=hf 1 1 24 1 _ rfl (by kernel_rfl) ((Kg w).slice Tryz.underlying24 (by kernel_rfl) (by decide))
 obtain ⟨n2,h2,w2⟩:=hf 2 2 3 1 _ rfl (by kernel_rfl) (Rd.int Tryz.underlying3)
 obtain ⟨v3,l3,h3,p3,w3⟩:=hf 3 3 22 1 _ rfl (by kernel_rfl) ((Dm.flat pZ (Hq w)).slice Tryz.underlying22 (by kernel_rfl) (by decide))
 obtain ⟨v4,l4,h4,p4,w4⟩:=hf 4 4 43 1 _ rfl (by kernel_rfl) ((Dm.flat da (Md w)).slice Tryz.underlying43 (by kernel_rfl) (by decide))
 simp at h0 h1 h2 h3 h4
 subst h0 h1 h2 h3 h4
 have hb:=bounds_i64 w2
 refine ⟨⟨l0,l1,n2,l3,l4⟩,hb,rfl,rfl,fun j A u hj hu=>?_⟩
 match j,hj,hu with
 | 2,hj,hu=>cases hj;cases hu;exact ⟨rfl,rfl⟩
 | 0,hj,hu=>cases hj;cases hu;exact ⟨iM p0,p0⟩
 | 1,hj,hu=>cases hj;cases hu;exact ⟨iM p1,p1⟩
 | 3,hj,hu=>cases hj;cases hu;exact ⟨iM p3,p3⟩
 | 4,hj,hu=>cases hj;cases hu;exact ⟨iM p4,p4⟩
 | _ + 5,hj,_=>simp at hj
theorem nM.ask {w:World} {v:Value} (h:nM Tryz.prog w 45 v):∃ a:Ak,(-9223372036854775808 ≤ a.lim ∧ a.lim ≤ 9223372036854775807) ∧ In w v (jT a.flt a.know a.lim a.lik a.there):=by
 obtain ⟨cs,rfl⟩:=h.cells (by rw [Tryz.underlying45])
 obtain ⟨s,h1,h2,h3,h4⟩:=h.rd _ (MH w)
 refine ⟨s,h1,cs,rfl,?_,fun j A hj=>?_⟩
 · have:cs.toList.length = 5:=h2
   simpa using this
 · have hjl:j < cs.toList.length:=by
     have:=(List.getElem?_eq_some_iff.1 hj).1
     show j < (Value.agg cs).cells.toList.length
     rw [h2];exact this
   obtain ⟨q1,q2⟩:=h4 j A cs.toList[j] hj (List.getElem?_eq_getElem hjl)
   exact ⟨cs.toList[j],by simp at hjl ⊢,q1,q2⟩
end Go.Proofs.YtembiemaiacdfaaGreat
