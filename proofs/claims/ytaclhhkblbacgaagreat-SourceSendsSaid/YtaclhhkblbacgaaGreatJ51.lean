/- Texts joined: OpenSt. -/
import Derived.Test.YtaclhhkblbacgaaGreatJ50
set_option maxRecDepth 10000
set_option maxHeartbeats 8000000
namespace Go.Proofs.YtaclhhkblbacgaaGreat
open Go.RowKit Go.Proofs.Tryz
theorem wm {N:BP}{w:World}{k:Nat}{es:List (List PV)}{v:Value}(h:(cA k es).p N w v):v.oneCell'=true:=by obtain⟨a,c,b,o,rfl,_⟩:=h;rfl
theorem UT {α:Type}(l:List α)(h:l.length=5):∃a0 a1 a2 a3 a4,l=[a0,a1,a2,a3,a4]:=by
 match l,h with|[a0,a1,a2,a3,a4],_=>exact⟨a0,a1,a2,a3,a4,rfl⟩
def UU (s:Sta):Prop:=(∀r∈s.flt,Du r)∧(∀p∈s.know,Du p.rg)∧(∀x∈s.its,QR x)
theorem UV (w:World):Rd prog w 26 (fun cs=>∃s:Sta,UU s∧Wr w 5 td cs s):=by
 refine(Rd.struct' underlying26).mono ?_
 rintro cs ⟨hl,hf⟩
 obtain⟨c0,c1,c2,c3,c4,rfl⟩:=UT cs (hl.trans (by kernel_rfl))
 obtain⟨n0,h0,_⟩:=hf 0 0 3 1 _ rfl (by kernel_rfl) (Rd.int underlying3)
 obtain⟨v1,l1,h1,p1,w1⟩:=hf 1 1 22 1 _ rfl (by kernel_rfl) ((J5.flat BO (OS w)).slice underlying22 (by kernel_rfl) bz)
 obtain⟨v2,l2,h2,p2,w2⟩:=hf 2 2 23 1 _ rfl (by kernel_rfl) ((J5.flat BM (SV w)).slice underlying23 (by kernel_rfl) bz)
 obtain⟨v3,l3,h3,p3,w3⟩:=hf 3 3 24 1 _ rfl (by kernel_rfl) ((R5 w).slice underlying24 (by kernel_rfl) bz)
 obtain⟨n4,h4,_⟩:=hf 4 4 3 1 _ rfl (by kernel_rfl) (Rd.int underlying3)
 simp at h0 h1 h2 h3 h4
 subst h0 h1 h2 h3 h4
 refine⟨⟨n0,l1,l2,l3,n4⟩,⟨w1,w3,w2⟩,rfl,rfl,fun j A u hj hu=>?_⟩
 match j,hj,hu with
 | 0,hj,hu|4,hj,hu=>cases hj;cases hu;exact⟨rfl,rfl⟩
 | 1,hj,hu=>cases hj;cases hu;exact⟨wm p1,p1⟩
 | 2,hj,hu=>cases hj;cases hu;exact⟨wm p2,p2⟩
 | 3,hj,hu=>cases hj;cases hu;exact⟨wm p3,p3⟩
 | _+5,hj,_=>simp at hj
theorem r8.state {w:World}{v:Value}(h:r8 prog w 26 v):∃s:Sta,UU s∧In w v (ji s):=by
 obtain⟨cs,rfl⟩:=h.cells (by rw[underlying26])
 obtain⟨s,h1,h2,h3,h4⟩:=h.rd _ (UV w)
 refine⟨s,h1,cs,rfl,?_,fun j A hj=>?_⟩
 ·have:cs.toList.length=5:=h2
  simpa using this
 ·have hjl:j<cs.toList.length:=by
   have:=(Ws.1 hj).1
   show j<(Value.agg cs).cells.toList.length
   rw[h2];exact this
  obtain⟨q1,q2⟩:=h4 j A cs.toList[j] hj (V4 hjl)
  exact⟨cs.toList[j],by simp at hjl ⊢,q1,q2⟩
end Go.Proofs.YtaclhhkblbacgaaGreat
