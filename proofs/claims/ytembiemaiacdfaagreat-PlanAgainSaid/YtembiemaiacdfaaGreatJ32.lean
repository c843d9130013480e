/- Texts joined: AbsB AbsP Hash Bp. -/
import Derived.Test.YtembiemaiacdfaaGreatJ07
import Derived.Test.YtembiemaiacdfaaGreatJ20
import Derived.Laws.MakeOwn
import Derived.Lib.BufferWrite
import Derived.Test.YtembiemaiacdfaaGreatJ05
import Derived.Test.YtembiemaiacdfaaGreatJ31
import Derived.Test.YtembiemaiacdfaaGreatRows
import Derived.Test.YtembiemaiacdfaaGreatJ01
import Derived.Outline
import Derived.Test.YtembiemaiacdfaaGreatJ08
import Derived.Test.YtembiemaiacdfaaGreatJ11
set_option maxRecDepth 10000
set_option maxHeartbeats 8000000
namespace Go.Proofs.YtembiemaiacdfaaGreat
open Go.RowKit
section
variable {P:Program} {n t:Nat} {ops:Array Oper} {o:Oper} {S:St}
end
section
variable {P:Program} {n:Nat} {ops:Array Oper} {o:Oper} {S:St} {t:Nat}
def idsN (ids:List Nat):List Nat:=ids.map fun i=>2 * i + 1
theorem GivesP.mono {F F':List Nat} {ids:List Nat} {x:Operand} {c:Cnt} (h:GivesP F S ids x c) (hF:∀ k ∈ F,k ∈ F'):GivesP F' S ids x c:=
 fun n C T g a w hA hR=>h n C T g a w ⟨fun t ht=>hA.1 t (hF _ ht),fun i hi=>hA.2 i (hF _ hi)⟩ hR
inductive GPl (S:St) (ids:List Nat):List Operand → List Cnt → Prop
 | nil:GPl S ids [] []
 | cons {x:Operand} {c:Cnt} {xs:List Operand} {cs:List Cnt} (h:GivesP (srcN S x ++ idsN ids) S ids x c) (t:GPl S ids xs cs):GPl S ids (x :: xs) (c :: cs)
theorem GPl.gives {ids:List Nat} {xs:List Operand} {cs:List Cnt} (h:GPl S ids xs cs) {F:List Nat} (hF:∀ k ∈ callN S xs,k ∈ F) (hI:∀ k ∈ idsN ids,k ∈ F):GivesPL F S ids xs cs:=by
 induction h with
 | nil=>exact .nil
 | cons h t ih=>
   refine .cons (h.mono (fun k hk=>?_)) (ih (fun k hk=>hF k (by simp only [callN,List.flatMap_cons,List.mem_append];exact .inr hk)))
   rcases List.mem_append.1 hk with q|q
   · exact hF k (by simp only [callN,List.flatMap_cons,List.mem_append];exact .inl q)
   · exact hI k q
end

section
variable {bits probes seed:Int} {row:List UInt8}
end
end Go.Proofs.YtembiemaiacdfaaGreat
