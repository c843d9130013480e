/- Texts joined: Law16K. -/
import Derived.Test.YtfcpkegmdlchhaaGreatJ17
import Derived.Test.YtfcpkegmdlchhaaGreatJ06
set_option maxRecDepth 10000
set_option maxHeartbeats 8000000
namespace Go.Proofs.YtfcpkegmdlchhaaGreat
open Go.RowKit
theorem longPcs_pcsSz {k:List Pc} {most:Int} (h:longPcs k most = false) (hm:most ≤ 1000000):pcsSz k ∧ fewK k:=by
 obtain ⟨h1,h2⟩:=longPcs_sz h
 have hq:∀ p ∈ k,knsTot p.set ∧ fewS p.set:=fun p hp=>by
   obtain ⟨_,_,h3⟩:=h2 p hp
   obtain ⟨g1,g2⟩:=longKns_sz h3
   refine ⟨⟨by omega,?_⟩,fun x hx=>by have:=g2 x hx;omega⟩
   have:∀ l:List Kn,(∀ k ∈ l,(k.runs.length:Int) ≤ 16) → (l.flatMap Kn.runs).length ≤ 16 * l.length:=by
     intro l
     induction l with
     | nil=>intro _;simp
     | cons x l ih=>
       intro h
       have h1:=h x List.mem_cons_self
       have h2:=ih (fun y hy=>h y (List.mem_cons_of_mem _ hy))
       rw [List.flatMap_cons,List.length_append,List.length_cons];omega
   have:=this _ g2
   omega
 exact ⟨⟨by omega,fun p hp=>(hq p hp).1⟩,fun p hp=>(hq p hp).2⟩
section
theorem rdKnow_sz (b:List UInt8):pcsSz (rdKnow b).1 ∧ fewK (rdKnow b).1:=by
 have h:=lis_pcSz b 0
 unfold rdKnow finL
 split
 · exact ⟨⟨by simp,by simp⟩,fun k hk=>by simp at hk⟩
 · split
   · exact h
   · exact ⟨⟨by simp,by simp⟩,fun k hk=>by simp at hk⟩
end
end Go.Proofs.YtfcpkegmdlchhaaGreat
