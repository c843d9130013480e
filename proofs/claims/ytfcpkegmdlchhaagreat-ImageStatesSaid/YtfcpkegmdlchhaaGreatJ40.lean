/- Texts joined: ImU. -/
import Derived.Test.YtfcpkegmdlchhaaGreatJ38
import Derived.Test.YtfcpkegmdlchhaaGreatJ39
import Derived.Test.YtfcpkegmdlchhaaGreatJ06
set_option maxRecDepth 10000
set_option maxHeartbeats 8000000
namespace Go.Proofs.YtfcpkegmdlchhaaGreat
open Go.RowKit
section
theorem within_kind (b:List UInt8):0 ≤ (withinSt 1 5 b 0).1 ∧ (withinSt 1 5 b 0).1 ≤ 5:=by
 unfold withinSt
 split
 · simp
 · rename_i h
   by_cases c:(numSt b 0).2.2 = 0
   · constructor
     · have:=fun q=>h ⟨c,.inl q⟩
       omega
     · have:=fun q=>h ⟨c,.inr q⟩
       omega
   · have:(numSt b 0).1 = 0:=by
       unfold numSt at c ⊢
       split at c
       · rename_i q;rw [if_pos q]
       · rename_i q
         rw [if_neg q]
         split at c
         · rename_i q2;rw [if_pos q2]
         · exact absurd rfl c
     rw [this];omega
theorem rim_Read (b:List UInt8) (hb:b.length ≤ 1000000):Fn Tryz.prog 22 [.per (bysP b)] (.tup2 (.per (ntP (rdNt b).1)) (inR (rdNt b).2)):=by
 have hk:=within_kind b
 by_cases c1:(withinSt 1 5 b 0).1 = 1
 · exact rim_Read_1 b hb c1
 by_cases c2:(withinSt 1 5 b 0).1 = 2
 · exact rim_Read_2 b hb c2
 by_cases c3:(withinSt 1 5 b 0).1 = 3
 · exact rim_Read_3 b hb c3
 by_cases c4:(withinSt 1 5 b 0).1 = 4
 · exact rim_Read_4 b hb c4
 by_cases c5:(withinSt 1 5 b 0).1 = 5
 · exact rim_Read_5 b hb c5
 · exact rim_Read_0 b hb (by omega)
end
end Go.Proofs.YtfcpkegmdlchhaaGreat
