/- Are two slices of bytes the same (ref01.Bytes). -/
import Derived.Test.YtpndnlnjgnckdaaAbsX
import Derived.Test.YtpndnlnjgnckdaaAdapt
namespace Go.Proofs.Ytpndnlnjgnckdaa
open Go.RowKit
theorem take_s {α : Type} (l : List α) (k : Nat) (h : k < l.length) : l.take (k + 1) = l.take k ++ [l[k]] := by rw [List.take_succ_eq_append_getElem h]
section
set_option maxRecDepth 10000
set_option maxHeartbeats 4000000
end
end Go.Proofs.Ytpndnlnjgnckdaa
