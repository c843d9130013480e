/- The law of finding keys, walked. -/
import Derived.Test.YtbpmafpmlapekaaFind
namespace Go.Proofs.Ytbpmafpmlapekaa
open Go.RowKit
section
set_option maxRecDepth 10000
set_option maxHeartbeats 4000000
theorem longB_key {l : List It} {most : Int} (h : longB l most = false) : kOk l := fun x hx => by
  unfold longB at h
  rw [Bool.or_eq_false_iff] at h
  have := List.any_eq_false.1 h.2 x hx
  unfold itL at this
  simp at this
  omega
end
end Go.Proofs.Ytbpmafpmlapekaa
