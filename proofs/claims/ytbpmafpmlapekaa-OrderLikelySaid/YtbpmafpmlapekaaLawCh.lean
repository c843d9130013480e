/- The law of lists merged in parts, walked. -/
import Derived.Test.YtbpmafpmlapekaaLaw18
import Derived.Test.YtbpmafpmlapekaaBest
import Derived.Test.YtbpmafpmlapekaaAbsX
namespace Go.Proofs.Ytbpmafpmlapekaa
open Go.RowKit
section
set_option maxRecDepth 10000
set_option maxHeartbeats 4000000
theorem longB_len {l : List It} {most : Int} (h : longB l most = false) : (l.length : Int) ≤ most := by
  unfold longB at h
  rw [Bool.or_eq_false_iff, decide_eq_false_iff_not] at h
  omega
theorem filt_len (ls : List (List It)) : (ls.flatten.filter itR).length ≤ ls.flatten.length := List.length_filter_le _ _
end
end Go.Proofs.Ytbpmafpmlapekaa
