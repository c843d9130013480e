/- The law HashParts, walked. -/
import Derived.Test.YtpndnlnjgnckdaaCut
import Derived.Test.YtpndnlnjgnckdaaVarint
import Derived.Lib.SlBytesConst
namespace Go.Proofs.Ytpndnlnjgnckdaa
open Go.RowKit

theorem hashOf_nn (seed : Int) (l : List UInt8) : 0 ≤ hashOf seed l := wrapu_nn _
theorem hashOf_lt (seed : Int) (l : List UInt8) : hashOf seed l < 18446744073709551616 := wrapu_lt _

theorem cutA : cut 5 1 = 1 := by decide
theorem cutB : cut 5 0 = 0 := by decide
theorem hcutC : cut 9223372036854775808 99 = 9223372036854775808 := by decide
theorem hashA : hashOf 0 [97] = 12638187199001669824 := by decide +kernel

end Go.Proofs.Ytpndnlnjgnckdaa
