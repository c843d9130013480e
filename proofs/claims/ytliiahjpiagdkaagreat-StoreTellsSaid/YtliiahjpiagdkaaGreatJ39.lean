/- Texts joined: Bp Bl Od. -/
import Derived.Test.YtliiahjpiagdkaaGreatJ24
import Derived.Test.YtliiahjpiagdkaaGreatJ08
import Derived.Test.YtliiahjpiagdkaaGreatJ10
import Derived.Test.YtliiahjpiagdkaaGreatJ05
import Derived.Test.YtliiahjpiagdkaaGreatJ23
import Derived.Test.YtliiahjpiagdkaaGreatJ18
import Derived.Test.YtliiahjpiagdkaaGreatJ11
import Derived.Test.YtliiahjpiagdkaaGreatJ26
import Derived.Test.YtliiahjpiagdkaaGreatJ19
set_option maxRecDepth 10000
set_option maxHeartbeats 8000000
namespace Go.Proofs.YtliiahjpiagdkaaGreat
open Go.RowKit
section
variable {bits probes seed:Int} {row:List UInt8}
end
section
end
end Go.Proofs.YtliiahjpiagdkaaGreat
namespace Go.Proofs.YtliiahjpiagdkaaGreat
open Go.RowKit
section
end
end Go.Proofs.YtliiahjpiagdkaaGreat
namespace Go.Proofs.YtliiahjpiagdkaaGreat
open Go.RowKit
section
end
abbrev Snt:=It × Int
def Py (x y:Snt):Int:=if x.1.prio > y.1.prio then -1 else if x.1.prio < y.1.prio then 1 else if x.2 ≠ y.2 then x.2 - y.2 else bu x.1.key y.1.key
def Qm (x y:Snt):Bool:=decide (Py x y < 0)
section
end
section
end
section
end
end Go.Proofs.YtliiahjpiagdkaaGreat
namespace Go.Proofs.YtliiahjpiagdkaaGreat
open Go.RowKit
section
end
end Go.Proofs.YtliiahjpiagdkaaGreat
namespace Go.Proofs.YtliiahjpiagdkaaGreat
open Go.RowKit
section
variable {P:Program} {n t:Nat} {ops:Array Oper} {o:Oper} {S:St}
end
section
end
end Go.Proofs.YtliiahjpiagdkaaGreat
