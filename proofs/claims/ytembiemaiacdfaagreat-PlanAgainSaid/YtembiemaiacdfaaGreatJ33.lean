/- Texts joined: Bl. -/
import Derived.Test.YtembiemaiacdfaaGreatJ32
import Derived.Test.YtembiemaiacdfaaGreatJ11
import Derived.Test.YtembiemaiacdfaaGreatJ08
import Derived.Test.YtembiemaiacdfaaGreatJ05
set_option maxRecDepth 10000
set_option maxHeartbeats 8000000
namespace Go.Proofs.YtembiemaiacdfaaGreat
open Go.RowKit
section
end
end Go.Proofs.YtembiemaiacdfaaGreat
namespace Go.Proofs.YtembiemaiacdfaaGreat
open Go.RowKit
section
end
end Go.Proofs.YtembiemaiacdfaaGreat
namespace Go.Proofs.YtembiemaiacdfaaGreat
open Go.RowKit
section
end
end Go.Proofs.YtembiemaiacdfaaGreat
