/- Texts joined: Parse Rd IcR Law19P IcLR FcR Law10P KnT. -/
import Derived.Test.YtliiahjpiagdkaaGreatJ08
import Derived.Test.YtliiahjpiagdkaaGreatJ05
import Derived.Test.YtliiahjpiagdkaaGreatJ07
import Derived.Test.YtliiahjpiagdkaaGreatJ06
import Derived.Test.YtliiahjpiagdkaaGreatJ09
set_option maxRecDepth 10000
set_option maxHeartbeats 8000000
namespace Go.Proofs.YtliiahjpiagdkaaGreat
end Go.Proofs.YtliiahjpiagdkaaGreat
namespace Go.Proofs.YtliiahjpiagdkaaGreat
open Go.RowKit
end Go.Proofs.YtliiahjpiagdkaaGreat
namespace Go.Proofs.YtliiahjpiagdkaaGreat
open Go.RowKit
section
end
end Go.Proofs.YtliiahjpiagdkaaGreat
namespace Go.Proofs.YtliiahjpiagdkaaGreat
open Go.RowKit
section
variable (l:List UInt8) (e:Int)
end
end Go.Proofs.YtliiahjpiagdkaaGreat
namespace Go.Proofs.YtliiahjpiagdkaaGreat
open Go.RowKit
section
end
end Go.Proofs.YtliiahjpiagdkaaGreat
namespace Go.Proofs.YtliiahjpiagdkaaGreat
open Go.RowKit
section
variable (b l:List UInt8) (e:Int) (hs:l <:+ b) (hb:b.length ≤ 1000000000000)
include hs hb
omit hb in
end
section
end
section
end
instance (l:List Rg):Decidable (dr l):=by unfold dr tQ;infer_instance
section
end
end Go.Proofs.YtliiahjpiagdkaaGreat
namespace Go.Proofs.YtliiahjpiagdkaaGreat
open Go.RowKit
section
end
structure Rn where
 fr:Int
 to:Int
deriving DecidableEq
structure Kn where
 rep:Int
 runs:List Rn
deriving DecidableEq
structure Pc where
 rg:Rg
 set:List Kn
deriving DecidableEq
def encRn (r:Rn):List Value:=[.int .i64 r.fr,.int .i64 r.to]
theorem yj:Dv 2 encRn:=⟨by decide,fun _=>rfl,fun x u hu=>by
 simp only [encRn,List.mem_cons,List.not_mem_nil,or_false] at hu
 rcases hu with rfl|rfl <;> rfl⟩
abbrev rnP (r:Rn):List PV:=[av (.int .i64 r.fr),av (.int .i64 r.to)]
abbrev Qs (r:Rn):Cnt:=.per (bX (rnP r))
abbrev jH (l:List Rn):PV:=cD 2 (l.map rnP)
abbrev fd (l:List Rn):Cnt:=.bor 2 (l.map rnP)
abbrev CA (k:Kn):List PV:=[av (.int .i64 k.rep),jH k.runs]
abbrev Qt (k:Kn):Cnt:=.per (bX (CA k))
abbrev Ec (l:List Kn):PV:=cD 2 (l.map CA)
abbrev eM (l:List Kn):Cnt:=.bor 2 (l.map CA)
abbrev pcP (p:Pc):List PV:=[av (.string p.rg.lo),av (.string p.rg.hi),av (.bool p.rg.op),Ec p.set]
abbrev Qu (p:Pc):Cnt:=.per (bX (pcP p))
abbrev iq (l:List Pc):PV:=cD 4 (l.map pcP)
abbrev bV (l:List Pc):Cnt:=.bor 4 (l.map pcP)
def gM (r:Rn):Bool:=decide (1 ≤ r.fr ∧ r.fr ≤ r.to ∧ r.to ≤ 1099511627776)
theorem bK (r:Rn):gM r = true ↔ 1 ≤ r.fr ∧ r.fr ≤ r.to ∧ r.to ≤ 1099511627776:=by unfold gM;exact decide_eq_true_iff
def rX (l:List Rn) (i:Nat):Prop:=∀ h:i < l.length,gM l[i] = true ∧ ∀ h0:0 < i,l[i - 1].to + 2 ≤ l[i].fr
def cu (l:List Rn):Prop:=∀ i,i < l.length → rX l i
def AM (l:List Kn) (i:Nat):Prop:=∀ h:i < l.length,1 ≤ l[i].rep ∧ l[i].rep ≤ 16 ∧ l[i].runs ≠ [] ∧ cu l[i].runs ∧ ∀ h0:0 < i,l[i - 1].rep < l[i].rep
def cg (l:List Kn):Prop:=∀ i,i < l.length → AM l i
def rY (l:List Pc) (i:Nat):Prop:=∀ h:i < l.length,eO l[i].rg = true ∧ l[i].set ≠ [] ∧ cg l[i].set ∧ ∀ h0:0 < i,l[i - 1].rg.op = false ∧ bu l[i - 1].rg.hi l[i].rg.lo ≤ 0 ∧ ¬ (l[i - 1].rg.hi = l[i].rg.lo ∧ l[i - 1].set = l[i].set)
def aY (l:List Pc):Prop:=∀ i,i < l.length → rY l i
instance (l:List Rn) (i:Nat):Decidable (rX l i):=by unfold rX;infer_instance
instance (l:List Rn):Decidable (cu l):=by unfold cu;infer_instance
instance (l:List Kn) (i:Nat):Decidable (AM l i):=by unfold AM;infer_instance
instance (l:List Kn):Decidable (cg l):=by unfold cg;infer_instance
instance (l:List Pc) (i:Nat):Decidable (rY l i):=by unfold rY;infer_instance
instance (l:List Pc):Decidable (aY l):=by unfold aY;infer_instance
theorem uz {l:List Kn} (h:cg l) {i:Nat} (hi:i < l.length):1 ≤ l[i].rep ∧ l[i].rep ≤ 16 ∧ l[i].runs ≠ [] ∧ cu l[i].runs:=
 let ⟨a,b,c,d,_⟩:=h i hi hi;⟨a,b,c,d⟩
theorem gc {l:List Rn} (h:cu l) {i:Nat} (hi:i < l.length):1 ≤ l[i].fr ∧ l[i].fr ≤ l[i].to ∧ l[i].to ≤ 1099511627776:=(bK _).1 (h i hi hi).1
end Go.Proofs.YtliiahjpiagdkaaGreat
