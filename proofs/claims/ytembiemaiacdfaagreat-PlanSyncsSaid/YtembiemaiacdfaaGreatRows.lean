/-
  No cell of these rows narrows 'for every input' (looked for: loops, veiled, ifaces, maps, wideKeys, modest, calm, conditions, laid).
  DERIVED. THE GIVEN ROWS OF THIS SEAT. 4 by the template 'for every input the law returns true; each argument reads behind the call as it read before'; 0 by the template 'total and deterministic' (their statements: YtembiemaiacdfaaGreatTotals.lean).
  GIVEN WITH THE SEED: the statements are not yours to turn. If you find one false, say at which input.
  Laid BY PROGRAM, IN A SANDBOX (cutbox-rows.mjs): the forced cells as the released guide's own fill.sh prints them over the translation 18a0cd9b66fa589b… (all of the seat's roots in one cut). By AI agents, Wed Nov 11 2026. No macro, syntax, notation, axiom, sorry.
-/
import Derived.Test.YtembiemaiacdfaaGreatChecked
import GoSem.Claim
import GoSem.ClaimJoined
import GoSem.ClaimMapViews
import Derived.JoinedTies
import Derived.KernelRfl
namespace Go.Proofs.YtembiemaiacdfaaGreat
/- THE CELL 'sum', in the pinned program and in every row, IS THE sha256 OF THE DUMP (.gsa) THAT YtembiemaiacdfaaGreatProg.lean LOADS. Nothing in Lean hashes anything: it is a label: what it is worth is what the hold of that sum in a sandbox is worth. -/
noncomputable def Tryz.pinned : Pinned := { name := "ytembiemaiacdfaagreat", sum := "18a0cd9b66fa589b44dd4f216d9a0bbc093e0bee38c6369633aaef756ee0d179", checked := Tryz.checked }
namespace Rows
def none {H : Type} : Left H := { results := [], args := [] }

/-- 'winnowerlaw35.PlanAgain': WHATEVER THE INPUT: true; the input reads as it did. -/
def planAgainSpec : ChangeSpec := { name := "planAgain", fn := fun _ => fun
  | [d1, d2, d3] => { results := [.lit (.bool true)], args := [d1, d2, d3] }
  | _ => none }
def planAgainRow : OpenClaim := { program := "ytembiemaiacdfaagreat", sum := "18a0cd9b66fa589b44dd4f216d9a0bbc093e0bee38c6369633aaef756ee0d179", func := "winnower/winnowerlaw35.PlanAgain", spec := "planAgain", unfollowed := true, recurses := true, apart := false }
def PlanAgainSaid : Prop := planAgainRow.holds Tryz.pinned (OpenSpec.ofChange planAgainSpec)

/-- ITS FALSE NEIGHBOUR: 'it returns false'. Refute it at one input. -/
def planAgainWrong : ChangeSpec := { name := "planAgain", fn := fun _ => fun
  | [d1, d2, d3] => { results := [.lit (.bool false)], args := [d1, d2, d3] }
  | _ => none }
def PlanAgainWrongFalsely : Prop := planAgainRow.holds Tryz.pinned (OpenSpec.ofChange planAgainWrong)

/-- 'winnowerlaw35.PlanSends': WHATEVER THE INPUT: true; the input reads as it did. -/
def planSendsSpec : ChangeSpec := { name := "planSends", fn := fun _ => fun
  | [d1, d2] => { results := [.lit (.bool true)], args := [d1, d2] }
  | _ => none }
def planSendsRow : OpenClaim := { program := "ytembiemaiacdfaagreat", sum := "18a0cd9b66fa589b44dd4f216d9a0bbc093e0bee38c6369633aaef756ee0d179", func := "winnower/winnowerlaw35.PlanSends", spec := "planSends", unfollowed := true, recurses := true, apart := false }
def PlanSendsSaid : Prop := planSendsRow.holds Tryz.pinned (OpenSpec.ofChange planSendsSpec)

/-- ITS FALSE NEIGHBOUR: 'it returns false'. Refute it at one input. -/
def planSendsWrong : ChangeSpec := { name := "planSends", fn := fun _ => fun
  | [d1, d2] => { results := [.lit (.bool false)], args := [d1, d2] }
  | _ => none }
def PlanSendsWrongFalsely : Prop := planSendsRow.holds Tryz.pinned (OpenSpec.ofChange planSendsWrong)

/-- 'winnowerlaw35.PlanMakes': WHATEVER THE INPUT: true; the input reads as it did. -/
def planMakesSpec : ChangeSpec := { name := "planMakes", fn := fun _ => fun
  | [d1, d2] => { results := [.lit (.bool true)], args := [d1, d2] }
  | _ => none }
def planMakesRow : OpenClaim := { program := "ytembiemaiacdfaagreat", sum := "18a0cd9b66fa589b44dd4f216d9a0bbc093e0bee38c6369633aaef756ee0d179", func := "winnower/winnowerlaw35.PlanMakes", spec := "planMakes", unfollowed := true, recurses := true, apart := false }
def PlanMakesSaid : Prop := planMakesRow.holds Tryz.pinned (OpenSpec.ofChange planMakesSpec)

/-- ITS FALSE NEIGHBOUR: 'it returns false'. Refute it at one input. -/
def planMakesWrong : ChangeSpec := { name := "planMakes", fn := fun _ => fun
  | [d1, d2] => { results := [.lit (.bool false)], args := [d1, d2] }
  | _ => none }
def PlanMakesWrongFalsely : Prop := planMakesRow.holds Tryz.pinned (OpenSpec.ofChange planMakesWrong)

/-- 'winnowerlaw35.PlanSyncs': WHATEVER THE INPUT: true; the input reads as it did. -/
def planSyncsSpec : ChangeSpec := { name := "planSyncs", fn := fun _ => fun
  | [d1, d2, d3] => { results := [.lit (.bool true)], args := [d1, d2, d3] }
  | _ => none }
def planSyncsRow : OpenClaim := { program := "ytembiemaiacdfaagreat", sum := "18a0cd9b66fa589b44dd4f216d9a0bbc093e0bee38c6369633aaef756ee0d179", func := "winnower/winnowerlaw35.PlanSyncs", spec := "planSyncs", unfollowed := true, recurses := true, apart := false }
def PlanSyncsSaid : Prop := planSyncsRow.holds Tryz.pinned (OpenSpec.ofChange planSyncsSpec)

/-- ITS FALSE NEIGHBOUR: 'it returns false'. Refute it at one input. -/
def planSyncsWrong : ChangeSpec := { name := "planSyncs", fn := fun _ => fun
  | [d1, d2, d3] => { results := [.lit (.bool false)], args := [d1, d2, d3] }
  | _ => none }
def PlanSyncsWrongFalsely : Prop := planSyncsRow.holds Tryz.pinned (OpenSpec.ofChange planSyncsWrong)

/- THE SECOND FORM. 'bulk': how many values and letters a reading holds, each counted each time it is reached (what is shared counts as often as it is met; a slice's spare places count too). A statement '..UptoSaid' is the law's where the arguments, and the package variables that the reading takes, are together of bulk at most 1048576: NARROWER than '..Said'. Prove '..Said' where nothing that the law and all that it calls make is longer than what came in: it says more and counts as full. Else prove '..UptoSaid'. A law counts once. -/
mutual
def uptoBulk {H : Type} : DataW H → Nat
  | .lit (.string bytes) => bytes.length + 1
  | .lit _ => 1
  | .nil => 1
  | .ptr d => uptoBulk d + 1
  | .slice elems spare => uptoBulkAll elems + uptoBulkAll spare + 1
  | .agg parts => uptoBulkAll parts + 1
  | .iface _ d => uptoBulk d + 1
  | .map entries => uptoBulkEntries entries + 1
  | .held _ => 1
def uptoBulkAll {H : Type} : List (DataW H) → Nat
  | [] => 0
  | d :: r => uptoBulk d + uptoBulkAll r
def uptoBulkEntries {H : Type} : List (Lit × DataW H) → Nat
  | [] => 0
  | x :: r => uptoBulkEntry x + uptoBulkEntries r
def uptoBulkEntry {H : Type} : Lit × DataW H → Nat
  | (.string bytes, d) => bytes.length + uptoBulk d + 1
  | (_, d) => uptoBulk d + 1
 end
def uptoSmall : (H : Type) → List (DataW H) → Bool := fun _ ds => decide (uptoBulkAll ds ≤ 1048576)
def OpenSpec.upto (s : _root_.Go.ChangeSpec) : _root_.Go.OpenSpec := { _root_.Go.OpenSpec.ofChange s with cond := some uptoSmall }

/-- 'winnowerlaw35.PlanAgain', WHERE WHAT IT READS IS OF BULK AT MOST 1048576: true; the input reads as it did. -/
def planAgainUptoRow : OpenClaim := { program := "ytembiemaiacdfaagreat", sum := "18a0cd9b66fa589b44dd4f216d9a0bbc093e0bee38c6369633aaef756ee0d179", func := "winnower/winnowerlaw35.PlanAgain", spec := "planAgain", unfollowed := true, recurses := true, apart := false, narrowed := true }
def PlanAgainUptoSaid : Prop := planAgainUptoRow.holds Tryz.pinned (OpenSpec.upto planAgainSpec)

/-- 'winnowerlaw35.PlanSends', WHERE WHAT IT READS IS OF BULK AT MOST 1048576: true; the input reads as it did. -/
def planSendsUptoRow : OpenClaim := { program := "ytembiemaiacdfaagreat", sum := "18a0cd9b66fa589b44dd4f216d9a0bbc093e0bee38c6369633aaef756ee0d179", func := "winnower/winnowerlaw35.PlanSends", spec := "planSends", unfollowed := true, recurses := true, apart := false, narrowed := true }
def PlanSendsUptoSaid : Prop := planSendsUptoRow.holds Tryz.pinned (OpenSpec.upto planSendsSpec)

/-- 'winnowerlaw35.PlanMakes', WHERE WHAT IT READS IS OF BULK AT MOST 1048576: true; the input reads as it did. -/
def planMakesUptoRow : OpenClaim := { program := "ytembiemaiacdfaagreat", sum := "18a0cd9b66fa589b44dd4f216d9a0bbc093e0bee38c6369633aaef756ee0d179", func := "winnower/winnowerlaw35.PlanMakes", spec := "planMakes", unfollowed := true, recurses := true, apart := false, narrowed := true }
def PlanMakesUptoSaid : Prop := planMakesUptoRow.holds Tryz.pinned (OpenSpec.upto planMakesSpec)

/-- 'winnowerlaw35.PlanSyncs', WHERE WHAT IT READS IS OF BULK AT MOST 1048576: true; the input reads as it did. -/
def planSyncsUptoRow : OpenClaim := { program := "ytembiemaiacdfaagreat", sum := "18a0cd9b66fa589b44dd4f216d9a0bbc093e0bee38c6369633aaef756ee0d179", func := "winnower/winnowerlaw35.PlanSyncs", spec := "planSyncs", unfollowed := true, recurses := true, apart := false, narrowed := true }
def PlanSyncsUptoSaid : Prop := planSyncsUptoRow.holds Tryz.pinned (OpenSpec.upto planSyncsSpec)

end Rows
end Go.Proofs.YtembiemaiacdfaaGreat
