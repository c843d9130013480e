/-
  No cell of these rows narrows 'for every input' (looked for: loops, veiled, ifaces, maps, wideKeys, modest, calm, conditions, laid).
  DERIVED. THE GIVEN ROWS OF THIS SEAT. 9 by the template 'for every input the law returns true; each argument reads behind the call as it read before'; 0 by the template 'total and deterministic' (their statements: YtbpmafpmlapekaaTotals.lean).
  GIVEN WITH THE SEED: the statements are not yours to turn. If you find one false, say at which input.
  Laid BY PROGRAM, IN A SANDBOX (cutbox-rows.mjs): the forced cells as the released guide's own fill.sh prints them over the translation 11aeaf74bc758514… (all of the seat's roots in one cut). By AI agents, Wed Nov 11 2026. No macro, syntax, notation, axiom, sorry.
-/
import Derived.Test.YtbpmafpmlapekaaChecked
import GoSem.Claim
import GoSem.ClaimJoined
import GoSem.ClaimMapViews
import Derived.JoinedTies
import Derived.KernelRfl
namespace Go.Proofs.Ytbpmafpmlapekaa
/- THE CELL 'sum', in the pinned program and in every row, IS THE sha256 OF THE DUMP (.gsa) THAT YtbpmafpmlapekaaProg.lean LOADS. Nothing in Lean hashes anything: it is a label: what it is worth is what the hold of that sum in a sandbox is worth. -/
noncomputable def Try.pinned : Pinned := { name := "ytbpmafpmlapekaa", sum := "11aeaf74bc758514f02f506cfb1b4853c509fbe37a0e5f6731229b77347ac074", checked := Try.checked }
namespace Rows
def none {H : Type} : Left H := { results := [], args := [] }

/-- 'winnowerlaw31.BloomHas': WHATEVER THE INPUT: true; the input reads as it did. -/
def bloomHasSpec : ChangeSpec := { name := "bloomHas", fn := fun _ => fun
  | [d1, d2, d3] => { results := [.lit (.bool true)], args := [d1, d2, d3] }
  | _ => none }
def bloomHasRow : OpenClaim := { program := "ytbpmafpmlapekaa", sum := "11aeaf74bc758514f02f506cfb1b4853c509fbe37a0e5f6731229b77347ac074", func := "winnower/winnowerlaw31.BloomHas", spec := "bloomHas", recurses := true, apart := false }
def BloomHasSaid : Prop := bloomHasRow.holds Try.pinned (OpenSpec.ofChange bloomHasSpec)

/-- ITS FALSE NEIGHBOUR: 'it returns false'. Refute it at one input. -/
def bloomHasWrong : ChangeSpec := { name := "bloomHas", fn := fun _ => fun
  | [d1, d2, d3] => { results := [.lit (.bool false)], args := [d1, d2, d3] }
  | _ => none }
def BloomHasWrongFalsely : Prop := bloomHasRow.holds Try.pinned (OpenSpec.ofChange bloomHasWrong)

/-- 'winnowerlaw31.BloomReads': WHATEVER THE INPUT: true; the input reads as it did. -/
def bloomReadsSpec : ChangeSpec := { name := "bloomReads", fn := fun _ => fun
  | [d1, d2, d3] => { results := [.lit (.bool true)], args := [d1, d2, d3] }
  | _ => none }
def bloomReadsRow : OpenClaim := { program := "ytbpmafpmlapekaa", sum := "11aeaf74bc758514f02f506cfb1b4853c509fbe37a0e5f6731229b77347ac074", func := "winnower/winnowerlaw31.BloomReads", spec := "bloomReads", recurses := true, apart := false }
def BloomReadsSaid : Prop := bloomReadsRow.holds Try.pinned (OpenSpec.ofChange bloomReadsSpec)

/-- ITS FALSE NEIGHBOUR: 'it returns false'. Refute it at one input. -/
def bloomReadsWrong : ChangeSpec := { name := "bloomReads", fn := fun _ => fun
  | [d1, d2, d3] => { results := [.lit (.bool false)], args := [d1, d2, d3] }
  | _ => none }
def BloomReadsWrongFalsely : Prop := bloomReadsRow.holds Try.pinned (OpenSpec.ofChange bloomReadsWrong)

/-- 'winnowerlaw18.ItemMerges': WHATEVER THE INPUT: true; the input reads as it did. -/
def itemMergesSpec : ChangeSpec := { name := "itemMerges", fn := fun _ => fun
  | [d1, d2, d3] => { results := [.lit (.bool true)], args := [d1, d2, d3] }
  | _ => none }
def itemMergesRow : OpenClaim := { program := "ytbpmafpmlapekaa", sum := "11aeaf74bc758514f02f506cfb1b4853c509fbe37a0e5f6731229b77347ac074", func := "winnower/winnowerlaw18.ItemMerges", spec := "itemMerges", unfollowed := true, recurses := true, apart := false }
def ItemMergesSaid : Prop := itemMergesRow.holds Try.pinned (OpenSpec.ofChange itemMergesSpec)

/-- ITS FALSE NEIGHBOUR: 'it returns false'. Refute it at one input. -/
def itemMergesWrong : ChangeSpec := { name := "itemMerges", fn := fun _ => fun
  | [d1, d2, d3] => { results := [.lit (.bool false)], args := [d1, d2, d3] }
  | _ => none }
def ItemMergesWrongFalsely : Prop := itemMergesRow.holds Try.pinned (OpenSpec.ofChange itemMergesWrong)

/-- 'winnowerlaw33.OrderLikely': WHATEVER THE INPUT: true; the input reads as it did. -/
def orderLikelySpec : ChangeSpec := { name := "orderLikely", fn := fun _ => fun
  | [d1, d2] => { results := [.lit (.bool true)], args := [d1, d2] }
  | _ => none }
def orderLikelyRow : OpenClaim := { program := "ytbpmafpmlapekaa", sum := "11aeaf74bc758514f02f506cfb1b4853c509fbe37a0e5f6731229b77347ac074", func := "winnower/winnowerlaw33.OrderLikely", spec := "orderLikely", unfollowed := true, recurses := true, apart := false }
def OrderLikelySaid : Prop := orderLikelyRow.holds Try.pinned (OpenSpec.ofChange orderLikelySpec)

/-- ITS FALSE NEIGHBOUR: 'it returns false'. Refute it at one input. -/
def orderLikelyWrong : ChangeSpec := { name := "orderLikely", fn := fun _ => fun
  | [d1, d2] => { results := [.lit (.bool false)], args := [d1, d2] }
  | _ => none }
def OrderLikelyWrongFalsely : Prop := orderLikelyRow.holds Try.pinned (OpenSpec.ofChange orderLikelyWrong)

/-- 'winnowerlaw16.KcodeSets': WHATEVER THE INPUT: true; the input reads as it did. -/
def kcodeSetsSpec : ChangeSpec := { name := "kcodeSets", fn := fun _ => fun
  | [d] => { results := [.lit (.bool true)], args := [d] }
  | _ => none }
def kcodeSetsRow : OpenClaim := { program := "ytbpmafpmlapekaa", sum := "11aeaf74bc758514f02f506cfb1b4853c509fbe37a0e5f6731229b77347ac074", func := "winnower/winnowerlaw16.KcodeSets", spec := "kcodeSets", unfollowed := true, recurses := true, apart := false }
def KcodeSetsSaid : Prop := kcodeSetsRow.holds Try.pinned (OpenSpec.ofChange kcodeSetsSpec)

/-- ITS FALSE NEIGHBOUR: 'it returns false'. Refute it at one input. -/
def kcodeSetsWrong : ChangeSpec := { name := "kcodeSets", fn := fun _ => fun
  | [d] => { results := [.lit (.bool false)], args := [d] }
  | _ => none }
def KcodeSetsWrongFalsely : Prop := kcodeSetsRow.holds Try.pinned (OpenSpec.ofChange kcodeSetsWrong)

/-- 'winnowerlaw16.KcodeKnow': WHATEVER THE INPUT: true; the input reads as it did. -/
def kcodeKnowSpec : ChangeSpec := { name := "kcodeKnow", fn := fun _ => fun
  | [d] => { results := [.lit (.bool true)], args := [d] }
  | _ => none }
def kcodeKnowRow : OpenClaim := { program := "ytbpmafpmlapekaa", sum := "11aeaf74bc758514f02f506cfb1b4853c509fbe37a0e5f6731229b77347ac074", func := "winnower/winnowerlaw16.KcodeKnow", spec := "kcodeKnow", unfollowed := true, recurses := true, apart := false }
def KcodeKnowSaid : Prop := kcodeKnowRow.holds Try.pinned (OpenSpec.ofChange kcodeKnowSpec)

/-- ITS FALSE NEIGHBOUR: 'it returns false'. Refute it at one input. -/
def kcodeKnowWrong : ChangeSpec := { name := "kcodeKnow", fn := fun _ => fun
  | [d] => { results := [.lit (.bool false)], args := [d] }
  | _ => none }
def KcodeKnowWrongFalsely : Prop := kcodeKnowRow.holds Try.pinned (OpenSpec.ofChange kcodeKnowWrong)

/-- 'winnowerlaw16.KcodeReads': WHATEVER THE INPUT: true; the input reads as it did. -/
def kcodeReadsSpec : ChangeSpec := { name := "kcodeReads", fn := fun _ => fun
  | [d] => { results := [.lit (.bool true)], args := [d] }
  | _ => none }
def kcodeReadsRow : OpenClaim := { program := "ytbpmafpmlapekaa", sum := "11aeaf74bc758514f02f506cfb1b4853c509fbe37a0e5f6731229b77347ac074", func := "winnower/winnowerlaw16.KcodeReads", spec := "kcodeReads", unfollowed := true, recurses := true, apart := false }
def KcodeReadsSaid : Prop := kcodeReadsRow.holds Try.pinned (OpenSpec.ofChange kcodeReadsSpec)

/-- ITS FALSE NEIGHBOUR: 'it returns false'. Refute it at one input. -/
def kcodeReadsWrong : ChangeSpec := { name := "kcodeReads", fn := fun _ => fun
  | [d] => { results := [.lit (.bool false)], args := [d] }
  | _ => none }
def KcodeReadsWrongFalsely : Prop := kcodeReadsRow.holds Try.pinned (OpenSpec.ofChange kcodeReadsWrong)

/-- 'winnowerlaw33.OrderSorts': WHATEVER THE INPUT: true; the input reads as it did. -/
def orderSortsSpec : ChangeSpec := { name := "orderSorts", fn := fun _ => fun
  | [d1, d2, d3] => { results := [.lit (.bool true)], args := [d1, d2, d3] }
  | _ => none }
def orderSortsRow : OpenClaim := { program := "ytbpmafpmlapekaa", sum := "11aeaf74bc758514f02f506cfb1b4853c509fbe37a0e5f6731229b77347ac074", func := "winnower/winnowerlaw33.OrderSorts", spec := "orderSorts", unfollowed := true, recurses := true, apart := false }
def OrderSortsSaid : Prop := orderSortsRow.holds Try.pinned (OpenSpec.ofChange orderSortsSpec)

/-- ITS FALSE NEIGHBOUR: 'it returns false'. Refute it at one input. -/
def orderSortsWrong : ChangeSpec := { name := "orderSorts", fn := fun _ => fun
  | [d1, d2, d3] => { results := [.lit (.bool false)], args := [d1, d2, d3] }
  | _ => none }
def OrderSortsWrongFalsely : Prop := orderSortsRow.holds Try.pinned (OpenSpec.ofChange orderSortsWrong)

/-- 'winnowerlaw33.OrderKeeps': WHATEVER THE INPUT: true; the input reads as it did. -/
def orderKeepsSpec : ChangeSpec := { name := "orderKeeps", fn := fun _ => fun
  | [d1, d2, d3] => { results := [.lit (.bool true)], args := [d1, d2, d3] }
  | _ => none }
def orderKeepsRow : OpenClaim := { program := "ytbpmafpmlapekaa", sum := "11aeaf74bc758514f02f506cfb1b4853c509fbe37a0e5f6731229b77347ac074", func := "winnower/winnowerlaw33.OrderKeeps", spec := "orderKeeps", unfollowed := true, recurses := true, apart := false }
def OrderKeepsSaid : Prop := orderKeepsRow.holds Try.pinned (OpenSpec.ofChange orderKeepsSpec)

/-- ITS FALSE NEIGHBOUR: 'it returns false'. Refute it at one input. -/
def orderKeepsWrong : ChangeSpec := { name := "orderKeeps", fn := fun _ => fun
  | [d1, d2, d3] => { results := [.lit (.bool false)], args := [d1, d2, d3] }
  | _ => none }
def OrderKeepsWrongFalsely : Prop := orderKeepsRow.holds Try.pinned (OpenSpec.ofChange orderKeepsWrong)

/- THE SECOND FORM. 'bulk': how many values and letters a reading holds, each counted each time it is reached (what is shared counts as often as it is met; a slice's spare places count too). A statement '..UptoSaid' is the law's where the arguments, and the package variables that the reading takes, are together of bulk at most 1048576: NARROWER than '..Said'. Prove '..Said' where nothing that the law and all that it calls make is longer than what came in: it says more and counts as full. Else prove '..UptoSaid'. A law counts once. -/
mutual
def uptoBulk {H : Type} : DataW H → Nat
  | .lit (.string bytes) => bytes.length + 1
  | .lit _ => 1
  | .nil => 1
  | .ptr d => uptoBulk d + 1
  | .slice elems spare => uptoBulkAll elems + uptoBulkAll spare + 1
  | .agg parts => uptoBulkAll parts + 1
  | .iface _ d => uptoBulk d + 1
  | .map entries => uptoBulkEntries entries + 1
  | .held _ => 1
def uptoBulkAll {H : Type} : List (DataW H) → Nat
  | [] => 0
  | d :: r => uptoBulk d + uptoBulkAll r
def uptoBulkEntries {H : Type} : List (Lit × DataW H) → Nat
  | [] => 0
  | x :: r => uptoBulkEntry x + uptoBulkEntries r
def uptoBulkEntry {H : Type} : Lit × DataW H → Nat
  | (.string bytes, d) => bytes.length + uptoBulk d + 1
  | (_, d) => uptoBulk d + 1
 end
def uptoSmall : (H : Type) → List (DataW H) → Bool := fun _ ds => decide (uptoBulkAll ds ≤ 1048576)
def OpenSpec.upto (s : _root_.Go.ChangeSpec) : _root_.Go.OpenSpec := { _root_.Go.OpenSpec.ofChange s with cond := some uptoSmall }

/-- 'winnowerlaw31.BloomHas', WHERE WHAT IT READS IS OF BULK AT MOST 1048576: true; the input reads as it did. -/
def bloomHasUptoRow : OpenClaim := { program := "ytbpmafpmlapekaa", sum := "11aeaf74bc758514f02f506cfb1b4853c509fbe37a0e5f6731229b77347ac074", func := "winnower/winnowerlaw31.BloomHas", spec := "bloomHas", recurses := true, apart := false, narrowed := true }
def BloomHasUptoSaid : Prop := bloomHasUptoRow.holds Try.pinned (OpenSpec.upto bloomHasSpec)

/-- 'winnowerlaw31.BloomReads', WHERE WHAT IT READS IS OF BULK AT MOST 1048576: true; the input reads as it did. -/
def bloomReadsUptoRow : OpenClaim := { program := "ytbpmafpmlapekaa", sum := "11aeaf74bc758514f02f506cfb1b4853c509fbe37a0e5f6731229b77347ac074", func := "winnower/winnowerlaw31.BloomReads", spec := "bloomReads", recurses := true, apart := false, narrowed := true }
def BloomReadsUptoSaid : Prop := bloomReadsUptoRow.holds Try.pinned (OpenSpec.upto bloomReadsSpec)

/-- 'winnowerlaw18.ItemMerges', WHERE WHAT IT READS IS OF BULK AT MOST 1048576: true; the input reads as it did. -/
def itemMergesUptoRow : OpenClaim := { program := "ytbpmafpmlapekaa", sum := "11aeaf74bc758514f02f506cfb1b4853c509fbe37a0e5f6731229b77347ac074", func := "winnower/winnowerlaw18.ItemMerges", spec := "itemMerges", unfollowed := true, recurses := true, apart := false, narrowed := true }
def ItemMergesUptoSaid : Prop := itemMergesUptoRow.holds Try.pinned (OpenSpec.upto itemMergesSpec)

/-- 'winnowerlaw33.OrderLikely', WHERE WHAT IT READS IS OF BULK AT MOST 1048576: true; the input reads as it did. -/
def orderLikelyUptoRow : OpenClaim := { program := "ytbpmafpmlapekaa", sum := "11aeaf74bc758514f02f506cfb1b4853c509fbe37a0e5f6731229b77347ac074", func := "winnower/winnowerlaw33.OrderLikely", spec := "orderLikely", unfollowed := true, recurses := true, apart := false, narrowed := true }
def OrderLikelyUptoSaid : Prop := orderLikelyUptoRow.holds Try.pinned (OpenSpec.upto orderLikelySpec)

/-- 'winnowerlaw16.KcodeSets', WHERE WHAT IT READS IS OF BULK AT MOST 1048576: true; the input reads as it did. -/
def kcodeSetsUptoRow : OpenClaim := { program := "ytbpmafpmlapekaa", sum := "11aeaf74bc758514f02f506cfb1b4853c509fbe37a0e5f6731229b77347ac074", func := "winnower/winnowerlaw16.KcodeSets", spec := "kcodeSets", unfollowed := true, recurses := true, apart := false, narrowed := true }
def KcodeSetsUptoSaid : Prop := kcodeSetsUptoRow.holds Try.pinned (OpenSpec.upto kcodeSetsSpec)

/-- 'winnowerlaw16.KcodeKnow', WHERE WHAT IT READS IS OF BULK AT MOST 1048576: true; the input reads as it did. -/
def kcodeKnowUptoRow : OpenClaim := { program := "ytbpmafpmlapekaa", sum := "11aeaf74bc758514f02f506cfb1b4853c509fbe37a0e5f6731229b77347ac074", func := "winnower/winnowerlaw16.KcodeKnow", spec := "kcodeKnow", unfollowed := true, recurses := true, apart := false, narrowed := true }
def KcodeKnowUptoSaid : Prop := kcodeKnowUptoRow.holds Try.pinned (OpenSpec.upto kcodeKnowSpec)

/-- 'winnowerlaw16.KcodeReads', WHERE WHAT IT READS IS OF BULK AT MOST 1048576: true; the input reads as it did. -/
def kcodeReadsUptoRow : OpenClaim := { program := "ytbpmafpmlapekaa", sum := "11aeaf74bc758514f02f506cfb1b4853c509fbe37a0e5f6731229b77347ac074", func := "winnower/winnowerlaw16.KcodeReads", spec := "kcodeReads", unfollowed := true, recurses := true, apart := false, narrowed := true }
def KcodeReadsUptoSaid : Prop := kcodeReadsUptoRow.holds Try.pinned (OpenSpec.upto kcodeReadsSpec)

/-- 'winnowerlaw33.OrderSorts', WHERE WHAT IT READS IS OF BULK AT MOST 1048576: true; the input reads as it did. -/
def orderSortsUptoRow : OpenClaim := { program := "ytbpmafpmlapekaa", sum := "11aeaf74bc758514f02f506cfb1b4853c509fbe37a0e5f6731229b77347ac074", func := "winnower/winnowerlaw33.OrderSorts", spec := "orderSorts", unfollowed := true, recurses := true, apart := false, narrowed := true }
def OrderSortsUptoSaid : Prop := orderSortsUptoRow.holds Try.pinned (OpenSpec.upto orderSortsSpec)

/-- 'winnowerlaw33.OrderKeeps', WHERE WHAT IT READS IS OF BULK AT MOST 1048576: true; the input reads as it did. -/
def orderKeepsUptoRow : OpenClaim := { program := "ytbpmafpmlapekaa", sum := "11aeaf74bc758514f02f506cfb1b4853c509fbe37a0e5f6731229b77347ac074", func := "winnower/winnowerlaw33.OrderKeeps", spec := "orderKeeps", unfollowed := true, recurses := true, apart := false, narrowed := true }
def OrderKeepsUptoSaid : Prop := orderKeepsUptoRow.holds Try.pinned (OpenSpec.upto orderKeepsSpec)

end Rows
end Go.Proofs.Ytbpmafpmlapekaa
