/-
  No cell of these rows narrows 'for every input' (looked for: loops, veiled, ifaces, maps, wideKeys, modest, calm, conditions, laid).
  DERIVED. THE GIVEN ROWS OF THIS SEAT. 12 by the template 'for every input the law returns true; each argument reads behind the call as it read before'; 0 by the template 'total and deterministic' (their statements: YtnpognmpgddncaaTotals.lean).
  GIVEN WITH THE SEED: the statements are not yours to turn. If you find one false, say at which input.
  Laid BY PROGRAM, IN A SANDBOX (cutbox-rows.mjs): the forced cells as the released guide's own fill.sh prints them over the translation 2f52f9f881ff902c… (all of the seat's roots in one cut). By AI agents, Wed Nov 11 2026. No macro, syntax, notation, axiom, sorry.
-/
import Derived.Test.YtnpognmpgddncaaChecked
import GoSem.Claim
import GoSem.ClaimJoined
import GoSem.ClaimMapViews
import Derived.JoinedTies
import Derived.KernelRfl
namespace Go.Proofs.Ytnpognmpgddncaa
/- THE CELL 'sum', in the pinned program and in every row, IS THE sha256 OF THE DUMP (.gsa) THAT YtnpognmpgddncaaProg.lean LOADS. Nothing in Lean hashes anything: it is a label: what it is worth is what the hold of that sum in a sandbox is worth. -/
noncomputable def Try.pinned : Pinned := { name := "ytnpognmpgddncaa", sum := "2f52f9f881ff902ce4dcd4358e838a3e2c107249a33092bec51cdf4e14207775", checked := Try.checked }
namespace Rows
def none {H : Type} : Left H := { results := [], args := [] }

/-- 'winnowerlaw19.IcodeItems': WHATEVER THE INPUT: true; the input reads as it did. -/
def icodeItemsSpec : ChangeSpec := { name := "icodeItems", fn := fun _ => fun
  | [d] => { results := [.lit (.bool true)], args := [d] }
  | _ => none }
def icodeItemsRow : OpenClaim := { program := "ytnpognmpgddncaa", sum := "2f52f9f881ff902ce4dcd4358e838a3e2c107249a33092bec51cdf4e14207775", func := "winnower/winnowerlaw19.IcodeItems", spec := "icodeItems", recurses := true, apart := false }
def IcodeItemsSaid : Prop := icodeItemsRow.holds Try.pinned (OpenSpec.ofChange icodeItemsSpec)

/-- ITS FALSE NEIGHBOUR: 'it returns false'. Refute it at one input. -/
def icodeItemsWrong : ChangeSpec := { name := "icodeItems", fn := fun _ => fun
  | [d] => { results := [.lit (.bool false)], args := [d] }
  | _ => none }
def IcodeItemsWrongFalsely : Prop := icodeItemsRow.holds Try.pinned (OpenSpec.ofChange icodeItemsWrong)

/-- 'winnowerlaw18.ItemWins': WHATEVER THE INPUT: true; the input reads as it did. -/
def itemWinsSpec : ChangeSpec := { name := "itemWins", fn := fun _ => fun
  | [d1, d2, d3] => { results := [.lit (.bool true)], args := [d1, d2, d3] }
  | _ => none }
def itemWinsRow : OpenClaim := { program := "ytnpognmpgddncaa", sum := "2f52f9f881ff902ce4dcd4358e838a3e2c107249a33092bec51cdf4e14207775", func := "winnower/winnowerlaw18.ItemWins", spec := "itemWins", unfollowed := true, recurses := true, apart := false }
def ItemWinsSaid : Prop := itemWinsRow.holds Try.pinned (OpenSpec.ofChange itemWinsSpec)

/-- ITS FALSE NEIGHBOUR: 'it returns false'. Refute it at one input. -/
def itemWinsWrong : ChangeSpec := { name := "itemWins", fn := fun _ => fun
  | [d1, d2, d3] => { results := [.lit (.bool false)], args := [d1, d2, d3] }
  | _ => none }
def ItemWinsWrongFalsely : Prop := itemWinsRow.holds Try.pinned (OpenSpec.ofChange itemWinsWrong)

/-- 'winnowerlaw18.ItemChain': WHATEVER THE INPUT: true; the input reads as it did. -/
def itemChainSpec : ChangeSpec := { name := "itemChain", fn := fun _ => fun
  | [d1, d2, d3] => { results := [.lit (.bool true)], args := [d1, d2, d3] }
  | _ => none }
def itemChainRow : OpenClaim := { program := "ytnpognmpgddncaa", sum := "2f52f9f881ff902ce4dcd4358e838a3e2c107249a33092bec51cdf4e14207775", func := "winnower/winnowerlaw18.ItemChain", spec := "itemChain", unfollowed := true, recurses := true, apart := false }
def ItemChainSaid : Prop := itemChainRow.holds Try.pinned (OpenSpec.ofChange itemChainSpec)

/-- ITS FALSE NEIGHBOUR: 'it returns false'. Refute it at one input. -/
def itemChainWrong : ChangeSpec := { name := "itemChain", fn := fun _ => fun
  | [d1, d2, d3] => { results := [.lit (.bool false)], args := [d1, d2, d3] }
  | _ => none }
def ItemChainWrongFalsely : Prop := itemChainRow.holds Try.pinned (OpenSpec.ofChange itemChainWrong)

/-- 'winnowerlaw19.IcodeReads': WHATEVER THE INPUT: true; the input reads as it did. -/
def icodeReadsSpec : ChangeSpec := { name := "icodeReads", fn := fun _ => fun
  | [d] => { results := [.lit (.bool true)], args := [d] }
  | _ => none }
def icodeReadsRow : OpenClaim := { program := "ytnpognmpgddncaa", sum := "2f52f9f881ff902ce4dcd4358e838a3e2c107249a33092bec51cdf4e14207775", func := "winnower/winnowerlaw19.IcodeReads", spec := "icodeReads", recurses := true, apart := false }
def IcodeReadsSaid : Prop := icodeReadsRow.holds Try.pinned (OpenSpec.ofChange icodeReadsSpec)

/-- ITS FALSE NEIGHBOUR: 'it returns false'. Refute it at one input. -/
def icodeReadsWrong : ChangeSpec := { name := "icodeReads", fn := fun _ => fun
  | [d] => { results := [.lit (.bool false)], args := [d] }
  | _ => none }
def IcodeReadsWrongFalsely : Prop := icodeReadsRow.holds Try.pinned (OpenSpec.ofChange icodeReadsWrong)

/-- 'winnowerlaw19.IcodeLists': WHATEVER THE INPUT: true; the input reads as it did. -/
def icodeListsSpec : ChangeSpec := { name := "icodeLists", fn := fun _ => fun
  | [d] => { results := [.lit (.bool true)], args := [d] }
  | _ => none }
def icodeListsRow : OpenClaim := { program := "ytnpognmpgddncaa", sum := "2f52f9f881ff902ce4dcd4358e838a3e2c107249a33092bec51cdf4e14207775", func := "winnower/winnowerlaw19.IcodeLists", spec := "icodeLists", recurses := true, apart := false }
def IcodeListsSaid : Prop := icodeListsRow.holds Try.pinned (OpenSpec.ofChange icodeListsSpec)

/-- ITS FALSE NEIGHBOUR: 'it returns false'. Refute it at one input. -/
def icodeListsWrong : ChangeSpec := { name := "icodeLists", fn := fun _ => fun
  | [d] => { results := [.lit (.bool false)], args := [d] }
  | _ => none }
def IcodeListsWrongFalsely : Prop := icodeListsRow.holds Try.pinned (OpenSpec.ofChange icodeListsWrong)

/-- 'winnowerlaw21.TreeOrder': WHATEVER THE INPUT: true; the input reads as it did. -/
def treeOrderSpec : ChangeSpec := { name := "treeOrder", fn := fun _ => fun
  | [d1, d2, d3] => { results := [.lit (.bool true)], args := [d1, d2, d3] }
  | _ => none }
def treeOrderRow : OpenClaim := { program := "ytnpognmpgddncaa", sum := "2f52f9f881ff902ce4dcd4358e838a3e2c107249a33092bec51cdf4e14207775", func := "winnower/winnowerlaw21.TreeOrder", spec := "treeOrder", unfollowed := true, recurses := true, apart := false }
def TreeOrderSaid : Prop := treeOrderRow.holds Try.pinned (OpenSpec.ofChange treeOrderSpec)

/-- ITS FALSE NEIGHBOUR: 'it returns false'. Refute it at one input. -/
def treeOrderWrong : ChangeSpec := { name := "treeOrder", fn := fun _ => fun
  | [d1, d2, d3] => { results := [.lit (.bool false)], args := [d1, d2, d3] }
  | _ => none }
def TreeOrderWrongFalsely : Prop := treeOrderRow.holds Try.pinned (OpenSpec.ofChange treeOrderWrong)

/-- 'winnowerlaw18.ItemFinds': WHATEVER THE INPUT: true; the input reads as it did. -/
def itemFindsSpec : ChangeSpec := { name := "itemFinds", fn := fun _ => fun
  | [d1, d2] => { results := [.lit (.bool true)], args := [d1, d2] }
  | _ => none }
def itemFindsRow : OpenClaim := { program := "ytnpognmpgddncaa", sum := "2f52f9f881ff902ce4dcd4358e838a3e2c107249a33092bec51cdf4e14207775", func := "winnower/winnowerlaw18.ItemFinds", spec := "itemFinds", unfollowed := true, recurses := true, apart := false }
def ItemFindsSaid : Prop := itemFindsRow.holds Try.pinned (OpenSpec.ofChange itemFindsSpec)

/-- ITS FALSE NEIGHBOUR: 'it returns false'. Refute it at one input. -/
def itemFindsWrong : ChangeSpec := { name := "itemFinds", fn := fun _ => fun
  | [d1, d2] => { results := [.lit (.bool false)], args := [d1, d2] }
  | _ => none }
def ItemFindsWrongFalsely : Prop := itemFindsRow.holds Try.pinned (OpenSpec.ofChange itemFindsWrong)

/-- 'winnowerlaw10.FcodeRanges': WHATEVER THE INPUT: true; the input reads as it did. -/
def fcodeRangesSpec : ChangeSpec := { name := "fcodeRanges", fn := fun _ => fun
  | [d] => { results := [.lit (.bool true)], args := [d] }
  | _ => none }
def fcodeRangesRow : OpenClaim := { program := "ytnpognmpgddncaa", sum := "2f52f9f881ff902ce4dcd4358e838a3e2c107249a33092bec51cdf4e14207775", func := "winnower/winnowerlaw10.FcodeRanges", spec := "fcodeRanges", unfollowed := true, recurses := true, apart := false }
def FcodeRangesSaid : Prop := fcodeRangesRow.holds Try.pinned (OpenSpec.ofChange fcodeRangesSpec)

/-- ITS FALSE NEIGHBOUR: 'it returns false'. Refute it at one input. -/
def fcodeRangesWrong : ChangeSpec := { name := "fcodeRanges", fn := fun _ => fun
  | [d] => { results := [.lit (.bool false)], args := [d] }
  | _ => none }
def FcodeRangesWrongFalsely : Prop := fcodeRangesRow.holds Try.pinned (OpenSpec.ofChange fcodeRangesWrong)

/-- 'winnowerlaw10.FcodeFilter': WHATEVER THE INPUT: true; the input reads as it did. -/
def fcodeFilterSpec : ChangeSpec := { name := "fcodeFilter", fn := fun _ => fun
  | [d] => { results := [.lit (.bool true)], args := [d] }
  | _ => none }
def fcodeFilterRow : OpenClaim := { program := "ytnpognmpgddncaa", sum := "2f52f9f881ff902ce4dcd4358e838a3e2c107249a33092bec51cdf4e14207775", func := "winnower/winnowerlaw10.FcodeFilter", spec := "fcodeFilter", unfollowed := true, recurses := true, apart := false }
def FcodeFilterSaid : Prop := fcodeFilterRow.holds Try.pinned (OpenSpec.ofChange fcodeFilterSpec)

/-- ITS FALSE NEIGHBOUR: 'it returns false'. Refute it at one input. -/
def fcodeFilterWrong : ChangeSpec := { name := "fcodeFilter", fn := fun _ => fun
  | [d] => { results := [.lit (.bool false)], args := [d] }
  | _ => none }
def FcodeFilterWrongFalsely : Prop := fcodeFilterRow.holds Try.pinned (OpenSpec.ofChange fcodeFilterWrong)

/-- 'winnowerlaw10.FcodeReads': WHATEVER THE INPUT: true; the input reads as it did. -/
def fcodeReadsSpec : ChangeSpec := { name := "fcodeReads", fn := fun _ => fun
  | [d] => { results := [.lit (.bool true)], args := [d] }
  | _ => none }
def fcodeReadsRow : OpenClaim := { program := "ytnpognmpgddncaa", sum := "2f52f9f881ff902ce4dcd4358e838a3e2c107249a33092bec51cdf4e14207775", func := "winnower/winnowerlaw10.FcodeReads", spec := "fcodeReads", unfollowed := true, recurses := true, apart := false }
def FcodeReadsSaid : Prop := fcodeReadsRow.holds Try.pinned (OpenSpec.ofChange fcodeReadsSpec)

/-- ITS FALSE NEIGHBOUR: 'it returns false'. Refute it at one input. -/
def fcodeReadsWrong : ChangeSpec := { name := "fcodeReads", fn := fun _ => fun
  | [d] => { results := [.lit (.bool false)], args := [d] }
  | _ => none }
def FcodeReadsWrongFalsely : Prop := fcodeReadsRow.holds Try.pinned (OpenSpec.ofChange fcodeReadsWrong)

/-- 'winnowerlaw21.TreeSums': WHATEVER THE INPUT: true; the input reads as it did. -/
def treeSumsSpec : ChangeSpec := { name := "treeSums", fn := fun _ => fun
  | [d1, d2, d3] => { results := [.lit (.bool true)], args := [d1, d2, d3] }
  | _ => none }
def treeSumsRow : OpenClaim := { program := "ytnpognmpgddncaa", sum := "2f52f9f881ff902ce4dcd4358e838a3e2c107249a33092bec51cdf4e14207775", func := "winnower/winnowerlaw21.TreeSums", spec := "treeSums", unfollowed := true, recurses := true, apart := false }
def TreeSumsSaid : Prop := treeSumsRow.holds Try.pinned (OpenSpec.ofChange treeSumsSpec)

/-- ITS FALSE NEIGHBOUR: 'it returns false'. Refute it at one input. -/
def treeSumsWrong : ChangeSpec := { name := "treeSums", fn := fun _ => fun
  | [d1, d2, d3] => { results := [.lit (.bool false)], args := [d1, d2, d3] }
  | _ => none }
def TreeSumsWrongFalsely : Prop := treeSumsRow.holds Try.pinned (OpenSpec.ofChange treeSumsWrong)

/-- 'winnowerlaw21.TreeDoes': WHATEVER THE INPUT: true; the input reads as it did. -/
def treeDoesSpec : ChangeSpec := { name := "treeDoes", fn := fun _ => fun
  | [d1, d2, d3] => { results := [.lit (.bool true)], args := [d1, d2, d3] }
  | _ => none }
def treeDoesRow : OpenClaim := { program := "ytnpognmpgddncaa", sum := "2f52f9f881ff902ce4dcd4358e838a3e2c107249a33092bec51cdf4e14207775", func := "winnower/winnowerlaw21.TreeDoes", spec := "treeDoes", unfollowed := true, recurses := true, apart := false }
def TreeDoesSaid : Prop := treeDoesRow.holds Try.pinned (OpenSpec.ofChange treeDoesSpec)

/-- ITS FALSE NEIGHBOUR: 'it returns false'. Refute it at one input. -/
def treeDoesWrong : ChangeSpec := { name := "treeDoes", fn := fun _ => fun
  | [d1, d2, d3] => { results := [.lit (.bool false)], args := [d1, d2, d3] }
  | _ => none }
def TreeDoesWrongFalsely : Prop := treeDoesRow.holds Try.pinned (OpenSpec.ofChange treeDoesWrong)

/- THE SECOND FORM. 'bulk': how many values and letters a reading holds, each counted each time it is reached (what is shared counts as often as it is met; a slice's spare places count too). A statement '..UptoSaid' is the law's where the arguments, and the package variables that the reading takes, are together of bulk at most 1048576: NARROWER than '..Said'. Prove '..Said' where nothing that the law and all that it calls make is longer than what came in: it says more and counts as full. Else prove '..UptoSaid'. A law counts once. -/
mutual
def uptoBulk {H : Type} : DataW H → Nat
  | .lit (.string bytes) => bytes.length + 1
  | .lit _ => 1
  | .nil => 1
  | .ptr d => uptoBulk d + 1
  | .slice elems spare => uptoBulkAll elems + uptoBulkAll spare + 1
  | .agg parts => uptoBulkAll parts + 1
  | .iface _ d => uptoBulk d + 1
  | .map entries => uptoBulkEntries entries + 1
  | .held _ => 1
def uptoBulkAll {H : Type} : List (DataW H) → Nat
  | [] => 0
  | d :: r => uptoBulk d + uptoBulkAll r
def uptoBulkEntries {H : Type} : List (Lit × DataW H) → Nat
  | [] => 0
  | x :: r => uptoBulkEntry x + uptoBulkEntries r
def uptoBulkEntry {H : Type} : Lit × DataW H → Nat
  | (.string bytes, d) => bytes.length + uptoBulk d + 1
  | (_, d) => uptoBulk d + 1
 end
def uptoSmall : (H : Type) → List (DataW H) → Bool := fun _ ds => decide (uptoBulkAll ds ≤ 1048576)
def OpenSpec.upto (s : _root_.Go.ChangeSpec) : _root_.Go.OpenSpec := { _root_.Go.OpenSpec.ofChange s with cond := some uptoSmall }

/-- 'winnowerlaw19.IcodeItems', WHERE WHAT IT READS IS OF BULK AT MOST 1048576: true; the input reads as it did. -/
def icodeItemsUptoRow : OpenClaim := { program := "ytnpognmpgddncaa", sum := "2f52f9f881ff902ce4dcd4358e838a3e2c107249a33092bec51cdf4e14207775", func := "winnower/winnowerlaw19.IcodeItems", spec := "icodeItems", recurses := true, apart := false, narrowed := true }
def IcodeItemsUptoSaid : Prop := icodeItemsUptoRow.holds Try.pinned (OpenSpec.upto icodeItemsSpec)

/-- 'winnowerlaw18.ItemWins', WHERE WHAT IT READS IS OF BULK AT MOST 1048576: true; the input reads as it did. -/
def itemWinsUptoRow : OpenClaim := { program := "ytnpognmpgddncaa", sum := "2f52f9f881ff902ce4dcd4358e838a3e2c107249a33092bec51cdf4e14207775", func := "winnower/winnowerlaw18.ItemWins", spec := "itemWins", unfollowed := true, recurses := true, apart := false, narrowed := true }
def ItemWinsUptoSaid : Prop := itemWinsUptoRow.holds Try.pinned (OpenSpec.upto itemWinsSpec)

/-- 'winnowerlaw18.ItemChain', WHERE WHAT IT READS IS OF BULK AT MOST 1048576: true; the input reads as it did. -/
def itemChainUptoRow : OpenClaim := { program := "ytnpognmpgddncaa", sum := "2f52f9f881ff902ce4dcd4358e838a3e2c107249a33092bec51cdf4e14207775", func := "winnower/winnowerlaw18.ItemChain", spec := "itemChain", unfollowed := true, recurses := true, apart := false, narrowed := true }
def ItemChainUptoSaid : Prop := itemChainUptoRow.holds Try.pinned (OpenSpec.upto itemChainSpec)

/-- 'winnowerlaw19.IcodeReads', WHERE WHAT IT READS IS OF BULK AT MOST 1048576: true; the input reads as it did. -/
def icodeReadsUptoRow : OpenClaim := { program := "ytnpognmpgddncaa", sum := "2f52f9f881ff902ce4dcd4358e838a3e2c107249a33092bec51cdf4e14207775", func := "winnower/winnowerlaw19.IcodeReads", spec := "icodeReads", recurses := true, apart := false, narrowed := true }
def IcodeReadsUptoSaid : Prop := icodeReadsUptoRow.holds Try.pinned (OpenSpec.upto icodeReadsSpec)

/-- 'winnowerlaw19.IcodeLists', WHERE WHAT IT READS IS OF BULK AT MOST 1048576: true; the input reads as it did. -/
def icodeListsUptoRow : OpenClaim := { program := "ytnpognmpgddncaa", sum := "2f52f9f881ff902ce4dcd4358e838a3e2c107249a33092bec51cdf4e14207775", func := "winnower/winnowerlaw19.IcodeLists", spec := "icodeLists", recurses := true, apart := false, narrowed := true }
def IcodeListsUptoSaid : Prop := icodeListsUptoRow.holds Try.pinned (OpenSpec.upto icodeListsSpec)

/-- 'winnowerlaw21.TreeOrder', WHERE WHAT IT READS IS OF BULK AT MOST 1048576: true; the input reads as it did. -/
def treeOrderUptoRow : OpenClaim := { program := "ytnpognmpgddncaa", sum := "2f52f9f881ff902ce4dcd4358e838a3e2c107249a33092bec51cdf4e14207775", func := "winnower/winnowerlaw21.TreeOrder", spec := "treeOrder", unfollowed := true, recurses := true, apart := false, narrowed := true }
def TreeOrderUptoSaid : Prop := treeOrderUptoRow.holds Try.pinned (OpenSpec.upto treeOrderSpec)

/-- 'winnowerlaw18.ItemFinds', WHERE WHAT IT READS IS OF BULK AT MOST 1048576: true; the input reads as it did. -/
def itemFindsUptoRow : OpenClaim := { program := "ytnpognmpgddncaa", sum := "2f52f9f881ff902ce4dcd4358e838a3e2c107249a33092bec51cdf4e14207775", func := "winnower/winnowerlaw18.ItemFinds", spec := "itemFinds", unfollowed := true, recurses := true, apart := false, narrowed := true }
def ItemFindsUptoSaid : Prop := itemFindsUptoRow.holds Try.pinned (OpenSpec.upto itemFindsSpec)

/-- 'winnowerlaw10.FcodeRanges', WHERE WHAT IT READS IS OF BULK AT MOST 1048576: true; the input reads as it did. -/
def fcodeRangesUptoRow : OpenClaim := { program := "ytnpognmpgddncaa", sum := "2f52f9f881ff902ce4dcd4358e838a3e2c107249a33092bec51cdf4e14207775", func := "winnower/winnowerlaw10.FcodeRanges", spec := "fcodeRanges", unfollowed := true, recurses := true, apart := false, narrowed := true }
def FcodeRangesUptoSaid : Prop := fcodeRangesUptoRow.holds Try.pinned (OpenSpec.upto fcodeRangesSpec)

/-- 'winnowerlaw10.FcodeFilter', WHERE WHAT IT READS IS OF BULK AT MOST 1048576: true; the input reads as it did. -/
def fcodeFilterUptoRow : OpenClaim := { program := "ytnpognmpgddncaa", sum := "2f52f9f881ff902ce4dcd4358e838a3e2c107249a33092bec51cdf4e14207775", func := "winnower/winnowerlaw10.FcodeFilter", spec := "fcodeFilter", unfollowed := true, recurses := true, apart := false, narrowed := true }
def FcodeFilterUptoSaid : Prop := fcodeFilterUptoRow.holds Try.pinned (OpenSpec.upto fcodeFilterSpec)

/-- 'winnowerlaw10.FcodeReads', WHERE WHAT IT READS IS OF BULK AT MOST 1048576: true; the input reads as it did. -/
def fcodeReadsUptoRow : OpenClaim := { program := "ytnpognmpgddncaa", sum := "2f52f9f881ff902ce4dcd4358e838a3e2c107249a33092bec51cdf4e14207775", func := "winnower/winnowerlaw10.FcodeReads", spec := "fcodeReads", unfollowed := true, recurses := true, apart := false, narrowed := true }
def FcodeReadsUptoSaid : Prop := fcodeReadsUptoRow.holds Try.pinned (OpenSpec.upto fcodeReadsSpec)

/-- 'winnowerlaw21.TreeSums', WHERE WHAT IT READS IS OF BULK AT MOST 1048576: true; the input reads as it did. -/
def treeSumsUptoRow : OpenClaim := { program := "ytnpognmpgddncaa", sum := "2f52f9f881ff902ce4dcd4358e838a3e2c107249a33092bec51cdf4e14207775", func := "winnower/winnowerlaw21.TreeSums", spec := "treeSums", unfollowed := true, recurses := true, apart := false, narrowed := true }
def TreeSumsUptoSaid : Prop := treeSumsUptoRow.holds Try.pinned (OpenSpec.upto treeSumsSpec)

/-- 'winnowerlaw21.TreeDoes', WHERE WHAT IT READS IS OF BULK AT MOST 1048576: true; the input reads as it did. -/
def treeDoesUptoRow : OpenClaim := { program := "ytnpognmpgddncaa", sum := "2f52f9f881ff902ce4dcd4358e838a3e2c107249a33092bec51cdf4e14207775", func := "winnower/winnowerlaw21.TreeDoes", spec := "treeDoes", unfollowed := true, recurses := true, apart := false, narrowed := true }
def TreeDoesUptoSaid : Prop := treeDoesUptoRow.holds Try.pinned (OpenSpec.upto treeDoesSpec)

end Rows
end Go.Proofs.Ytnpognmpgddncaa
