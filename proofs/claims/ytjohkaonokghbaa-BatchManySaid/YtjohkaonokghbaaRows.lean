/-
  No cell of these rows narrows 'for every input' (looked for: loops, veiled, ifaces, maps, wideKeys, modest, calm, conditions, laid).
  DERIVED. THE GIVEN ROWS OF THIS SEAT. 12 by the template 'for every input the law returns true; each argument reads behind the call as it read before'; 0 by the template 'total and deterministic' (their statements: YtjohkaonokghbaaTotals.lean).
  GIVEN WITH THE SEED: the statements are not yours to turn. If you find one false, say at which input.
  Laid BY PROGRAM, IN A SANDBOX (cutbox-rows.mjs): the forced cells as the released guide's own fill.sh prints them over the translation 136f30a756ce9d38… (all of the seat's roots in one cut). By AI agents, Wed Nov 11 2026. No macro, syntax, notation, axiom, sorry.
-/
import Derived.Test.YtjohkaonokghbaaChecked
import GoSem.Claim
import GoSem.ClaimJoined
import GoSem.ClaimMapViews
import Derived.JoinedTies
import Derived.KernelRfl
namespace Go.Proofs.Ytjohkaonokghbaa
/- THE CELL 'sum', in the pinned program and in every row, IS THE sha256 OF THE DUMP (.gsa) THAT YtjohkaonokghbaaProg.lean LOADS. Nothing in Lean hashes anything: it is a label: what it is worth is what the hold of that sum in a sandbox is worth. -/
noncomputable def Try.pinned : Pinned := { name := "ytjohkaonokghbaa", sum := "136f30a756ce9d38cdcde71fba2f6d764f29631bba9b078ccc4fea14a5c6793e", checked := Try.checked }
namespace Rows
def none {H : Type} : Left H := { results := [], args := [] }

/-- 'winnowerlaw20.HashParts': WHATEVER THE INPUT: true; the input reads as it did. -/
def hashPartsSpec : ChangeSpec := { name := "hashParts", fn := fun _ => fun
  | [d1, d2, d3] => { results := [.lit (.bool true)], args := [d1, d2, d3] }
  | _ => none }
def hashPartsRow : OpenClaim := { program := "ytjohkaonokghbaa", sum := "136f30a756ce9d38cdcde71fba2f6d764f29631bba9b078ccc4fea14a5c6793e", func := "winnower/winnowerlaw20.HashParts", spec := "hashParts", apart := false }
def HashPartsSaid : Prop := hashPartsRow.holds Try.pinned (OpenSpec.ofChange hashPartsSpec)

/-- ITS FALSE NEIGHBOUR: 'it returns false'. Refute it at one input. -/
def hashPartsWrong : ChangeSpec := { name := "hashParts", fn := fun _ => fun
  | [d1, d2, d3] => { results := [.lit (.bool false)], args := [d1, d2, d3] }
  | _ => none }
def HashPartsWrongFalsely : Prop := hashPartsRow.holds Try.pinned (OpenSpec.ofChange hashPartsWrong)

/-- 'winnowerlaw20.HashSums': WHATEVER THE INPUT: true; the input reads as it did. -/
def hashSumsSpec : ChangeSpec := { name := "hashSums", fn := fun _ => fun
  | [d1, d2, d3] => { results := [.lit (.bool true)], args := [d1, d2, d3] }
  | _ => none }
def hashSumsRow : OpenClaim := { program := "ytjohkaonokghbaa", sum := "136f30a756ce9d38cdcde71fba2f6d764f29631bba9b078ccc4fea14a5c6793e", func := "winnower/winnowerlaw20.HashSums", spec := "hashSums", recurses := true, apart := false }
def HashSumsSaid : Prop := hashSumsRow.holds Try.pinned (OpenSpec.ofChange hashSumsSpec)

/-- ITS FALSE NEIGHBOUR: 'it returns false'. Refute it at one input. -/
def hashSumsWrong : ChangeSpec := { name := "hashSums", fn := fun _ => fun
  | [d1, d2, d3] => { results := [.lit (.bool false)], args := [d1, d2, d3] }
  | _ => none }
def HashSumsWrongFalsely : Prop := hashSumsRow.holds Try.pinned (OpenSpec.ofChange hashSumsWrong)

/-- 'winnowerlaw02.VarintOnce': WHATEVER THE INPUT: true; the input reads as it did. -/
def varintOnceSpec : ChangeSpec := { name := "varintOnce", fn := fun _ => fun
  | [d] => { results := [.lit (.bool true)], args := [d] }
  | _ => none }
def varintOnceRow : OpenClaim := { program := "ytjohkaonokghbaa", sum := "136f30a756ce9d38cdcde71fba2f6d764f29631bba9b078ccc4fea14a5c6793e", func := "winnower/winnowerlaw02.VarintOnce", spec := "varintOnce", apart := false }
def VarintOnceSaid : Prop := varintOnceRow.holds Try.pinned (OpenSpec.ofChange varintOnceSpec)

/-- ITS FALSE NEIGHBOUR: 'it returns false'. Refute it at one input. -/
def varintOnceWrong : ChangeSpec := { name := "varintOnce", fn := fun _ => fun
  | [d] => { results := [.lit (.bool false)], args := [d] }
  | _ => none }
def VarintOnceWrongFalsely : Prop := varintOnceRow.holds Try.pinned (OpenSpec.ofChange varintOnceWrong)

/-- 'winnowerlaw31.BloomHas': WHATEVER THE INPUT: true; the input reads as it did. -/
def bloomHasSpec : ChangeSpec := { name := "bloomHas", fn := fun _ => fun
  | [d1, d2, d3] => { results := [.lit (.bool true)], args := [d1, d2, d3] }
  | _ => none }
def bloomHasRow : OpenClaim := { program := "ytjohkaonokghbaa", sum := "136f30a756ce9d38cdcde71fba2f6d764f29631bba9b078ccc4fea14a5c6793e", func := "winnower/winnowerlaw31.BloomHas", spec := "bloomHas", recurses := true, apart := false }
def BloomHasSaid : Prop := bloomHasRow.holds Try.pinned (OpenSpec.ofChange bloomHasSpec)

/-- ITS FALSE NEIGHBOUR: 'it returns false'. Refute it at one input. -/
def bloomHasWrong : ChangeSpec := { name := "bloomHas", fn := fun _ => fun
  | [d1, d2, d3] => { results := [.lit (.bool false)], args := [d1, d2, d3] }
  | _ => none }
def BloomHasWrongFalsely : Prop := bloomHasRow.holds Try.pinned (OpenSpec.ofChange bloomHasWrong)

/-- 'winnowerlaw31.BloomOrder': WHATEVER THE INPUT: true; the input reads as it did. -/
def bloomOrderSpec : ChangeSpec := { name := "bloomOrder", fn := fun _ => fun
  | [d1, d2, d3] => { results := [.lit (.bool true)], args := [d1, d2, d3] }
  | _ => none }
def bloomOrderRow : OpenClaim := { program := "ytjohkaonokghbaa", sum := "136f30a756ce9d38cdcde71fba2f6d764f29631bba9b078ccc4fea14a5c6793e", func := "winnower/winnowerlaw31.BloomOrder", spec := "bloomOrder", apart := false }
def BloomOrderSaid : Prop := bloomOrderRow.holds Try.pinned (OpenSpec.ofChange bloomOrderSpec)

/-- ITS FALSE NEIGHBOUR: 'it returns false'. Refute it at one input. -/
def bloomOrderWrong : ChangeSpec := { name := "bloomOrder", fn := fun _ => fun
  | [d1, d2, d3] => { results := [.lit (.bool false)], args := [d1, d2, d3] }
  | _ => none }
def BloomOrderWrongFalsely : Prop := bloomOrderRow.holds Try.pinned (OpenSpec.ofChange bloomOrderWrong)

/-- 'winnowerlaw34.BatchSplits': WHATEVER THE INPUT: true; the input reads as it did. -/
def batchSplitsSpec : ChangeSpec := { name := "batchSplits", fn := fun _ => fun
  | [d1, d2] => { results := [.lit (.bool true)], args := [d1, d2] }
  | _ => none }
def batchSplitsRow : OpenClaim := { program := "ytjohkaonokghbaa", sum := "136f30a756ce9d38cdcde71fba2f6d764f29631bba9b078ccc4fea14a5c6793e", func := "winnower/winnowerlaw34.BatchSplits", spec := "batchSplits", recurses := true, apart := false }
def BatchSplitsSaid : Prop := batchSplitsRow.holds Try.pinned (OpenSpec.ofChange batchSplitsSpec)

/-- ITS FALSE NEIGHBOUR: 'it returns false'. Refute it at one input. -/
def batchSplitsWrong : ChangeSpec := { name := "batchSplits", fn := fun _ => fun
  | [d1, d2] => { results := [.lit (.bool false)], args := [d1, d2] }
  | _ => none }
def BatchSplitsWrongFalsely : Prop := batchSplitsRow.holds Try.pinned (OpenSpec.ofChange batchSplitsWrong)

/-- 'winnowerlaw34.BatchFits': WHATEVER THE INPUT: true; the input reads as it did. -/
def batchFitsSpec : ChangeSpec := { name := "batchFits", fn := fun _ => fun
  | [d1, d2] => { results := [.lit (.bool true)], args := [d1, d2] }
  | _ => none }
def batchFitsRow : OpenClaim := { program := "ytjohkaonokghbaa", sum := "136f30a756ce9d38cdcde71fba2f6d764f29631bba9b078ccc4fea14a5c6793e", func := "winnower/winnowerlaw34.BatchFits", spec := "batchFits", recurses := true, apart := false }
def BatchFitsSaid : Prop := batchFitsRow.holds Try.pinned (OpenSpec.ofChange batchFitsSpec)

/-- ITS FALSE NEIGHBOUR: 'it returns false'. Refute it at one input. -/
def batchFitsWrong : ChangeSpec := { name := "batchFits", fn := fun _ => fun
  | [d1, d2] => { results := [.lit (.bool false)], args := [d1, d2] }
  | _ => none }
def BatchFitsWrongFalsely : Prop := batchFitsRow.holds Try.pinned (OpenSpec.ofChange batchFitsWrong)

/-- 'winnowerlaw34.BatchMany': WHATEVER THE INPUT: true; the input reads as it did. -/
def batchManySpec : ChangeSpec := { name := "batchMany", fn := fun _ => fun
  | [d1, d2] => { results := [.lit (.bool true)], args := [d1, d2] }
  | _ => none }
def batchManyRow : OpenClaim := { program := "ytjohkaonokghbaa", sum := "136f30a756ce9d38cdcde71fba2f6d764f29631bba9b078ccc4fea14a5c6793e", func := "winnower/winnowerlaw34.BatchMany", spec := "batchMany", recurses := true, apart := false }
def BatchManySaid : Prop := batchManyRow.holds Try.pinned (OpenSpec.ofChange batchManySpec)

/-- ITS FALSE NEIGHBOUR: 'it returns false'. Refute it at one input. -/
def batchManyWrong : ChangeSpec := { name := "batchMany", fn := fun _ => fun
  | [d1, d2] => { results := [.lit (.bool false)], args := [d1, d2] }
  | _ => none }
def BatchManyWrongFalsely : Prop := batchManyRow.holds Try.pinned (OpenSpec.ofChange batchManyWrong)

/-- 'winnowerlaw02.VarintPuts': WHATEVER THE INPUT: true; the input reads as it did. -/
def varintPutsSpec : ChangeSpec := { name := "varintPuts", fn := fun _ => fun
  | [d1, d2, d3] => { results := [.lit (.bool true)], args := [d1, d2, d3] }
  | _ => none }
def varintPutsRow : OpenClaim := { program := "ytjohkaonokghbaa", sum := "136f30a756ce9d38cdcde71fba2f6d764f29631bba9b078ccc4fea14a5c6793e", func := "winnower/winnowerlaw02.VarintPuts", spec := "varintPuts", recurses := true, apart := false }
def VarintPutsSaid : Prop := varintPutsRow.holds Try.pinned (OpenSpec.ofChange varintPutsSpec)

/-- ITS FALSE NEIGHBOUR: 'it returns false'. Refute it at one input. -/
def varintPutsWrong : ChangeSpec := { name := "varintPuts", fn := fun _ => fun
  | [d1, d2, d3] => { results := [.lit (.bool false)], args := [d1, d2, d3] }
  | _ => none }
def VarintPutsWrongFalsely : Prop := varintPutsRow.holds Try.pinned (OpenSpec.ofChange varintPutsWrong)

/-- 'winnowerlaw02.VarintReads': WHATEVER THE INPUT: true; the input reads as it did. -/
def varintReadsSpec : ChangeSpec := { name := "varintReads", fn := fun _ => fun
  | [d1, d2] => { results := [.lit (.bool true)], args := [d1, d2] }
  | _ => none }
def varintReadsRow : OpenClaim := { program := "ytjohkaonokghbaa", sum := "136f30a756ce9d38cdcde71fba2f6d764f29631bba9b078ccc4fea14a5c6793e", func := "winnower/winnowerlaw02.VarintReads", spec := "varintReads", apart := false }
def VarintReadsSaid : Prop := varintReadsRow.holds Try.pinned (OpenSpec.ofChange varintReadsSpec)

/-- ITS FALSE NEIGHBOUR: 'it returns false'. Refute it at one input. -/
def varintReadsWrong : ChangeSpec := { name := "varintReads", fn := fun _ => fun
  | [d1, d2] => { results := [.lit (.bool false)], args := [d1, d2] }
  | _ => none }
def VarintReadsWrongFalsely : Prop := varintReadsRow.holds Try.pinned (OpenSpec.ofChange varintReadsWrong)

/-- 'winnowerlaw31.BloomReads': WHATEVER THE INPUT: true; the input reads as it did. -/
def bloomReadsSpec : ChangeSpec := { name := "bloomReads", fn := fun _ => fun
  | [d1, d2, d3] => { results := [.lit (.bool true)], args := [d1, d2, d3] }
  | _ => none }
def bloomReadsRow : OpenClaim := { program := "ytjohkaonokghbaa", sum := "136f30a756ce9d38cdcde71fba2f6d764f29631bba9b078ccc4fea14a5c6793e", func := "winnower/winnowerlaw31.BloomReads", spec := "bloomReads", recurses := true, apart := false }
def BloomReadsSaid : Prop := bloomReadsRow.holds Try.pinned (OpenSpec.ofChange bloomReadsSpec)

/-- ITS FALSE NEIGHBOUR: 'it returns false'. Refute it at one input. -/
def bloomReadsWrong : ChangeSpec := { name := "bloomReads", fn := fun _ => fun
  | [d1, d2, d3] => { results := [.lit (.bool false)], args := [d1, d2, d3] }
  | _ => none }
def BloomReadsWrongFalsely : Prop := bloomReadsRow.holds Try.pinned (OpenSpec.ofChange bloomReadsWrong)

/-- 'winnowerlaw31.BloomKeeps': WHATEVER THE INPUT: true; the input reads as it did. -/
def bloomKeepsSpec : ChangeSpec := { name := "bloomKeeps", fn := fun _ => fun
  | [d1, d2, d3] => { results := [.lit (.bool true)], args := [d1, d2, d3] }
  | _ => none }
def bloomKeepsRow : OpenClaim := { program := "ytjohkaonokghbaa", sum := "136f30a756ce9d38cdcde71fba2f6d764f29631bba9b078ccc4fea14a5c6793e", func := "winnower/winnowerlaw31.BloomKeeps", spec := "bloomKeeps", apart := false }
def BloomKeepsSaid : Prop := bloomKeepsRow.holds Try.pinned (OpenSpec.ofChange bloomKeepsSpec)

/-- ITS FALSE NEIGHBOUR: 'it returns false'. Refute it at one input. -/
def bloomKeepsWrong : ChangeSpec := { name := "bloomKeeps", fn := fun _ => fun
  | [d1, d2, d3] => { results := [.lit (.bool false)], args := [d1, d2, d3] }
  | _ => none }
def BloomKeepsWrongFalsely : Prop := bloomKeepsRow.holds Try.pinned (OpenSpec.ofChange bloomKeepsWrong)

/- THE SECOND FORM. 'bulk': how many values and letters a reading holds, each counted each time it is reached (what is shared counts as often as it is met; a slice's spare places count too). A statement '..UptoSaid' is the law's where the arguments, and the package variables that the reading takes, are together of bulk at most 1048576: NARROWER than '..Said'. Prove '..Said' where nothing that the law and all that it calls make is longer than what came in: it says more and counts as full. Else prove '..UptoSaid'. A law counts once. -/
mutual
def uptoBulk {H : Type} : DataW H → Nat
  | .lit (.string bytes) => bytes.length + 1
  | .lit _ => 1
  | .nil => 1
  | .ptr d => uptoBulk d + 1
  | .slice elems spare => uptoBulkAll elems + uptoBulkAll spare + 1
  | .agg parts => uptoBulkAll parts + 1
  | .iface _ d => uptoBulk d + 1
  | .map entries => uptoBulkEntries entries + 1
  | .held _ => 1
def uptoBulkAll {H : Type} : List (DataW H) → Nat
  | [] => 0
  | d :: r => uptoBulk d + uptoBulkAll r
def uptoBulkEntries {H : Type} : List (Lit × DataW H) → Nat
  | [] => 0
  | x :: r => uptoBulkEntry x + uptoBulkEntries r
def uptoBulkEntry {H : Type} : Lit × DataW H → Nat
  | (.string bytes, d) => bytes.length + uptoBulk d + 1
  | (_, d) => uptoBulk d + 1
 end
def uptoSmall : (H : Type) → List (DataW H) → Bool := fun _ ds => decide (uptoBulkAll ds ≤ 1048576)
def OpenSpec.upto (s : _root_.Go.ChangeSpec) : _root_.Go.OpenSpec := { _root_.Go.OpenSpec.ofChange s with cond := some uptoSmall }

/-- 'winnowerlaw20.HashParts', WHERE WHAT IT READS IS OF BULK AT MOST 1048576: true; the input reads as it did. -/
def hashPartsUptoRow : OpenClaim := { program := "ytjohkaonokghbaa", sum := "136f30a756ce9d38cdcde71fba2f6d764f29631bba9b078ccc4fea14a5c6793e", func := "winnower/winnowerlaw20.HashParts", spec := "hashParts", apart := false, narrowed := true }
def HashPartsUptoSaid : Prop := hashPartsUptoRow.holds Try.pinned (OpenSpec.upto hashPartsSpec)

/-- 'winnowerlaw20.HashSums', WHERE WHAT IT READS IS OF BULK AT MOST 1048576: true; the input reads as it did. -/
def hashSumsUptoRow : OpenClaim := { program := "ytjohkaonokghbaa", sum := "136f30a756ce9d38cdcde71fba2f6d764f29631bba9b078ccc4fea14a5c6793e", func := "winnower/winnowerlaw20.HashSums", spec := "hashSums", recurses := true, apart := false, narrowed := true }
def HashSumsUptoSaid : Prop := hashSumsUptoRow.holds Try.pinned (OpenSpec.upto hashSumsSpec)

/-- 'winnowerlaw02.VarintOnce', WHERE WHAT IT READS IS OF BULK AT MOST 1048576: true; the input reads as it did. -/
def varintOnceUptoRow : OpenClaim := { program := "ytjohkaonokghbaa", sum := "136f30a756ce9d38cdcde71fba2f6d764f29631bba9b078ccc4fea14a5c6793e", func := "winnower/winnowerlaw02.VarintOnce", spec := "varintOnce", apart := false, narrowed := true }
def VarintOnceUptoSaid : Prop := varintOnceUptoRow.holds Try.pinned (OpenSpec.upto varintOnceSpec)

/-- 'winnowerlaw31.BloomHas', WHERE WHAT IT READS IS OF BULK AT MOST 1048576: true; the input reads as it did. -/
def bloomHasUptoRow : OpenClaim := { program := "ytjohkaonokghbaa", sum := "136f30a756ce9d38cdcde71fba2f6d764f29631bba9b078ccc4fea14a5c6793e", func := "winnower/winnowerlaw31.BloomHas", spec := "bloomHas", recurses := true, apart := false, narrowed := true }
def BloomHasUptoSaid : Prop := bloomHasUptoRow.holds Try.pinned (OpenSpec.upto bloomHasSpec)

/-- 'winnowerlaw31.BloomOrder', WHERE WHAT IT READS IS OF BULK AT MOST 1048576: true; the input reads as it did. -/
def bloomOrderUptoRow : OpenClaim := { program := "ytjohkaonokghbaa", sum := "136f30a756ce9d38cdcde71fba2f6d764f29631bba9b078ccc4fea14a5c6793e", func := "winnower/winnowerlaw31.BloomOrder", spec := "bloomOrder", apart := false, narrowed := true }
def BloomOrderUptoSaid : Prop := bloomOrderUptoRow.holds Try.pinned (OpenSpec.upto bloomOrderSpec)

/-- 'winnowerlaw34.BatchSplits', WHERE WHAT IT READS IS OF BULK AT MOST 1048576: true; the input reads as it did. -/
def batchSplitsUptoRow : OpenClaim := { program := "ytjohkaonokghbaa", sum := "136f30a756ce9d38cdcde71fba2f6d764f29631bba9b078ccc4fea14a5c6793e", func := "winnower/winnowerlaw34.BatchSplits", spec := "batchSplits", recurses := true, apart := false, narrowed := true }
def BatchSplitsUptoSaid : Prop := batchSplitsUptoRow.holds Try.pinned (OpenSpec.upto batchSplitsSpec)

/-- 'winnowerlaw34.BatchFits', WHERE WHAT IT READS IS OF BULK AT MOST 1048576: true; the input reads as it did. -/
def batchFitsUptoRow : OpenClaim := { program := "ytjohkaonokghbaa", sum := "136f30a756ce9d38cdcde71fba2f6d764f29631bba9b078ccc4fea14a5c6793e", func := "winnower/winnowerlaw34.BatchFits", spec := "batchFits", recurses := true, apart := false, narrowed := true }
def BatchFitsUptoSaid : Prop := batchFitsUptoRow.holds Try.pinned (OpenSpec.upto batchFitsSpec)

/-- 'winnowerlaw34.BatchMany', WHERE WHAT IT READS IS OF BULK AT MOST 1048576: true; the input reads as it did. -/
def batchManyUptoRow : OpenClaim := { program := "ytjohkaonokghbaa", sum := "136f30a756ce9d38cdcde71fba2f6d764f29631bba9b078ccc4fea14a5c6793e", func := "winnower/winnowerlaw34.BatchMany", spec := "batchMany", recurses := true, apart := false, narrowed := true }
def BatchManyUptoSaid : Prop := batchManyUptoRow.holds Try.pinned (OpenSpec.upto batchManySpec)

/-- 'winnowerlaw02.VarintPuts', WHERE WHAT IT READS IS OF BULK AT MOST 1048576: true; the input reads as it did. -/
def varintPutsUptoRow : OpenClaim := { program := "ytjohkaonokghbaa", sum := "136f30a756ce9d38cdcde71fba2f6d764f29631bba9b078ccc4fea14a5c6793e", func := "winnower/winnowerlaw02.VarintPuts", spec := "varintPuts", recurses := true, apart := false, narrowed := true }
def VarintPutsUptoSaid : Prop := varintPutsUptoRow.holds Try.pinned (OpenSpec.upto varintPutsSpec)

/-- 'winnowerlaw02.VarintReads', WHERE WHAT IT READS IS OF BULK AT MOST 1048576: true; the input reads as it did. -/
def varintReadsUptoRow : OpenClaim := { program := "ytjohkaonokghbaa", sum := "136f30a756ce9d38cdcde71fba2f6d764f29631bba9b078ccc4fea14a5c6793e", func := "winnower/winnowerlaw02.VarintReads", spec := "varintReads", apart := false, narrowed := true }
def VarintReadsUptoSaid : Prop := varintReadsUptoRow.holds Try.pinned (OpenSpec.upto varintReadsSpec)

/-- 'winnowerlaw31.BloomReads', WHERE WHAT IT READS IS OF BULK AT MOST 1048576: true; the input reads as it did. -/
def bloomReadsUptoRow : OpenClaim := { program := "ytjohkaonokghbaa", sum := "136f30a756ce9d38cdcde71fba2f6d764f29631bba9b078ccc4fea14a5c6793e", func := "winnower/winnowerlaw31.BloomReads", spec := "bloomReads", recurses := true, apart := false, narrowed := true }
def BloomReadsUptoSaid : Prop := bloomReadsUptoRow.holds Try.pinned (OpenSpec.upto bloomReadsSpec)

/-- 'winnowerlaw31.BloomKeeps', WHERE WHAT IT READS IS OF BULK AT MOST 1048576: true; the input reads as it did. -/
def bloomKeepsUptoRow : OpenClaim := { program := "ytjohkaonokghbaa", sum := "136f30a756ce9d38cdcde71fba2f6d764f29631bba9b078ccc4fea14a5c6793e", func := "winnower/winnowerlaw31.BloomKeeps", spec := "bloomKeeps", apart := false, narrowed := true }
def BloomKeepsUptoSaid : Prop := bloomKeepsUptoRow.holds Try.pinned (OpenSpec.upto bloomKeepsSpec)

end Rows
end Go.Proofs.Ytjohkaonokghbaa
