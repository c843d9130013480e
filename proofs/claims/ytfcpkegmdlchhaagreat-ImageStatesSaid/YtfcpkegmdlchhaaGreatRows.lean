/-
  No cell of these rows narrows 'for every input' (looked for: loops, veiled, ifaces, maps, wideKeys, modest, calm, conditions, laid).
  DERIVED. THE GIVEN ROWS OF THIS SEAT. 3 by the template 'for every input the law returns true; each argument reads behind the call as it read before'; 0 by the template 'total and deterministic' (their statements: YtfcpkegmdlchhaaGreatTotals.lean).
  GIVEN WITH THE SEED: the statements are not yours to turn. If you find one false, say at which input.
  Laid BY PROGRAM, IN A SANDBOX (cutbox-rows.mjs): the forced cells as the released guide's own fill.sh prints them over the translation df866e512260e022… (all of the seat's roots in one cut). By AI agents, Wed Nov 11 2026. No macro, syntax, notation, axiom, sorry.
-/
import Derived.Test.YtfcpkegmdlchhaaGreatChecked
import GoSem.Claim
import GoSem.ClaimJoined
import GoSem.ClaimMapViews
import Derived.JoinedTies
import Derived.KernelRfl
namespace Go.Proofs.YtfcpkegmdlchhaaGreat
/- THE CELL 'sum', in the pinned program and in every row, IS THE sha256 OF THE DUMP (.gsa) THAT YtfcpkegmdlchhaaGreatProg.lean LOADS. Nothing in Lean hashes anything: it is a label: what it is worth is what the hold of that sum in a sandbox is worth. -/
noncomputable def Tryz.pinned : Pinned := { name := "ytfcpkegmdlchhaagreat", sum := "df866e512260e02246ee91714869901a5d1d38e7a373e6c593568ccbec662a88", checked := Tryz.checked }
namespace Rows
def none {H : Type} : Left H := { results := [], args := [] }

/-- 'winnowerlaw29.ImageStates': WHATEVER THE INPUT: true; the input reads as it did. -/
def imageStatesSpec : ChangeSpec := { name := "imageStates", fn := fun _ => fun
  | [d] => { results := [.lit (.bool true)], args := [d] }
  | _ => none }
def imageStatesRow : OpenClaim := { program := "ytfcpkegmdlchhaagreat", sum := "df866e512260e02246ee91714869901a5d1d38e7a373e6c593568ccbec662a88", func := "winnower/winnowerlaw29.ImageStates", spec := "imageStates", unfollowed := true, recurses := true, apart := false }
def ImageStatesSaid : Prop := imageStatesRow.holds Tryz.pinned (OpenSpec.ofChange imageStatesSpec)

/-- ITS FALSE NEIGHBOUR: 'it returns false'. Refute it at one input. -/
def imageStatesWrong : ChangeSpec := { name := "imageStates", fn := fun _ => fun
  | [d] => { results := [.lit (.bool false)], args := [d] }
  | _ => none }
def ImageStatesWrongFalsely : Prop := imageStatesRow.holds Tryz.pinned (OpenSpec.ofChange imageStatesWrong)

/-- 'winnowerlaw29.ImageNotes': WHATEVER THE INPUT: true; the input reads as it did. -/
def imageNotesSpec : ChangeSpec := { name := "imageNotes", fn := fun _ => fun
  | [d] => { results := [.lit (.bool true)], args := [d] }
  | _ => none }
def imageNotesRow : OpenClaim := { program := "ytfcpkegmdlchhaagreat", sum := "df866e512260e02246ee91714869901a5d1d38e7a373e6c593568ccbec662a88", func := "winnower/winnowerlaw29.ImageNotes", spec := "imageNotes", unfollowed := true, recurses := true, apart := false }
def ImageNotesSaid : Prop := imageNotesRow.holds Tryz.pinned (OpenSpec.ofChange imageNotesSpec)

/-- ITS FALSE NEIGHBOUR: 'it returns false'. Refute it at one input. -/
def imageNotesWrong : ChangeSpec := { name := "imageNotes", fn := fun _ => fun
  | [d] => { results := [.lit (.bool false)], args := [d] }
  | _ => none }
def ImageNotesWrongFalsely : Prop := imageNotesRow.holds Tryz.pinned (OpenSpec.ofChange imageNotesWrong)

/-- 'winnowerlaw29.ImageReads': WHATEVER THE INPUT: true; the input reads as it did. -/
def imageReadsSpec : ChangeSpec := { name := "imageReads", fn := fun _ => fun
  | [d] => { results := [.lit (.bool true)], args := [d] }
  | _ => none }
def imageReadsRow : OpenClaim := { program := "ytfcpkegmdlchhaagreat", sum := "df866e512260e02246ee91714869901a5d1d38e7a373e6c593568ccbec662a88", func := "winnower/winnowerlaw29.ImageReads", spec := "imageReads", unfollowed := true, recurses := true, apart := false }
def ImageReadsSaid : Prop := imageReadsRow.holds Tryz.pinned (OpenSpec.ofChange imageReadsSpec)

/-- ITS FALSE NEIGHBOUR: 'it returns false'. Refute it at one input. -/
def imageReadsWrong : ChangeSpec := { name := "imageReads", fn := fun _ => fun
  | [d] => { results := [.lit (.bool false)], args := [d] }
  | _ => none }
def ImageReadsWrongFalsely : Prop := imageReadsRow.holds Tryz.pinned (OpenSpec.ofChange imageReadsWrong)

/- THE SECOND FORM. 'bulk': how many values and letters a reading holds, each counted each time it is reached (what is shared counts as often as it is met; a slice's spare places count too). A statement '..UptoSaid' is the law's where the arguments, and the package variables that the reading takes, are together of bulk at most 1048576: NARROWER than '..Said'. Prove '..Said' where nothing that the law and all that it calls make is longer than what came in: it says more and counts as full. Else prove '..UptoSaid'. A law counts once. -/
mutual
def uptoBulk {H : Type} : DataW H → Nat
  | .lit (.string bytes) => bytes.length + 1
  | .lit _ => 1
  | .nil => 1
  | .ptr d => uptoBulk d + 1
  | .slice elems spare => uptoBulkAll elems + uptoBulkAll spare + 1
  | .agg parts => uptoBulkAll parts + 1
  | .iface _ d => uptoBulk d + 1
  | .map entries => uptoBulkEntries entries + 1
  | .held _ => 1
def uptoBulkAll {H : Type} : List (DataW H) → Nat
  | [] => 0
  | d :: r => uptoBulk d + uptoBulkAll r
def uptoBulkEntries {H : Type} : List (Lit × DataW H) → Nat
  | [] => 0
  | x :: r => uptoBulkEntry x + uptoBulkEntries r
def uptoBulkEntry {H : Type} : Lit × DataW H → Nat
  | (.string bytes, d) => bytes.length + uptoBulk d + 1
  | (_, d) => uptoBulk d + 1
 end
def uptoSmall : (H : Type) → List (DataW H) → Bool := fun _ ds => decide (uptoBulkAll ds ≤ 1048576)
def OpenSpec.upto (s : _root_.Go.ChangeSpec) : _root_.Go.OpenSpec := { _root_.Go.OpenSpec.ofChange s with cond := some uptoSmall }

/-- 'winnowerlaw29.ImageStates', WHERE WHAT IT READS IS OF BULK AT MOST 1048576: true; the input reads as it did. -/
def imageStatesUptoRow : OpenClaim := { program := "ytfcpkegmdlchhaagreat", sum := "df866e512260e02246ee91714869901a5d1d38e7a373e6c593568ccbec662a88", func := "winnower/winnowerlaw29.ImageStates", spec := "imageStates", unfollowed := true, recurses := true, apart := false, narrowed := true }
def ImageStatesUptoSaid : Prop := imageStatesUptoRow.holds Tryz.pinned (OpenSpec.upto imageStatesSpec)

/-- 'winnowerlaw29.ImageNotes', WHERE WHAT IT READS IS OF BULK AT MOST 1048576: true; the input reads as it did. -/
def imageNotesUptoRow : OpenClaim := { program := "ytfcpkegmdlchhaagreat", sum := "df866e512260e02246ee91714869901a5d1d38e7a373e6c593568ccbec662a88", func := "winnower/winnowerlaw29.ImageNotes", spec := "imageNotes", unfollowed := true, recurses := true, apart := false, narrowed := true }
def ImageNotesUptoSaid : Prop := imageNotesUptoRow.holds Tryz.pinned (OpenSpec.upto imageNotesSpec)

/-- 'winnowerlaw29.ImageReads', WHERE WHAT IT READS IS OF BULK AT MOST 1048576: true; the input reads as it did. -/
def imageReadsUptoRow : OpenClaim := { program := "ytfcpkegmdlchhaagreat", sum := "df866e512260e02246ee91714869901a5d1d38e7a373e6c593568ccbec662a88", func := "winnower/winnowerlaw29.ImageReads", spec := "imageReads", unfollowed := true, recurses := true, apart := false, narrowed := true }
def ImageReadsUptoSaid : Prop := imageReadsUptoRow.holds Tryz.pinned (OpenSpec.upto imageReadsSpec)

end Rows
end Go.Proofs.YtfcpkegmdlchhaaGreat
