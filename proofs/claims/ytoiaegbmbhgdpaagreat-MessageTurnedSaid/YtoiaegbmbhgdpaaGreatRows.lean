/-
  No cell of these rows narrows 'for every input' (looked for: loops, veiled, ifaces, maps, wideKeys, modest, calm, conditions, laid).
  DERIVED. THE GIVEN ROWS OF THIS SEAT. 6 by the template 'for every input the law returns true; each argument reads behind the call as it read before'; 0 by the template 'total and deterministic' (their statements: YtoiaegbmbhgdpaaGreatTotals.lean).
  GIVEN WITH THE SEED: the statements are not yours to turn. If you find one false, say at which input.
  Laid BY PROGRAM, IN A SANDBOX (cutbox-rows.mjs): the forced cells as the released guide's own fill.sh prints them over the translation 30d49a3fc4720853… (all of the seat's roots in one cut). By AI agents, Wed Nov 11 2026. No macro, syntax, notation, axiom, sorry.
-/
import Derived.Test.YtoiaegbmbhgdpaaGreatChecked
import GoSem.Claim
import GoSem.ClaimJoined
import GoSem.ClaimMapViews
import Derived.JoinedTies
import Derived.KernelRfl
namespace Go.Proofs.YtoiaegbmbhgdpaaGreat
/- THE CELL 'sum', in the pinned program and in every row, IS THE sha256 OF THE DUMP (.gsa) THAT YtoiaegbmbhgdpaaGreatProg.lean LOADS. Nothing in Lean hashes anything: it is a label: what it is worth is what the hold of that sum in a sandbox is worth. -/
noncomputable def Tryz.pinned : Pinned := { name := "ytoiaegbmbhgdpaagreat", sum := "30d49a3fc47208536c62c40af321f2b7eff5a6a9ac1ac4d1796d076e5c8d047c", checked := Tryz.checked }
namespace Rows
def none {H : Type} : Left H := { results := [], args := [] }

/-- 'winnowerlaw36.MessagePuts': WHATEVER THE INPUT: true; the input reads as it did. -/
def messagePutsSpec : ChangeSpec := { name := "messagePuts", fn := fun _ => fun
  | [d1, d2] => { results := [.lit (.bool true)], args := [d1, d2] }
  | _ => none }
def messagePutsRow : OpenClaim := { program := "ytoiaegbmbhgdpaagreat", sum := "30d49a3fc47208536c62c40af321f2b7eff5a6a9ac1ac4d1796d076e5c8d047c", func := "winnower/winnowerlaw36.MessagePuts", spec := "messagePuts", unfollowed := true, recurses := true, apart := false }
def MessagePutsSaid : Prop := messagePutsRow.holds Tryz.pinned (OpenSpec.ofChange messagePutsSpec)

/-- ITS FALSE NEIGHBOUR: 'it returns false'. Refute it at one input. -/
def messagePutsWrong : ChangeSpec := { name := "messagePuts", fn := fun _ => fun
  | [d1, d2] => { results := [.lit (.bool false)], args := [d1, d2] }
  | _ => none }
def MessagePutsWrongFalsely : Prop := messagePutsRow.holds Tryz.pinned (OpenSpec.ofChange messagePutsWrong)

/-- 'winnowerlaw36.MessageReads': WHATEVER THE INPUT: true; the input reads as it did. -/
def messageReadsSpec : ChangeSpec := { name := "messageReads", fn := fun _ => fun
  | [d] => { results := [.lit (.bool true)], args := [d] }
  | _ => none }
def messageReadsRow : OpenClaim := { program := "ytoiaegbmbhgdpaagreat", sum := "30d49a3fc47208536c62c40af321f2b7eff5a6a9ac1ac4d1796d076e5c8d047c", func := "winnower/winnowerlaw36.MessageReads", spec := "messageReads", unfollowed := true, recurses := true, apart := false }
def MessageReadsSaid : Prop := messageReadsRow.holds Tryz.pinned (OpenSpec.ofChange messageReadsSpec)

/-- ITS FALSE NEIGHBOUR: 'it returns false'. Refute it at one input. -/
def messageReadsWrong : ChangeSpec := { name := "messageReads", fn := fun _ => fun
  | [d] => { results := [.lit (.bool false)], args := [d] }
  | _ => none }
def MessageReadsWrongFalsely : Prop := messageReadsRow.holds Tryz.pinned (OpenSpec.ofChange messageReadsWrong)

/-- 'winnowerlaw36.MessageTurned': WHATEVER THE INPUT: true; the input reads as it did. -/
def messageTurnedSpec : ChangeSpec := { name := "messageTurned", fn := fun _ => fun
  | [d1, d2, d3] => { results := [.lit (.bool true)], args := [d1, d2, d3] }
  | _ => none }
def messageTurnedRow : OpenClaim := { program := "ytoiaegbmbhgdpaagreat", sum := "30d49a3fc47208536c62c40af321f2b7eff5a6a9ac1ac4d1796d076e5c8d047c", func := "winnower/winnowerlaw36.MessageTurned", spec := "messageTurned", unfollowed := true, recurses := true, apart := false }
def MessageTurnedSaid : Prop := messageTurnedRow.holds Tryz.pinned (OpenSpec.ofChange messageTurnedSpec)

/-- ITS FALSE NEIGHBOUR: 'it returns false'. Refute it at one input. -/
def messageTurnedWrong : ChangeSpec := { name := "messageTurned", fn := fun _ => fun
  | [d1, d2, d3] => { results := [.lit (.bool false)], args := [d1, d2, d3] }
  | _ => none }
def MessageTurnedWrongFalsely : Prop := messageTurnedRow.holds Tryz.pinned (OpenSpec.ofChange messageTurnedWrong)

/-- 'winnowerlaw29.ImageStates': WHATEVER THE INPUT: true; the input reads as it did. -/
def imageStatesSpec : ChangeSpec := { name := "imageStates", fn := fun _ => fun
  | [d] => { results := [.lit (.bool true)], args := [d] }
  | _ => none }
def imageStatesRow : OpenClaim := { program := "ytoiaegbmbhgdpaagreat", sum := "30d49a3fc47208536c62c40af321f2b7eff5a6a9ac1ac4d1796d076e5c8d047c", func := "winnower/winnowerlaw29.ImageStates", spec := "imageStates", unfollowed := true, recurses := true, apart := false }
def ImageStatesSaid : Prop := imageStatesRow.holds Tryz.pinned (OpenSpec.ofChange imageStatesSpec)

/-- ITS FALSE NEIGHBOUR: 'it returns false'. Refute it at one input. -/
def imageStatesWrong : ChangeSpec := { name := "imageStates", fn := fun _ => fun
  | [d] => { results := [.lit (.bool false)], args := [d] }
  | _ => none }
def ImageStatesWrongFalsely : Prop := imageStatesRow.holds Tryz.pinned (OpenSpec.ofChange imageStatesWrong)

/-- 'winnowerlaw29.ImageNotes': WHATEVER THE INPUT: true; the input reads as it did. -/
def imageNotesSpec : ChangeSpec := { name := "imageNotes", fn := fun _ => fun
  | [d] => { results := [.lit (.bool true)], args := [d] }
  | _ => none }
def imageNotesRow : OpenClaim := { program := "ytoiaegbmbhgdpaagreat", sum := "30d49a3fc47208536c62c40af321f2b7eff5a6a9ac1ac4d1796d076e5c8d047c", func := "winnower/winnowerlaw29.ImageNotes", spec := "imageNotes", unfollowed := true, recurses := true, apart := false }
def ImageNotesSaid : Prop := imageNotesRow.holds Tryz.pinned (OpenSpec.ofChange imageNotesSpec)

/-- ITS FALSE NEIGHBOUR: 'it returns false'. Refute it at one input. -/
def imageNotesWrong : ChangeSpec := { name := "imageNotes", fn := fun _ => fun
  | [d] => { results := [.lit (.bool false)], args := [d] }
  | _ => none }
def ImageNotesWrongFalsely : Prop := imageNotesRow.holds Tryz.pinned (OpenSpec.ofChange imageNotesWrong)

/-- 'winnowerlaw29.ImageReads': WHATEVER THE INPUT: true; the input reads as it did. -/
def imageReadsSpec : ChangeSpec := { name := "imageReads", fn := fun _ => fun
  | [d] => { results := [.lit (.bool true)], args := [d] }
  | _ => none }
def imageReadsRow : OpenClaim := { program := "ytoiaegbmbhgdpaagreat", sum := "30d49a3fc47208536c62c40af321f2b7eff5a6a9ac1ac4d1796d076e5c8d047c", func := "winnower/winnowerlaw29.ImageReads", spec := "imageReads", unfollowed := true, recurses := true, apart := false }
def ImageReadsSaid : Prop := imageReadsRow.holds Tryz.pinned (OpenSpec.ofChange imageReadsSpec)

/-- ITS FALSE NEIGHBOUR: 'it returns false'. Refute it at one input. -/
def imageReadsWrong : ChangeSpec := { name := "imageReads", fn := fun _ => fun
  | [d] => { results := [.lit (.bool false)], args := [d] }
  | _ => none }
def ImageReadsWrongFalsely : Prop := imageReadsRow.holds Tryz.pinned (OpenSpec.ofChange imageReadsWrong)

/- THE SECOND FORM. 'bulk': how many values and letters a reading holds, each counted each time it is reached (what is shared counts as often as it is met; a slice's spare places count too). A statement '..UptoSaid' is the law's where the arguments, and the package variables that the reading takes, are together of bulk at most 1048576: NARROWER than '..Said'. Prove '..Said' where nothing that the law and all that it calls make is longer than what came in: it says more and counts as full. Else prove '..UptoSaid'. A law counts once. -/
mutual
def uptoBulk {H : Type} : DataW H → Nat
  | .lit (.string bytes) => bytes.length + 1
  | .lit _ => 1
  | .nil => 1
  | .ptr d => uptoBulk d + 1
  | .slice elems spare => uptoBulkAll elems + uptoBulkAll spare + 1
  | .agg parts => uptoBulkAll parts + 1
  | .iface _ d => uptoBulk d + 1
  | .map entries => uptoBulkEntries entries + 1
  | .held _ => 1
def uptoBulkAll {H : Type} : List (DataW H) → Nat
  | [] => 0
  | d :: r => uptoBulk d + uptoBulkAll r
def uptoBulkEntries {H : Type} : List (Lit × DataW H) → Nat
  | [] => 0
  | x :: r => uptoBulkEntry x + uptoBulkEntries r
def uptoBulkEntry {H : Type} : Lit × DataW H → Nat
  | (.string bytes, d) => bytes.length + uptoBulk d + 1
  | (_, d) => uptoBulk d + 1
 end
def uptoSmall : (H : Type) → List (DataW H) → Bool := fun _ ds => decide (uptoBulkAll ds ≤ 1048576)
def OpenSpec.upto (s : _root_.Go.ChangeSpec) : _root_.Go.OpenSpec := { _root_.Go.OpenSpec.ofChange s with cond := some uptoSmall }

/-- 'winnowerlaw36.MessagePuts', WHERE WHAT IT READS IS OF BULK AT MOST 1048576: true; the input reads as it did. -/
def messagePutsUptoRow : OpenClaim := { program := "ytoiaegbmbhgdpaagreat", sum := "30d49a3fc47208536c62c40af321f2b7eff5a6a9ac1ac4d1796d076e5c8d047c", func := "winnower/winnowerlaw36.MessagePuts", spec := "messagePuts", unfollowed := true, recurses := true, apart := false, narrowed := true }
def MessagePutsUptoSaid : Prop := messagePutsUptoRow.holds Tryz.pinned (OpenSpec.upto messagePutsSpec)

/-- 'winnowerlaw36.MessageReads', WHERE WHAT IT READS IS OF BULK AT MOST 1048576: true; the input reads as it did. -/
def messageReadsUptoRow : OpenClaim := { program := "ytoiaegbmbhgdpaagreat", sum := "30d49a3fc47208536c62c40af321f2b7eff5a6a9ac1ac4d1796d076e5c8d047c", func := "winnower/winnowerlaw36.MessageReads", spec := "messageReads", unfollowed := true, recurses := true, apart := false, narrowed := true }
def MessageReadsUptoSaid : Prop := messageReadsUptoRow.holds Tryz.pinned (OpenSpec.upto messageReadsSpec)

/-- 'winnowerlaw36.MessageTurned', WHERE WHAT IT READS IS OF BULK AT MOST 1048576: true; the input reads as it did. -/
def messageTurnedUptoRow : OpenClaim := { program := "ytoiaegbmbhgdpaagreat", sum := "30d49a3fc47208536c62c40af321f2b7eff5a6a9ac1ac4d1796d076e5c8d047c", func := "winnower/winnowerlaw36.MessageTurned", spec := "messageTurned", unfollowed := true, recurses := true, apart := false, narrowed := true }
def MessageTurnedUptoSaid : Prop := messageTurnedUptoRow.holds Tryz.pinned (OpenSpec.upto messageTurnedSpec)

/-- 'winnowerlaw29.ImageStates', WHERE WHAT IT READS IS OF BULK AT MOST 1048576: true; the input reads as it did. -/
def imageStatesUptoRow : OpenClaim := { program := "ytoiaegbmbhgdpaagreat", sum := "30d49a3fc47208536c62c40af321f2b7eff5a6a9ac1ac4d1796d076e5c8d047c", func := "winnower/winnowerlaw29.ImageStates", spec := "imageStates", unfollowed := true, recurses := true, apart := false, narrowed := true }
def ImageStatesUptoSaid : Prop := imageStatesUptoRow.holds Tryz.pinned (OpenSpec.upto imageStatesSpec)

/-- 'winnowerlaw29.ImageNotes', WHERE WHAT IT READS IS OF BULK AT MOST 1048576: true; the input reads as it did. -/
def imageNotesUptoRow : OpenClaim := { program := "ytoiaegbmbhgdpaagreat", sum := "30d49a3fc47208536c62c40af321f2b7eff5a6a9ac1ac4d1796d076e5c8d047c", func := "winnower/winnowerlaw29.ImageNotes", spec := "imageNotes", unfollowed := true, recurses := true, apart := false, narrowed := true }
def ImageNotesUptoSaid : Prop := imageNotesUptoRow.holds Tryz.pinned (OpenSpec.upto imageNotesSpec)

/-- 'winnowerlaw29.ImageReads', WHERE WHAT IT READS IS OF BULK AT MOST 1048576: true; the input reads as it did. -/
def imageReadsUptoRow : OpenClaim := { program := "ytoiaegbmbhgdpaagreat", sum := "30d49a3fc47208536c62c40af321f2b7eff5a6a9ac1ac4d1796d076e5c8d047c", func := "winnower/winnowerlaw29.ImageReads", spec := "imageReads", unfollowed := true, recurses := true, apart := false, narrowed := true }
def ImageReadsUptoSaid : Prop := imageReadsUptoRow.holds Tryz.pinned (OpenSpec.upto imageReadsSpec)

end Rows
end Go.Proofs.YtoiaegbmbhgdpaaGreat
