/- Ranges and filters read of bytes: the program's way and the references'. -/
import Derived.Test.YtbpmafpmlapekaaFc
import Derived.Test.YtbpmafpmlapekaaIcLR
import Derived.Test.YtbpmafpmlapekaaAbsX
namespace Go.Proofs.Ytbpmafpmlapekaa
open Go.RowKit
def ba (l : List UInt8) : ByteArray := ⟨l.toArray⟩
/-- a range read; what is left, and the first error -/
def rgSt (l : List UInt8) (e : Int) : Rg × List UInt8 × Int :=
  let t := textSt 17 l e
  let o := withinSt 0 1 t.2.1 t.2.2
  if (o.1 == 1) = true then (⟨ba t.1, e0, true⟩, o.2.1, o.2.2) else
    let h := textSt 17 o.2.1 o.2.2
    (⟨ba t.1, ba h.1, false⟩, h.2.1, h.2.2)
/-- a node read -/
def ndSt (l : List UInt8) (e : Int) : Nd × List UInt8 × Int :=
  let o := withinSt 1 8 l e
  if o.1 = 3 ∨ o.1 = 5 then
    let t := textSt 17 o.2.1 o.2.2
    (⟨o.1, 0, ba t.1, e0⟩, t.2.1, t.2.2)
  else if o.1 = 4 then
    let t := textSt 17 o.2.1 o.2.2
    let h := textSt 17 t.2.1 t.2.2
    (⟨o.1, 0, ba t.1, ba h.1⟩, h.2.1, h.2.2)
  else if o.1 = 6 then (⟨o.1, 1, e0, e0⟩, o.2.1, o.2.2)
  else if o.1 = 7 ∨ o.1 = 8 then
    let k := withinSt 0 32 o.2.1 o.2.2
    (⟨o.1, k.1, e0, e0⟩, k.2.1, k.2.2)
  else (⟨o.1, 0, e0, e0⟩, o.2.1, o.2.2)
/-- as many things, read one behind the other, till an error -/
def lsSt {α : Type} (st : List UInt8 → Int → α × List UInt8 × Int) : Nat → List α → List UInt8 → Int → List α × List UInt8 × Int
  | 0, acc, l, e => (acc, l, e)
  | n + 1, acc, l, e => if e ≠ 0 then (acc, l, e) else lsSt st n (acc ++ [(st l e).1]) (st l e).2.1 (st l e).2.2
def lisSt {α : Type} (st : List UInt8 → Int → α × List UInt8 × Int) (most : Int) (l : List UInt8) (e : Int) : List α × List UInt8 × Int :=
  lsSt st (withinSt 0 most l e).1.toNat [] (withinSt 0 most l e).2.1 (withinSt 0 most l e).2.2
theorem rgSt_suf (l : List UInt8) (e : Int) : (rgSt l e).2.1 <:+ l := by
  dsimp only [rgSt]
  split
  · exact (withinSt_suf _ _ _ _).trans (textSt_suf _ _ _)
  · exact (textSt_suf _ _ _).trans ((withinSt_suf _ _ _ _).trans (textSt_suf _ _ _))
theorem ndSt_suf (l : List UInt8) (e : Int) : (ndSt l e).2.1 <:+ l := by
  dsimp only [ndSt]
  split
  · exact (textSt_suf _ _ _).trans (withinSt_suf _ _ _ _)
  · split
    · exact (textSt_suf _ _ _).trans ((textSt_suf _ _ _).trans (withinSt_suf _ _ _ _))
    · split
      · exact withinSt_suf _ _ _ _
      · split
        · exact (withinSt_suf _ _ _ _).trans (withinSt_suf _ _ _ _)
        · exact withinSt_suf _ _ _ _
theorem lsSt_suf {α : Type} {st : List UInt8 → Int → α × List UInt8 × Int} (h : ∀ l e, (st l e).2.1 <:+ l) : ∀ (n : Nat) (acc : List α) (l : List UInt8) (e : Int), (lsSt st n acc l e).2.1 <:+ l := by
  intro n
  induction n with
  | zero => intro acc l e; exact List.suffix_refl l
  | succ n ih =>
    intro acc l e
    unfold lsSt
    split
    · exact List.suffix_refl l
    · exact (ih _ _ _).trans (h _ _)
theorem lsSt_len {α : Type} {st : List UInt8 → Int → α × List UInt8 × Int} : ∀ (n : Nat) (acc : List α) (l : List UInt8) (e : Int), (lsSt st n acc l e).1.length ≤ acc.length + n := by
  intro n
  induction n with
  | zero => intro acc l e; simp [lsSt]
  | succ n ih =>
    intro acc l e
    unfold lsSt
    split
    · simp
    · have := ih (acc ++ [(st l e).1]) (st l e).2.1 (st l e).2.2
      simp at this ⊢; omega
instance (l : List Rg) : Decidable (rgsOk l) := by unfold rgsOk rgOk; infer_instance
instance (l : List Nd) : Decidable (ndsOk l) := by unfold ndsOk; infer_instance
/-- the first error, or what was read if it is right -/
def finL {α : Type} (ok : List α → Prop) [DecidablePred ok] (r : List α × List UInt8 × Int) : List α × Int :=
  if endSt r.2.1 r.2.2 ≠ 0 then ([], endSt r.2.1 r.2.2) else if ok r.1 then (r.1, 0) else ([], 11)
def rdRgs (b : List UInt8) : List Rg × Int := finL rgsOk (lisSt rgSt 4096 b 0)
def rdNds (b : List UInt8) : List Nd × Int := finL ndsOk (lisSt ndSt 32 b 0)
section
set_option maxRecDepth 10000
set_option maxHeartbeats 8000000
abbrev fcRd (l : List UInt8) (e : Int) : List (Nat × Blk) := [(1000, rdBox l e)]
end
end Go.Proofs.Ytbpmafpmlapekaa
namespace Go.Proofs.Ytbpmafpmlapekaa
open Go.RowKit
section
set_option maxRecDepth 10000
set_option maxHeartbeats 8000000
theorem lisSt_len {α : Type} {st : List UInt8 → Int → α × List UInt8 × Int} {most : Int} (h : 0 ≤ most) (l : List UInt8) (e : Int) : ((lisSt st most l e).1.length : Int) ≤ most := by
  have h1 := lsSt_len (st := st) (withinSt 0 most l e).1.toNat [] (withinSt 0 most l e).2.1 (withinSt 0 most l e).2.2
  have h2 := within_rng0 (most := most) h l e
  unfold lisSt
  simp at h1
  omega
end
end Go.Proofs.Ytbpmafpmlapekaa
