/- Items read of bytes: the program's way and the references', by abstract walks. -/
import Derived.Test.YtbpmafpmlapekaaRd
import Derived.Test.YtbpmafpmlapekaaIc
namespace Go.Proofs.Ytbpmafpmlapekaa
open Go.RowKit
/-- all but the key, read; what is left, and the first error -/
def restSt (k : ByteArray) (l : List UInt8) (e : Int) : It × List UInt8 × Int :=
  let a := withinSt 1 16 l e
  let b := withinSt 1 1099511627776 a.2.1 a.2.2
  let c := withinSt 1 1099511627776 b.2.1 b.2.2
  let d := withinSt 0 255 c.2.1 c.2.2
  let f := withinSt 0 1 d.2.1 d.2.2
  let g := textSt 64 f.2.1 f.2.2
  (⟨k, a.1, b.1, c.1, d.1, f.1 == 1, ⟨g.1.toArray⟩⟩, g.2.1, g.2.2)
section
set_option maxRecDepth 10000
set_option maxHeartbeats 4000000
theorem restSt_suf (k : ByteArray) (l : List UInt8) (e : Int) : (restSt k l e).2.1 <:+ l := by
  dsimp only [restSt]
  exact (textSt_suf _ _ _).trans ((withinSt_suf _ _ _ _).trans ((withinSt_suf _ _ _ _).trans ((withinSt_suf _ _ _ _).trans ((withinSt_suf _ _ _ _).trans (withinSt_suf _ _ _ _)))))
/-- an item read of bytes: it, or the zero one, and what is wrong -/
def it0 : It := ⟨⟨#[]⟩, 0, 0, 0, 0, false, ⟨#[]⟩⟩
def rdItem (b : List UInt8) : It × Int :=
  let t := textSt 16 b 0
  let x := restSt ⟨t.1.toArray⟩ t.2.1 t.2.2
  let e := endSt x.2.1 x.2.2
  if e ≠ 0 then (it0, e) else if itR x.1 = false then (it0, 11) else (x.1, 0)
end
end Go.Proofs.Ytbpmafpmlapekaa
