/- Lists of items read of bytes: the program's way and the references', by abstract walks. -/
import Derived.Test.YtbpmafpmlapekaaIcL
import Derived.Test.YtbpmafpmlapekaaLaw19P
namespace Go.Proofs.Ytbpmafpmlapekaa
open Go.RowKit
theorem within_rng0 {most : Int} (h : 0 ≤ most) (l : List UInt8) (e : Int) : 0 ≤ (withinSt 0 most l e).1 ∧ (withinSt 0 most l e).1 ≤ most := by
  by_cases he : e = 0
  · subst he
    rw [withinSt_0]
    split
    · exact ⟨by simp, h⟩
    · split
      · exact ⟨by simp, h⟩
      · simp only; omega
  · rw [withinSt_e he]; exact ⟨by simp, h⟩
theorem text_len16 (l : List UInt8) (e : Int) : (textSt 16 l e).1.length ≤ 16 := by
  unfold textSt
  have := within_rng0 (most := 16) (by omega) l e
  split
  · simp
  · split
    · simp
    · rw [List.length_take]; omega
/-- the next key of a list: how much is as before, the key, what is left, and the first error -/
def rdKey (was : ByteArray) (l : List UInt8) (e : Int) : Int × ByteArray × List UInt8 × Int :=
  let s := withinSt 0 was.size l e
  let t := textSt 16 s.2.1 s.2.2
  (s.1, was.extract 0 s.1.toNat ++ ⟨t.1.toArray⟩, t.2.1, t.2.2)
def rdsGo : Nat → ByteArray → Bool → List It → List UInt8 → Int → List It × Bool × List UInt8 × Int
  | 0, _, f, acc, l, e => (acc, f, l, e)
  | n + 1, was, f, acc, l, e =>
    if e ≠ 0 then (acc, f, l, e) else
      let q := rdKey was l e
      let x := restSt q.2.1 q.2.2.1 q.2.2.2
      rdsGo n q.2.1 (f && itR x.1 && ((alike was q.2.1 : Int) == q.1)) (acc ++ [x.1]) x.2.1 x.2.2
def rdIn (l : List UInt8) (e : Int) : List It × Bool × List UInt8 × Int :=
  let s := withinSt 0 4096 l e
  rdsGo s.1.toNat s0 true [] s.2.1 s.2.2
def finI (r : List It × Bool × List UInt8 × Int) : List It × Int :=
  if endSt r.2.2.1 r.2.2.2 ≠ 0 then ([], endSt r.2.2.1 r.2.2.2) else if r.2.1 = false then ([], 11) else (r.1, 0)
def rdItems (b : List UInt8) : List It × Int := finI (rdIn b 0)
theorem rdKey_size (was : ByteArray) (l : List UInt8) (e : Int) : (rdKey was l e).2.1.size ≤ was.size + 16 ∧ 0 ≤ (rdKey was l e).1 ∧ (rdKey was l e).1 ≤ was.size := by
  dsimp only [rdKey]
  have h1 := within_rng0 (most := (was.size : Int)) (by omega) l e
  have h2 := text_len16 (withinSt 0 was.size l e).2.1 (withinSt 0 was.size l e).2.2
  refine ⟨?_, h1⟩
  rw [ByteArray.size_append, ByteArray.size_extract]
  show _ + (textSt 16 _ _).1.toArray.size ≤ _
  rw [List.size_toArray]
  omega
section
set_option maxRecDepth 10000
set_option maxHeartbeats 8000000
theorem rdsGo_suf (n : Nat) : ∀ (was : ByteArray) (f : Bool) (acc : List It) (l : List UInt8) (e : Int), (rdsGo n was f acc l e).2.2.1 <:+ l := by
  induction n with
  | zero => intro was f acc l e; exact List.suffix_refl l
  | succ n ih =>
    intro was f acc l e
    unfold rdsGo
    split
    · exact List.suffix_refl l
    · exact (ih _ _ _ _ _).trans ((restSt_suf _ _ _).trans ((textSt_suf _ _ _).trans (withinSt_suf _ _ _ _)))
theorem rdsGo_len (n : Nat) : ∀ (was : ByteArray) (f : Bool) (acc : List It) (l : List UInt8) (e : Int), (rdsGo n was f acc l e).1.length ≤ acc.length + n := by
  induction n with
  | zero => intro was f acc l e; simp [rdsGo]
  | succ n ih =>
    intro was f acc l e
    unfold rdsGo
    split
    · simp
    · have := ih (rdKey was l e).2.1 (f && itR (restSt (rdKey was l e).2.1 (rdKey was l e).2.2.1 (rdKey was l e).2.2.2).1 && ((alike was (rdKey was l e).2.1 : Int) == (rdKey was l e).1)) (acc ++ [(restSt (rdKey was l e).2.1 (rdKey was l e).2.2.1 (rdKey was l e).2.2.2).1]) (restSt (rdKey was l e).2.1 (rdKey was l e).2.2.1 (rdKey was l e).2.2.2).2.1 (restSt (rdKey was l e).2.1 (rdKey was l e).2.2.1 (rdKey was l e).2.2.2).2.2
      simp at this ⊢
      omega
end
end Go.Proofs.Ytbpmafpmlapekaa
