/- Lists of items as bytes: the program's icode.Items and the references' Items, by abstract walks. -/
import Derived.Test.YtbpmafpmlapekaaKey
import Derived.Test.YtbpmafpmlapekaaRefIt
namespace Go.Proofs.Ytbpmafpmlapekaa
open Go.RowKit
def s0 : ByteArray := ⟨#[]⟩
/-- a text behind its first n bytes -/
def cutS (s : ByteArray) (n : Nat) : ByteArray := s.extract n s.size
/-- items, one behind the other -/
def itemsT (was : ByteArray) : List It → List UInt8
  | [] => []
  | x :: r => numI (alike was x.key : Nat) ++ (textB (cutS x.key (alike was x.key)) ++ (restB x ++ itemsT x.key r))
def itemsB (l : List It) : List UInt8 := numI (l.length : Nat) ++ itemsT s0 l
theorem cutS_size (s : ByteArray) (n : Nat) : (cutS s n).size = s.size - n := by unfold cutS; simp
theorem restB_len {x : It} (h : itR x = true) : (restB x).length ≤ 110 := by
  obtain ⟨h1, h2, h3, h4⟩ := itR_nums h
  have h5 := nums_len _ h1
  have h6 := textB_len x.body (by omega)
  have h8 : (restNums x).length = 5 := rfl
  simp only [restB, List.length_append]; omega
theorem drop_cons {α : Type} (l : List α) (k : Nat) (h : k < l.length) : l.drop k = l[k] :: l.drop (k + 1) := List.drop_eq_getElem_cons h
section
set_option maxRecDepth 10000
set_option maxHeartbeats 4000000
theorem ref_Bytes (n : Int) (h : okNum n) : Fn Try.prog 94 [iC .i64 n] (ownB (numI n)) := by
  refine ⟨⟨_, Try.func94, by kernel_rfl, by kernel_rfl⟩, fun N0 w vs _ ha => ?_⟩
  obtain ⟨v, rfl, h1⟩ := args1 ha
  obtain rfl : v = .int .i64 n := h1
  obtain ⟨h0, h2⟩ := h
  obtain ⟨m, rfl⟩ := Int.eq_ofNat_of_zero_le h0
  refine Calls.mono (refBytes_any m m w (Nat.le_refl _) (by omega)) ?_
  rintro e w' ⟨v', rfl, h⟩
  exact ⟨_, rfl, h.ext, sl_own encB_ok h⟩
theorem byte_one {n : Nat} (h : n < 128) : [[rawP (.int .u8 (IntKind.u8.wrap (n : Int)))]] = (numI (n : Int)).map byteP := by
  have e : IntKind.u8.wrap (n : Int) = n := by
    unfold IntKind.wrap
    simp [IntKind.bits, IntKind.signed]
    omega
  unfold numI
  rw [Int.toNat_natCast, numB_lt h, e]
  show [[rawP (.int .u8 (n : Int))]] = [[rawP (.int .u8 ((UInt8.ofNat n).toNat : Int))]]
  rw [UInt8.toNat_ofNat', Nat.mod_eq_of_lt (by omega)]
end
end Go.Proofs.Ytbpmafpmlapekaa
