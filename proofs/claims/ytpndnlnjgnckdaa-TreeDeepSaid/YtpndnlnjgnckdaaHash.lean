/- The hash of parts (hash.Of), and the references' one: what they compute. -/
import Derived.Test.YtpndnlnjgnckdaaRows
import Derived.Test.YtpndnlnjgnckdaaLib
import Derived.Outline
namespace Go.Proofs.Ytpndnlnjgnckdaa
open Go.RowKit

def fnvS (h : Int) (c : UInt8) : Int := IntKind.u64.wrap (bits BinOp.xor IntKind.u64 h (c.toNat : Int) * 1099511628211)
def fnv (h : Int) (l : List UInt8) : Int := l.foldl fnvS h
def fnvEnd (h : Int) : Int := bits BinOp.xor IntKind.u64 h (h / 4294967296)
def hashOf (seed : Int) (l : List UInt8) : Int := fnvEnd (fnv (bits BinOp.xor IntKind.u64 14695981039346656037 seed) l)

theorem fnv_snoc (h : Int) (l : List UInt8) (c : UInt8) : fnv h (l ++ [c]) = fnvS (fnv h l) c := by simp [fnv]
theorem wrapu_nn (n : Int) : 0 ≤ IntKind.u64.wrap n := by rw [IntKind.wrap_u64]; omega
theorem wrapu_byte (c : UInt8) : IntKind.u64.wrap (c.toNat : Int) = (c.toNat : Int) := by
  have := c.toNat_lt; rw [IntKind.wrap_u64]; omega
theorem bits_nn (a b : Int) : 0 ≤ bits BinOp.xor IntKind.u64 a b := wrapu_nn _
theorem fnvS_nn (h : Int) (c : UInt8) : 0 ≤ fnvS h c := wrapu_nn _
theorem wrapu_lt (n : Int) : IntKind.u64.wrap n < 18446744073709551616 := by rw [IntKind.wrap_u64]; omega
theorem fnv_lt (h : Int) (l : List UInt8) (h0 : h < 18446744073709551616) : fnv h l < 18446744073709551616 := by
  rcases List.eq_nil_or_concat l with rfl | ⟨l', c, rfl⟩
  · exact h0
  · rw [List.concat_eq_append, fnv, List.foldl_append]; exact wrapu_lt _
theorem fnv_tdiv {seed X : Int} (l : List UInt8) (h : bits BinOp.xor IntKind.u64 14695981039346656037 seed = X) (h0 : 0 ≤ fnv X l) :
    IntKind.u64.wrap ((fnv X l).tdiv 4294967296) = fnv X l / 4294967296 := by
  have h1 := fnv_lt X l (by rw [← h]; exact wrapu_lt _)
  rw [Int.tdiv_eq_ediv_of_nonneg h0, IntKind.wrap_u64]
  omega
theorem hashOf_eq {seed X : Int} (l : List UInt8) (h : bits BinOp.xor IntKind.u64 14695981039346656037 seed = X) : hashOf seed l = fnvEnd (fnv X l) := by
  rw [← h]; rfl
theorem fnv_nn (h : Int) (l : List UInt8) (h0 : 0 ≤ h) : 0 ≤ fnv h l := by
  rcases List.eq_nil_or_concat l with rfl | ⟨l', c, rfl⟩
  · exact h0
  · rw [List.concat_eq_append, fnv_snoc]; exact fnvS_nn _ _
theorem fnv_append (h : Int) (l m : List UInt8) : fnv h (l ++ m) = fnv (fnv h l) m := by simp [fnv]

set_option maxHeartbeats 400000 in
theorem refOf_any (seed : Int) (v : Value) (l : List UInt8) (w : World) (hv : Bs w v l) :
    Calls Try.prog 69 #[.int .u64 seed, v] w fun e w' => e = .returned (.int .u64 (hashOf seed l)) ∧ w = w' := by
  obtain ⟨a, c, b, o, rfl, h1, h2, h3, h4⟩ := hv.open
  have h5 := len_le h1 h2
  clear hv h1 h2
  have hX0 := bits_nn 14695981039346656037 seed
  generalize hX : bits BinOp.xor IntKind.u64 14695981039346656037 seed = X at *
  go_enter Try.func69, Try.ntmps69
  go_wp2
  have HX := Lib.hid hX
  clear hX
  go_loop [5, 6] (fun h' i => ∃ (k : Nat), k ≤ l.length ∧ i = .int .i64 k ∧ h' = .int .u64 (fnv X (l.take k))) (fun _ i => l.length - (intOf i).toNat)
  case atStart => exact ⟨0, Nat.zero_le _, rfl, rfl⟩
  case round =>
    obtain ⟨k, hk, rfl, rfl⟩ := hrel
    by_cases hlt : k < l.length
    · obtain rfl := h3 (by omega)
      have hc' := h4 k hlt
      have HS := Lib.hid (take_snoc l k hlt)
      clear h3 h4
      go_wp2
      go_round
      case rel => exact ⟨k+1, by omega, by go_num, by rw [HS.out, fnv_snoc, fnvS, wrapu_byte]⟩
      case measure => simp [intOf]; omega
    · have hnn := fnv_nn X (l.take k) hX0
      go_wp2
      go_ret
      refine ⟨ret_eq (int_eq ?_), rfl⟩
      rw [hashOf_eq _ HX.out, fnvEnd, show l.take k = l from List.take_of_length_le (by omega), fnv_tdiv _ HX.out (fnv_nn _ _ hX0)]

set_option maxHeartbeats 400000 in
theorem hashOf_any (seed : Int) (v : Value) (ls : List (List UInt8)) (w : World) (hv : Bss w v ls) :
    Calls Try.prog 55 #[.int .u64 seed, v] w fun e w' => e = .returned (.int .u64 (hashOf seed ls.flatten)) ∧ w = w' := by
  obtain ⟨vs, hl, hs, hb⟩ := hv
  obtain ⟨a, c, b, o, rfl, h1, h2, h3, h4⟩ := hs.open1
  have h5 := len_le h1 h2
  clear hs h1 h2
  have hX0 := bits_nn 14695981039346656037 seed
  generalize hX : bits BinOp.xor IntKind.u64 14695981039346656037 seed = X at *
  have HL := Lib.hid hl
  clear hl
  go_enter Try.func55, Try.ntmps55
  go_wp2
  have HX := Lib.hid hX
  clear hX
  go_loop [5, 14] (fun h' i => ∃ (k : Nat), k ≤ vs.length ∧ i = .int .i64 k ∧ h' = .int .u64 (fnv X (ls.take k).flatten)) (fun _ i => vs.length - (intOf i).toNat)
  case atStart => exact ⟨0, Nat.zero_le _, rfl, rfl⟩
  case round =>
    obtain ⟨k, hk, rfl, rfl⟩ := hrel
    by_cases hlt : k < vs.length
    · obtain rfl := h3 (by omega)
      have hc' := h4 k hlt
      have HS := Lib.hid (take_snoc ls k (by have := HL.out; omega))
      obtain ⟨a1, c1, b1, o1, hv1, g1, g2, g3, g4⟩ := (hb k hlt (by have := HL.out; omega)).open
      have g5 := len_le g1 g2
      rw [hv1] at hc'
      clear h3 h4 hb g1 g2 hv1
      generalize hp : ls[k] = p at *
      have HP := Lib.hid hp
      clear hp
      go_wp2
      go_loop [5, 20] (fun h' i => ∃ (j : Nat), j ≤ p.length ∧ i = .int .i64 j ∧ h' = .int .u64 (fnv (fnv X (ls.take k).flatten) (p.take j))) (fun _ i => p.length - (intOf i).toNat)
      case atStart => exact ⟨0, Nat.zero_le _, rfl, rfl⟩
      case round =>
        obtain ⟨j, hj, rfl, rfl⟩ := hrel
        by_cases hjt : j < p.length
        · obtain rfl := g3 (by omega)
          have gc' := g4 j hjt
          have GS := Lib.hid (take_snoc p j hjt)
          clear g3 g4
          go_wp2
          go_round
          case rel => exact ⟨j+1, by omega, by go_num, by rw [GS.out, fnv_snoc, fnvS, wrapu_byte]⟩
          case measure => simp [intOf]; omega
        · clear g3 g4
          obtain rfl : j = p.length := by omega
          go_wp2
          go_round
          case rel => exact ⟨k+1, by omega, by go_num, by rw [HS.out]; simp [fnv_append]⟩
          case measure => simp [intOf]; omega
    · have hnn := fnv_nn X (ls.take k).flatten hX0
      go_wp2
      go_ret
      refine ⟨ret_eq (int_eq ?_), rfl⟩
      rw [hashOf_eq _ HX.out, fnvEnd, show ls.take k = ls from List.take_of_length_le (by have := HL.out; omega)]
end Go.Proofs.Ytpndnlnjgnckdaa
