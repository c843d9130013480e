/- The lowest bits of a hash (hash.Cut), and the references' one. -/
import Derived.Test.YtpndnlnjgnckdaaHash
namespace Go.Proofs.Ytpndnlnjgnckdaa
open Go.RowKit

def hold (n lo hi : Int) : Int := max lo (min n hi)

set_option maxHeartbeats 400000 in
theorem hold_any (n lo hi : Int) (w : World) :
    Calls Try.prog 60 #[.int .i64 n, .int .i64 lo, .int .i64 hi] w fun e w' => e = .returned (.int .i64 (hold n lo hi)) ∧ w = w' := by
  go_enter Try.func60, Try.ntmps60
  go_wp2
  all_goals
    go_ret
    refine ⟨ret_eq (int_eq ?_), rfl⟩
    unfold hold
    omega

def cut (h n : Int) : Int := h % (2 : Int) ^ (hold n 0 64).toNat

theorem cut_whole {h n : Int} (h0 : 0 ≤ h) (h1 : h < 18446744073709551616) (hm : hold n 0 64 = 64) : cut h n = h := by
  unfold cut; rw [hm]; simp; omega
theorem bits_and_low (h : Int) (m : Nat) (h0 : 0 ≤ h) (h1 : h < 18446744073709551616) (hm : m < 64) :
    bits BinOp.and IntKind.u64 h ((2 : Int) ^ m - 1) = h % 2 ^ m := by
  obtain ⟨q, rfl⟩ := Int.eq_ofNat_of_zero_le h0
  have hp : (2 : Nat) ^ m < 2 ^ 64 := Nat.pow_lt_pow_right (by omega) hm
  have hp0 : 0 < (2 : Nat) ^ m := Nat.two_pow_pos m
  have e : ((2 : Int) ^ m - 1) = ((2 ^ m - 1 : Nat) : Int) := by rw [Int.natCast_sub (by omega)]; simp
  rw [e, bits_and_u64_nat _ _ (by omega) (by omega), Nat.and_two_pow_sub_one_eq_mod]
  simp

theorem wrap_pow (m : Nat) (hm : m < 64) : IntKind.u64.wrap (IntKind.u64.wrap ((2 : Int) ^ m) - 1) = 2 ^ m - 1 := by
  have hp : (2 : Nat) ^ m < 2 ^ 64 := Nat.pow_lt_pow_right (by omega) hm
  have hp0 : 0 < (2 : Nat) ^ m := Nat.two_pow_pos m
  have e : ((2 : Int) ^ m) = ((2 ^ m : Nat) : Int) := by simp
  rw [e, IntKind.wrap_u64, IntKind.wrap_u64]; omega
set_option maxHeartbeats 400000 in
theorem cut_any (h n : Int) (w : World) (h0 : 0 ≤ h) (h1 : h < 18446744073709551616) :
    Calls Try.prog 36 #[.int .u64 h, .int .i64 n] w fun e w' => e = .returned (.int .u64 (cut h n)) ∧ w = w' := by
  have H1 := Lib.hid h1
  clear h1
  by_cases hm : hold n 0 64 = 64
  · have HM := Lib.hid hm
    have hb : (hold n 0 64 == 64) = true := by rw [hm]; rfl
    clear hm
    go_enter Try.func36, Try.ntmps36
    go_wp2_with (go_at_call 60; refine (hold_any _ _ _ _).mono ?_; rintro e w' ⟨rfl, rfl⟩)
    go_ret
    exact ⟨ret_eq (int_eq (cut_whole h0 H1.out HM.out).symm), rfl⟩
  · have hb : (hold n 0 64 == 64) = false := by simp [hm]
    have hm0 : 0 ≤ hold n 0 64 := by unfold hold; omega
    have hm1 : hold n 0 64 < 64 := by unfold hold at *; omega
    have HC' : Hid (cut h n = h % (2 : Int) ^ (hold n 0 64).toNat) := Lib.hid rfl
    clear hm
    obtain ⟨m, hm⟩ := Int.eq_ofNat_of_zero_le hm0
    rw [hm] at hb hm1 HC'
    have HM := Lib.hid hm
    clear hm hm0
    go_enter Try.func36, Try.ntmps36
    go_wp2_with (go_at_call 60; refine (hold_any _ _ _ _).mono ?_; rw [HM.out]; rintro e w' ⟨rfl, rfl⟩)
    go_ret
    refine ⟨ret_eq (int_eq ?_), rfl⟩
    rw [HC'.out, wrap_pow m (by omega), bits_and_low h m h0 H1.out (by omega)]
    simp

/-- one step of the bit by bit cut -/
theorem cut_step (h : Int) (k : Nat) (h0 : 0 ≤ h) (h1 : h < 18446744073709551616) (hk : k < 64) :
    IntKind.u64.wrap ((h / 2 ^ k).tdiv 2) = h / 2 ^ (k + 1) ∧
    ((h / 2 ^ k) % 2 = 1 → IntKind.u64.wrap (h % 2 ^ k + 2 ^ k) = h % 2 ^ (k + 1)) ∧
    (¬ (h / 2 ^ k) % 2 = 1 → h % 2 ^ k = h % 2 ^ (k + 1)) ∧
    (k + 1 < 64 → IntKind.u64.wrap ((2 : Int) ^ k * 2) = 2 ^ (k + 1)) := by
  obtain ⟨n, rfl⟩ := Int.eq_ofNat_of_zero_le h0
  have hp : (2 : Nat) ^ (k + 1) ≤ 2 ^ 64 := Nat.pow_le_pow_right (by omega) hk
  have hp0 : 0 < (2 : Nat) ^ k := Nat.two_pow_pos k
  have hs : (2 : Nat) ^ (k + 1) = 2 ^ k * 2 := Nat.pow_succ 2 k
  have e1 : ((n : Int) / 2 ^ k) = ((n / 2 ^ k : Nat) : Int) := by simp
  have e2 : ((n : Int) % 2 ^ k) = ((n % 2 ^ k : Nat) : Int) := by simp
  have e3 : ((n : Int) / 2 ^ (k + 1)) = ((n / 2 ^ (k + 1) : Nat) : Int) := by simp
  have e4 : ((n : Int) % 2 ^ (k + 1)) = ((n % 2 ^ (k + 1) : Nat) : Int) := by simp
  have e5 : ((2 : Int) ^ k) = ((2 ^ k : Nat) : Int) := by simp
  have e6 : ((2 : Int) ^ (k + 1)) = ((2 ^ (k + 1) : Nat) : Int) := by simp
  have hdd : n / 2 ^ (k + 1) = n / 2 ^ k / 2 := by rw [hs, Nat.div_div_eq_div_mul]
  have hmm : n % 2 ^ (k + 1) = n % 2 ^ k + 2 ^ k * (n / 2 ^ k % 2) := by rw [hs, Nat.mod_mul]
  have hlt : n % 2 ^ k < 2 ^ k := Nat.mod_lt _ hp0
  have hdl : n / 2 ^ k ≤ n := Nat.div_le_self _ _
  have h1' : n < 18446744073709551616 := by omega
  rw [e1, e2, e3, e4, e5, e6, hdd, hmm]
  clear e1 e2 e3 e4 e5 e6 hdd hmm h0 h1
  generalize n / 2 ^ k = q at *
  generalize n % 2 ^ k = r at *
  rw [Int.tdiv_eq_ediv_of_nonneg (by omega)]
  refine ⟨?_, fun hq => ?_, fun hq => ?_, fun hk' => ?_⟩
  · rw [IntKind.wrap_u64]; omega
  · rw [IntKind.wrap_u64, show q % 2 = 1 by omega, Nat.mul_one]; generalize 2 ^ k = P at *; omega
  · rw [show q % 2 = 0 by omega]; simp
  · have hp' : (2 : Nat) ^ (k + 1) < 2 ^ 64 := Nat.pow_lt_pow_right (by omega) hk'
    rw [IntKind.wrap_u64]; omega

set_option maxHeartbeats 400000 in
theorem refCut_any (h n : Int) (w : World) (h0 : 0 ≤ h) (h1 : h < 18446744073709551616) :
    Calls Try.prog 42 #[.int .u64 h, .int .i64 n] w fun e w' => e = .returned (.int .u64 (cut h n)) ∧ w = w' := by
  have H1 := Lib.hid h1
  clear h1
  go_enter Try.func42, Try.ntmps42
  go_wp2
  go_loop [0, 5, 6, 7] (fun s0 s5 s6 s7 => ∃ (k : Nat) (q out val : Int), k ≤ 64 ∧ 0 ≤ q ∧ s0 = .int .u64 q ∧ s5 = .int .u64 out ∧ s6 = .int .u64 val ∧ s7 = .int .i64 k ∧
     Hid (q = h / 2 ^ k ∧ out = h % 2 ^ k ∧ (k < 64 → val = 2 ^ k) ∧ (k : Int) ≤ max 0 n)) (fun _ _ _ i => 64 - (intOf i).toNat)
  case atStart => exact ⟨0, h, 0, 1, by omega, h0, rfl, rfl, rfl, rfl, Lib.hid ⟨by simp, by simp, fun _ => rfl, by omega⟩⟩
  case round =>
    obtain ⟨k, q, out, val, hk, hq, rfl, rfl, rfl, rfl, HH⟩ := hrel
    by_cases hlt : k < 64
    · by_cases hn : (k : Int) < n
      · by_cases hodd : q % 2 = 1
        · have ho : (q % 2 == 1) = true := by rw [hodd]; rfl
          clear hodd
          go_wp2
          go_round
          case rel =>
            obtain ⟨rfl, rfl, hv, _⟩ := HH.out
            obtain rfl := hv hlt
            obtain ⟨c1, c2, c3, c4⟩ := cut_step h k h0 H1.out hlt
            exact ⟨k + 1, _, _, _, by omega, wrapu_nn _, rfl, rfl, rfl, by go_num, Lib.hid ⟨c1, c2 (by simpa using ho), c4, by omega⟩⟩
          case measure => simp [intOf]; omega
        · have ho : (q % 2 == 1) = false := by simp [hodd]
          clear hodd
          go_wp2
          go_round
          case rel =>
            obtain ⟨rfl, rfl, hv, _⟩ := HH.out
            obtain rfl := hv hlt
            obtain ⟨c1, c2, c3, c4⟩ := cut_step h k h0 H1.out hlt
            exact ⟨k + 1, _, _, _, by omega, wrapu_nn _, rfl, rfl, rfl, by go_num, Lib.hid ⟨c1, c3 (by simpa using ho), c4, by omega⟩⟩
          case measure => simp [intOf]; omega
      · go_wp2
        go_ret
        obtain ⟨rfl, rfl, hv, hm⟩ := HH.out
        refine ⟨ret_eq (int_eq ?_), rfl⟩
        rw [cut, show (hold n 0 64).toNat = k by unfold hold; omega]
    · go_wp2
      go_ret
      obtain ⟨rfl, rfl, hv, hm⟩ := HH.out
      refine ⟨ret_eq (int_eq ?_), rfl⟩
      rw [cut, show (hold n 0 64).toNat = k by unfold hold; omega]
end Go.Proofs.Ytpndnlnjgnckdaa
