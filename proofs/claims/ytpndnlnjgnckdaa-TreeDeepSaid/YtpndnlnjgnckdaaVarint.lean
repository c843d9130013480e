/- Numbers and texts as bytes (varint.one, Put, Text): what they compute. -/
import Derived.Test.YtpndnlnjgnckdaaRows
import Derived.Test.YtpndnlnjgnckdaaLib
import Derived.Outline
namespace Go.Proofs.Ytpndnlnjgnckdaa
open Go.RowKit

def numB (n : Nat) : List UInt8 := if n < 128 then [UInt8.ofNat n] else UInt8.ofNat (128 + n % 128) :: numB (n / 128)
theorem numB_lt {n : Nat} (h : n < 128) : numB n = [UInt8.ofNat n] := by rw [numB, if_pos h]
theorem numB_ge {n : Nat} (h : ¬ n < 128) : numB n = UInt8.ofNat (128 + n % 128) :: numB (n / 128) := by rw [numB, if_neg h]
theorem numB_len (k : Nat) : ∀ n, n < 128 ^ (k + 1) → (numB n).length ≤ k + 1 := by
  induction k with
  | zero => intro n hn; rw [numB_lt (by simpa using hn)]; simp
  | succ k ih =>
    intro n hn
    by_cases h : n < 128
    · rw [numB_lt h]; simp
    · rw [numB_ge h]
      have := ih (n / 128) (by rw [Nat.div_lt_iff_lt_mul (by decide)]; rw [← Nat.pow_succ]; exact hn)
      simp; omega
theorem numB_len9 (n : Nat) (h : n ≤ 9223372036854775807) : (numB n).length ≤ 9 := numB_len 8 n (by omega)
theorem numB_pos (n : Nat) : 0 < (numB n).length := by rw [numB]; split <;> simp

theorem tiB : TI Try.prog 60 5 1 1 := TI.mk' Try.underlying60 (by kernel_rfl)
theorem zB : (Try.prog.info? 5).bind (·.zero) = some (.int .u8 0) := by kernel_rfl

theorem byteLow (m : Nat) (h : m < 128) : encB (UInt8.ofNat m) = [.int .u8 (m : Int)] := by
  unfold encB; rw [UInt8.toNat_ofNat']; congr 2; omega
theorem byteHigh (m : Nat) : encB (UInt8.ofNat (128 + m % 128)) = [.int .u8 ((m : Int) % 128 + 128)] := by
  unfold encB; rw [UInt8.toNat_ofNat']; congr 2; omega

set_option maxRecDepth 10000 in
set_option maxHeartbeats 400000 in
theorem one_any (n0 : Int) (v : Value) (l : List UInt8) (wB w : World) (h0 : 0 ≤ n0) (hn : n0 ≤ 9223372036854775807) (hl : l.length ≤ 70368744177664) (hv : Own 5 1 encB wB w v l) :
    Calls Try.prog 72 #[v, .int .i64 n0] w (RetOwn 5 1 encB wB (l ++ numB n0.toNat)) := by
  obtain ⟨n, rfl⟩ := Int.eq_ofNat_of_zero_le h0
  have hlen9 := numB_len9 n (by omega)
  have e0 : ((n : Int)).toNat = n := by omega
  rw [e0]
  clear e0
  go_enter Try.func72, Try.ntmps72
  go_wp2
  go_loopw [0, 1] (fun v' i wr => ∃ (m : Nat) (done : List UInt8), i = .int .i64 m ∧ m ≤ n ∧ Own 5 1 encB wB wr v' (l ++ done) ∧ done.length ≤ 9 ∧ Hid (done ++ numB m = numB n)) (fun _ i _ => (intOf i).toNat)
  case atStart => exact ⟨n, [], rfl, Nat.le_refl _, by simpa using hv, by simp, Lib.hid rfl⟩
  case round =>
    obtain ⟨m, done, rfl, hm, hown, hd, HD⟩ := hrel
    by_cases hlt : m < 128
    · go_wp2_with (at_builtin; refine wpList_app rfl _ _ 60 rfl tiB encB_ok wB _ [UInt8.ofNat m] _ _ rfl rfl (hown.alloc _) (Sl.new1 (enc := encB) encB_ok.len _ _ _ _ (byteLow m hlt)) ?_ ?_ ?_)
      · (first | omega | (simp; omega) | (unfold maxLen; omega) | (unfold maxLen; simp; omega))
      · (first | omega | (simp; omega) | (unfold maxLen; omega) | (unfold maxLen; simp; omega))
      · intro v' w2 r HR hown2 _ _
        go_wp2
        go_ret
        have h1 := HD.out
        rw [numB_lt hlt] at h1
        have e : l ++ numB n = r := by rw [← h1]; simp [HR.out]
        rw [e]
        exact ⟨_, rfl, hown2⟩
    · have hg : 128 ≤ m := by omega
      go_wp2_with (at_builtin; refine wpList_app rfl _ _ 60 rfl tiB encB_ok wB _ [UInt8.ofNat (128 + m % 128)] _ _ rfl rfl (hown.alloc _) (Sl.new1 (enc := encB) encB_ok.len _ _ _ _ (byteHigh m)) ?_ ?_ ?_)
      · (first | omega | (simp; omega) | (unfold maxLen; omega) | (unfold maxLen; simp; omega))
      · (first | omega | (simp; omega) | (unfold maxLen; omega) | (unfold maxLen; simp; omega))
      · intro v' w2 r HR hown2 _ _
        have h1 := HD.out
        rw [numB_ge hlt] at h1
        have h2 : (done ++ [UInt8.ofNat (128 + m % 128)]).length ≤ 9 := by
          have := congrArg List.length h1
          simp at this ⊢; omega
        clear hown
        go_wp2
        go_roundw
        case rel => exact ⟨m / 128, done ++ [UInt8.ofNat (128 + m % 128)], by go_num, by omega, by rw [show l ++ (done ++ [UInt8.ofNat (128 + m % 128)]) = r by simp [HR.out]]; exact hown2, h2, Lib.hid (by simpa using h1)⟩
        case measure => simp [intOf]; omega

def numI (n : Int) : List UInt8 := numB n.toNat
def okNum (n : Int) : Prop := 0 ≤ n ∧ n ≤ 281474976710656
theorem numI_len (n : Int) (h : n ≤ 9223372036854775807) : (numI n).length ≤ 9 := numB_len9 _ (by omega)
theorem numI_len8 (n : Int) (h : n ≤ 281474976710656) : (numI n).length ≤ 8 := numB_len 7 _ (by omega)
theorem nums_len (ns : List Int) (h : ∀ n ∈ ns, okNum n) : (ns.flatMap numI).length ≤ 9 * ns.length := by
  induction ns with
  | nil => simp
  | cons n ns ih =>
    have h1 := numI_len n (by have := (h n (by simp)).2; omega)
    have h2 := ih (fun m hm => h m (by simp [hm]))
    simp only [List.flatMap_cons, List.length_append, List.length_cons]; omega

set_option maxRecDepth 10000 in
set_option maxHeartbeats 800000 in
theorem put_ok (v vl : Value) (l : List UInt8) (ns : List Int) (w : World) (hv : Bs w v l) (hl : Sl 1 encI w vl ns) (hb : l.length + 9 * ns.length ≤ 70368744177664)
    (hok : ∀ n ∈ ns, okNum n) : Calls Try.prog 75 #[v, vl] w (RetOwn2 5 1 encB w (l ++ ns.flatMap numI) (.int .i64 0)) := by
  obtain ⟨a, c, b, o, rfl, h1, h2, h3, h4⟩ := hl.openI
  have h5 := len_le h1 h2
  clear h1 h2 hl
  go_enter Try.func75, Try.ntmps75
  go_wp2
  go_loop [13] (fun i => ∃ k : Nat, k ≤ ns.length ∧ i = .int .i64 k) (fun i => ns.length - (intOf i).toNat)
  case atStart => exact ⟨0, Nat.zero_le _, rfl⟩
  case round =>
    obtain ⟨k, hk, rfl⟩ := hrel
    by_cases hlt : k < ns.length
    · obtain rfl := h3 (by omega)
      have hc := h4 k hlt
      obtain ⟨g1, g2⟩ := hok ns[k] (by simp)
      clear h3 h4 hok
      go_wp2
      go_round
      case rel => exact ⟨k + 1, by omega, by go_num⟩
      case measure => simp [intOf]; omega
    · go_wp2_with (at_builtin; refine wpList_app rfl _ _ 60 rfl tiB encB_ok w [] l _ _ rfl rfl (Own.empty (Ext.refl _)) (hv.ext ((Ext.refl _).alloc _)) ?_ ?_ ?_)
      · (first | omega | (simp; omega) | (unfold maxLen; omega) | (unfold maxLen; simp; omega))
      · (first | omega | (simp; omega) | (unfold maxLen; omega) | (unfold maxLen; simp; omega))
      · intro v1 w1 r HR hown _ _
        have HR' : Hid (r = l) := Lib.hid (by simpa using HR.out)
        clear HR
        go_wp2
        go_loopw [8, 29] (fun v i wr => ∃ k : Nat, k ≤ ns.length ∧ i = .int .i64 k ∧ Own 5 1 encB w wr v (l ++ (ns.take k).flatMap numI)) (fun _ i _ => ns.length - (intOf i).toNat)
        case atStart => exact ⟨0, Nat.zero_le _, rfl, by rw [← HR'.out]; simpa using hown⟩
        case round =>
          obtain ⟨j, hj, rfl, hown⟩ := hrel
          by_cases hjt : j < ns.length
          · obtain rfl := h3 (by omega)
            have hc := hown.ext.cell (h4 j hjt)
            obtain ⟨g1, g2⟩ := hok ns[j] (by simp)
            have hs := Lib.hid (take_snoc ns j hjt)
            have hlen := nums_len (ns.take j) (fun n hn => hok n (List.mem_of_mem_take hn))
            have hlj : (ns.take j).length ≤ j := List.length_take_le _ _
            have hlen2 : (l ++ (ns.take j).flatMap numI).length ≤ 70368744177664 := by rw [List.length_append]; omega
            clear h3 h4 hlen hlj
            go_wp2_with fail
            refine (one_any _ _ _ w _ g1 (by omega) hlen2 hown).mono ?_
            rintro e w2 ⟨v2, rfl, hown2⟩
            have HO := Lib.hid hown2
            clear hown hown2
            go_wp2
            go_roundw
            case rel => exact ⟨j + 1, by omega, by go_num, by rw [hs.out, List.flatMap_append, ← List.append_assoc]; simpa [numI] using HO.out⟩
            case measure => simp [intOf]; omega
          · have HT := Lib.hid (show ns.take j = ns from List.take_of_length_le (by omega))
            go_wp2
            go_ret2
            rw [HT.out] at hown
            exact ⟨_, rfl, hown⟩

set_option maxRecDepth 10000 in
set_option maxHeartbeats 800000 in
theorem put_bad (v vl : Value) (ns : List Int) (w : World) (hl : Sl 1 encI w vl ns)
    (hbad : ¬ ∀ n ∈ ns, okNum n) : Calls Try.prog 75 #[v, vl] w fun e w' => e = .returned (.tuple #[.slice none 0 0, .int .i64 2]) ∧ w = w' := by
  obtain ⟨a, c, b, o, rfl, h1, h2, h3, h4⟩ := hl.openI
  have h5 := len_le h1 h2
  clear h1 h2 hl
  have HB := Lib.hid hbad
  clear hbad
  go_enter Try.func75, Try.ntmps75
  go_wp2
  go_loop [7, 13] (fun _ i => ∃ k : Nat, k ≤ ns.length ∧ i = .int .i64 k ∧ Hid (∀ n ∈ ns.take k, okNum n)) (fun _ i => ns.length - (intOf i).toNat)
  case atStart => exact ⟨0, Nat.zero_le _, rfl, Lib.hid (by simp)⟩
  case round =>
    obtain ⟨k, hk, rfl, HK⟩ := hrel
    by_cases hlt : k < ns.length
    · obtain rfl := h3 (by omega)
      have hc := h4 k hlt
      have HS := Lib.hid (take_snoc ns k hlt)
      clear h3 h4
      by_cases g1 : ns[k] < 0
      · go_wp2
        go_ret2
        exact ⟨rfl, rfl⟩
      · by_cases g2 : 281474976710656 < ns[k]
        · go_wp2
          go_ret2
          exact ⟨rfl, rfl⟩
        · go_wp2
          go_round
          case rel =>
            refine ⟨k + 1, by omega, by go_num, Lib.hid ?_⟩
            rw [HS.out]
            intro n hn
            rcases List.mem_append.1 hn with h | h
            · exact HK.out n h
            · simp at h; subst h; exact ⟨by omega, by omega⟩
          case measure => simp [intOf]; omega
    · exact absurd (fun n hn => HK.out n (by rw [List.take_of_length_le (by omega)]; exact hn)) HB.out
end Go.Proofs.Ytpndnlnjgnckdaa
