/- The law HashParts, walked. -/
import Derived.Test.YtjohkaonokghbaaCut
import Derived.Test.YtjohkaonokghbaaVarint
import Derived.Lib.SlBytesConst
namespace Go.Proofs.Ytjohkaonokghbaa
open Go.RowKit

theorem hashOf_nn (seed : Int) (l : List UInt8) : 0 ≤ hashOf seed l := wrapu_nn _
theorem hashOf_lt (seed : Int) (l : List UInt8) : hashOf seed l < 18446744073709551616 := wrapu_lt _

theorem cutA : cut 5 1 = 1 := by decide
theorem cutB : cut 5 0 = 0 := by decide
theorem cutC : cut 9223372036854775808 99 = 9223372036854775808 := by decide
theorem hashA : hashOf 0 [97] = 12638187199001669824 := by decide +kernel

set_option maxHeartbeats 400000 in
theorem awake20_any (w : World) : Calls Try.prog 15 #[] w fun e w' => e = .returned (.bool true) ∧ Ext w w' := by
  have H63 : Hid ((0 : Int) ≤ 9223372036854775808 ∧ (9223372036854775808 : Int) < 18446744073709551616 ∧ cut 9223372036854775808 99 = 9223372036854775808) := Lib.hid ⟨by decide, by decide, cutC⟩
  have HA := Lib.hid hashA
  have kc := fun (w : World) (C : Array Value) (n c : Nat) => Lib.run_convert_bytes_const (P := Try.prog) w 25 5 C n c Try.underlying25 Try.underlying5
  go_enter Try.func15, Try.ntmps15
  generalize (9223372036854775808 : Int) = C at *
  generalize (12638187199001669824 : Int) = D at *
  go_wp2_with fail
  refine (cut_any _ _ _ (by decide) (by decide)).mono ?_; rw [cutA]; rintro e w' ⟨rfl, rfl⟩
  go_wp2_with fail
  refine (cut_any _ _ _ (by decide) (by decide)).mono ?_; rw [cutB]; rintro e w' ⟨rfl, rfl⟩
  go_wp2_with fail
  refine (cut_any _ _ _ H63.out.1 H63.out.2.1).mono ?_; rw [H63.out.2.2]; rintro e w' ⟨rfl, rfl⟩
  go_wp2_with fail
  refine (hashOf_any _ _ [[97]] _ ?_).mono ?_
  · refine ⟨[.slice (some ⟨w.heap.size, 0, none⟩) 1 1], rfl, Sl.lit (fun _ => rfl) (by (repeat refine (heap_drew_at _ _).trans ?_); first | (refine heap_new_at _ _ _ ?_ <;> (first | rfl | (simp; done) | (simp; omega))) | (refine (heap_old_at _ _ _ ?_).trans (heap_new_at _ _ _ ?_) <;> (first | rfl | (simp; done) | (simp; omega))) | (refine (heap_old_at _ _ _ ?_).trans ((heap_old_at _ _ _ ?_).trans (heap_new_at _ _ _ ?_)) <;> (first | rfl | (simp; done) | (simp; omega))) | (refine (heap_old_at _ _ _ ?_).trans ((heap_old_at _ _ _ ?_).trans ((heap_old_at _ _ _ ?_).trans (heap_new_at _ _ _ ?_))) <;> (first | rfl | (simp; done) | (simp; omega))) | (refine (heap_old_at _ _ _ ?_).trans ((heap_old_at _ _ _ ?_).trans ((heap_old_at _ _ _ ?_).trans ((heap_old_at _ _ _ ?_).trans (heap_new_at _ _ _ ?_)))) <;> (first | rfl | (simp; done) | (simp; omega)))) rfl rfl (by decide) (by decide), ?_⟩
    intro i h1 h2
    obtain rfl : i = 0 := by simp at h1; omega
    exact Sl.lit (l := [97]) (fun _ => rfl) (by (repeat refine (heap_drew_at _ _).trans ?_); first | (refine heap_new_at _ _ _ ?_ <;> (first | rfl | (simp; done) | (simp; omega))) | (refine (heap_old_at _ _ _ ?_).trans (heap_new_at _ _ _ ?_) <;> (first | rfl | (simp; done) | (simp; omega))) | (refine (heap_old_at _ _ _ ?_).trans ((heap_old_at _ _ _ ?_).trans (heap_new_at _ _ _ ?_)) <;> (first | rfl | (simp; done) | (simp; omega))) | (refine (heap_old_at _ _ _ ?_).trans ((heap_old_at _ _ _ ?_).trans ((heap_old_at _ _ _ ?_).trans (heap_new_at _ _ _ ?_))) <;> (first | rfl | (simp; done) | (simp; omega))) | (refine (heap_old_at _ _ _ ?_).trans ((heap_old_at _ _ _ ?_).trans ((heap_old_at _ _ _ ?_).trans ((heap_old_at _ _ _ ?_).trans (heap_new_at _ _ _ ?_)))) <;> (first | rfl | (simp; done) | (simp; omega)))) rfl rfl (by decide) (by decide)
  · have HA' : Hid (hashOf 0 [[(97 : UInt8)]].flatten = D) := HA
    rw [HA'.out]
    rintro e w' ⟨rfl, rfl⟩
    go_wp2
    go_ret
    exact ⟨rfl, ((Ext.refl _).alloc _).alloc _⟩


set_option maxHeartbeats 800000 in
theorem hashParts_any (seed n : Int) (v : Value) (ls : List (List UInt8)) (w : World) (hv : Bss w v ls) :
    Calls Try.prog 3 #[.int .u64 seed, v, .int .i64 n] w fun e w' => e = .returned (.bool true) ∧ Ext w w' := by
  have HV := hv
  obtain ⟨vs, hl, hs, hb⟩ := hv
  obtain ⟨a, c, b, o, rfl, h1, h2, h3, h4⟩ := hs.open1
  have h5 := len_le h1 h2
  have HL := Lib.hid hl
  clear hs h1 h2 hl
  go_enter Try.func3, Try.ntmps3
  go_wp2_with fail
  refine (awake20_any _).mono ?_
  rintro e w1 ⟨rfl, hx⟩
  have HV1 := HV.ext hx
  by_cases hn : 20 < vs.length
  · clear h4
    go_wp2
    go_ret
    exact ⟨rfl, hx⟩
  · have hn' : vs.length ≤ 20 := by omega
    clear hn
    go_wp2
    go_loopw [7, 9, 18] (fun v p i wr => ∃ k : Nat, k ≤ vs.length ∧ i = .int .i64 k ∧ Own 5 1 encB w1 wr v (ls.take k).flatten ∧ (ls.take k).flatten.length ≤ 300 * k) (fun _ _ i _ => vs.length - (intOf i).toNat)
    case atStart => exact ⟨0, Nat.zero_le _, rfl, Own.nil (Ext.refl _), by simp⟩
    case round =>
      obtain ⟨k, hk, rfl, hown, hlen⟩ := hrel
      by_cases hlt : k < vs.length
      · obtain rfl := h3 (by omega)
        have hc' := hown.ext.cell (hx.cell (h4 k hlt))
        have hp := (hb k hlt (by have := HL.out; omega)).ext (hx.trans hown.ext)
        have HS := Lib.hid (take_snoc ls k (by have := HL.out; omega))
        generalize ls[k] = p at *
        have hp0 := hp
        obtain ⟨a1, c1, b1, o1, hv1, g1, g2, g3, g4⟩ := Bs.open hp
        rw [hv1] at hc' hp0
        have g5 := len_le g1 g2
        clear h3 h4 hb g1 g2 hv1 hp g3 g4
        by_cases hbig : 300 < p.length
        · go_wp2
          go_ret
          exact ⟨rfl, hx.trans hown.ext⟩
        · go_wp2_with (at_builtin; refine wpList_app rfl _ _ 25 rfl tiB encB_ok w1 _ p _ _ rfl rfl hown hp0 ?_ ?_ ?_)
          · unfold maxLen; omega
          · omega
          · intro v' w2 r HR hown2 _ _
            clear hc' hown
            go_wp2
            go_roundw
            case rel => exact ⟨k + 1, by omega, by go_num, by rw [HS.out]; rw [HR.out] at hown2; simpa using hown2, by rw [HS.out]; simp at *; omega⟩
            case measure => simp [intOf]; omega
      · have HT : Hid (ls.take k = ls) := Lib.hid (List.take_of_length_le (by have := HL.out; omega))
        have HV2 := HV1.ext hown.ext
        rw [HT.out] at hown
        have hown2 := hown.sl encB_ok
        have hext := hx.trans hown.ext
        clear hown h4 hb hlen
        go_wp2_with fail
        refine (hashOf_any _ _ ls _ HV2).mono ?_
        rintro e w3 ⟨rfl, rfl⟩
        have hh0 := hashOf_nn seed ls.flatten
        have hh1 := Lib.hid (hashOf_lt seed ls.flatten)
        go_wp2_with fail
        refine (refOf_any _ _ ls.flatten _ hown2).mono ?_
        rintro e w3 ⟨rfl, rfl⟩
        go_wp2_with fail
        refine (cut_any _ _ _ hh0 hh1.out).mono ?_
        rintro e w3 ⟨rfl, rfl⟩
        go_wp2_with fail
        refine (refCut_any _ _ _ hh0 hh1.out).mono ?_
        rintro e w3 ⟨rfl, rfl⟩
        go_wp2
        go_ret
        exact ⟨rfl, hext⟩
end Go.Proofs.Ytjohkaonokghbaa
