/- Are two slices of bytes the same (ref01.Bytes). -/
import Derived.Test.YtjohkaonokghbaaVarint
import Derived.Deep.QuietTactic
import Derived.BigQuiet
namespace Go.Proofs.Ytjohkaonokghbaa
open Go.RowKit
set_option maxRecDepth 10000 in
set_option maxHeartbeats 800000 in
theorem bytesEq_any (va vb : Value) (a b : List UInt8) (w : World) (ha : Bs w va a) (hb : Bs w vb b) :
    Calls Try.prog 31 #[va, vb] w fun e w' => e = .returned (.bool (decide (a = b))) ∧ Ext w w' := by
  obtain ⟨aa, ca, ba, oa, rfl, h1, h2, h3, h4⟩ := ha.open
  obtain ⟨ab, cb, bb, ob, rfl, g1, g2, g3, g4⟩ := hb.open
  have h5 := len_le h1 h2
  have g5 := len_le g1 g2
  clear ha hb h1 h2 g1 g2
  by_cases hl : a.length = b.length
  · have hlb : ((a.length : Int) == (b.length : Int)) = true := by simp [hl]
    have hlb' : ((a.length : Int) != (b.length : Int)) = false := by simp [hl]
    have HL := Lib.hid hl
    clear hl
    go_enter Try.func31, Try.ntmps31
    go_wp2
    go_loopw [5] (fun i wr => ∃ k : Nat, k ≤ a.length ∧ i = .int .i64 k ∧ Hid (a.take k = b.take k) ∧ Ext w wr) (fun i _ => a.length - (intOf i).toNat)
    case atStart => exact ⟨0, Nat.zero_le _, rfl, Lib.hid rfl, Ext.refl _⟩
    case round =>
      obtain ⟨k, hk, rfl, HK, hx⟩ := hrel
      by_cases hlt : k < a.length
      · have hltb : k < b.length := by have := HL.out; omega
        obtain rfl := h3 (by omega)
        obtain rfl := g3 (by omega)
        have hc := hx.cell (h4 k hlt)
        have gc := hx.cell (g4 k hltb)
        have HS := Lib.hid (take_snoc a k hlt)
        have GS := Lib.hid (take_snoc b k hltb)
        have hea : Hid (a[k]? = some a[k]) := Lib.hid (by simp [hlt])
        have heb : Hid (b[k]? = some b[k]) := Lib.hid (by simp [hltb])
        generalize a[k] = x at *
        generalize b[k] = y at *
        clear h3 h4 g3 g4
        by_cases hxy : x = y
        · subst hxy
          have hxx : ((x.toNat : Int) == (x.toNat : Int)) = true := by simp
          go_wp2
          go_quiet (fail)
          go_wp2
          go_roundw
          case rel => exact ⟨k + 1, by omega, by go_num, Lib.hid (by rw [HS.out, GS.out, HK.out]), hx.drewN _⟩
          case measure => simp [intOf]; omega
        · have hb1 : ((x.toNat : Int) == (y.toNat : Int)) = false := by
            rw [beq_eq_false_iff_ne]; intro h; exact hxy (UInt8.toNat_inj.1 (by omega))
          have hb2 : ((x.toNat : Int) != (y.toNat : Int)) = true := by
            rw [bne_iff_ne]; intro h; exact hxy (UInt8.toNat_inj.1 (by omega))
          have HX := Lib.hid hxy
          clear hxy
          go_wp2
          go_quiet (fail)
          go_wp2
          go_ret
          refine ⟨ret_eq (bool_eq (Eq.symm (decide_eq_false ?_))), hx.drewN _⟩
          rintro rfl
          have := hea.out.symm.trans heb.out
          simp at this
          exact HX.out this
      · have ha : a.take k = a := List.take_of_length_le (by omega)
        have hb : b.take k = b := List.take_of_length_le (by have := HL.out; omega)
        have HE : Hid (a = b) := Lib.hid (by have := HK.out; rw [ha, hb] at this; exact this)
        clear ha hb
        go_wp2
        go_ret
        exact ⟨ret_eq (bool_eq (Eq.symm (decide_eq_true HE.out))), hx⟩
  · have hlb : ((a.length : Int) == (b.length : Int)) = false := by rw [beq_eq_false_iff_ne]; omega
    have hlb' : ((a.length : Int) != (b.length : Int)) = true := by rw [bne_iff_ne]; omega
    have HL := Lib.hid hl
    clear hl
    go_enter Try.func31, Try.ntmps31
    go_wp2
    go_ret
    refine ⟨ret_eq (bool_eq (Eq.symm (decide_eq_false ?_))), Ext.refl _⟩
    rintro rfl
    exact HL.out rfl
end Go.Proofs.Ytjohkaonokghbaa
