/- Filters of bits: to ask, to count, as bytes. -/
import Derived.Test.YtjohkaonokghbaaBloomD
namespace Go.Proofs.Ytjohkaonokghbaa
open Go.RowKit

def hasP (row : List UInt8) (bits seed : Int) (l : List UInt8) (k : Nat) : Bool := (List.range k).all (fun (i : Nat) => hasBit row (probeN bits seed l (i : Int)))
theorem hasP_succ (row : List UInt8) (bits seed : Int) (l : List UInt8) (k : Nat) : hasP row bits seed l (k + 1) = (hasP row bits seed l k && hasBit row (probeN bits seed l (k : Int))) := by
  simp [hasP, List.range_succ]
def hasV (row : List UInt8) (bits probes seed : Int) (r c : Int) : Bool := verR r c && hasP row bits seed (verB r c) probes.toNat

set_option maxRecDepth 10000 in
set_option maxHeartbeats 1600000 in
theorem bHas_any {w : World} {A B : Nat} {bits probes seed : Int} {row : List UInt8} (h : BlAt w A B bits probes seed row) (hlen : row.length = (bits.toNat + 7) / 8)
    (h1 : 1 ≤ bits) (h2 : bits ≤ 4096) (h3 : 1 ≤ probes) (h4 : probes ≤ 8) (r cn : Int) :
    Calls Try.prog 35 #[.pointer (some ⟨A, 0, none⟩), .agg #[.int .i64 r, .int .i64 cn]] w fun e w' => e = .returned (.bool (hasV row bits probes seed r cn)) ∧ Ext w w' := by
  obtain ⟨q, rfl⟩ := Int.eq_ofNat_of_zero_le (show 0 ≤ probes by omega)
  have hbz : (bits == 0) = false := by simp; omega
  have hAlt := h.obj.lt
  obtain ⟨c0, c1, c2, c3⟩ := h.cells
  by_cases hvr : verR r cn = true
  · have HVR := Lib.hid hvr
    have HAV : Hid (hasV row bits (q : Int) seed r cn = hasP row bits seed (verB r cn) q) := Lib.hid (by simp [hasV, hvr])
    clear hvr
    go_enter Try.func35, Try.ntmps35
    go_wp2_with fail
    refine Calls.mono (verR_any r cn _) ?_
    rw [HVR.out]
    rintro e w1 ⟨rfl, hx1⟩
    have hx : Ext w w1 := Ext.trans (by repeat (first | assumption | exact Ext.refl _ | refine Ext.alloc ?_ _ | refine Ext.drew ?_ | refine Ext.drewN ?_ _)) hx1
    have hb1 := h.ext hx
    have hvc0 : w1.cell? ⟨w.heap.size, 0, none⟩ = some (.int .i64 r) := hx1.cell (cell_of_row _ _ 0 _ _ _ (heap_alloc_new w _))
    have hvc1 : w1.cell? ⟨w.heap.size, 1, none⟩ = some (.int .i64 cn) := hx1.cell (cell_of_row _ _ 1 _ _ _ (heap_alloc_new w _))
    clear hx1 c0 c1 c2 c3
    go_wp2_with fail
    refine Calls.mono (verB_any (ok_ver HVR.out).1 (ok_ver HVR.out).2 _) ?_
    rintro e w2 ⟨v2, rfl, hown⟩
    have hb2 := hb1.ext hown.ext
    have hxx := hx.trans hown.ext
    have hs2 := hown.sl encB_ok
    obtain ⟨c0, c1, c2, c3⟩ := hb2.cells
    clear hown hb1 hvc0 hvc1
    go_wp2
    go_loopw [29] (fun i wq => ∃ j : Nat, j ≤ q ∧ i = .int .i64 j ∧ Hid (hasP row bits seed (verB r cn) j = true) ∧ Ext w2 wq) (fun i _ => q - (intOf i).toNat)
    case atStart => exact ⟨0, Nat.zero_le _, rfl, Lib.hid rfl, Ext.refl _⟩
    case round =>
      obtain ⟨j, hj, rfl, HJ, hxj⟩ := hrel
      clear c0 c1 c2 c3
      by_cases hjt : j < q
      · have hbj := hb2.ext hxj
        obtain ⟨c0, c1, c2, c3⟩ := hbj.cells
        have hsj := hs2.ext hxj
        go_wp2_with fail
        refine Calls.mono (probe_any c0 c2 hsj h1 h2 (j : Int)) ?_
        rintro e w3 ⟨rfl, hx3⟩
        have HPS := Lib.hid (hasP_succ row bits seed (verB r cn) j)
        have hpl := probeN_lt bits seed (verB r cn) (j : Int) h1
        have hb3 := hbj.ext hx3
        have hx4 := hxj.trans hx3
        generalize probeN bits seed (verB r cn) (j : Int) = p at *
        have hp8 : p / 8 < row.length := by omega
        obtain ⟨gc, gf⟩ := hb3.get (p / 8) hp8
        obtain ⟨d0, d1, d2, d3⟩ := hb3.cells
        have HH : Hid (hasBit row p = ((row[p / 8]?.getD 0 &&& bitOf p) != 0)) := Lib.hid rfl
        have HA := and_byte (row[p / 8]?.getD 0) p
        clear hbj hb3 hsj c0 c1 c2 c3
        generalize hI : p / 8 = i8 at *
        generalize row[i8]?.getD 0 = x at *
        have hx0 := x.toNat_lt
        have hml : 2 ^ (p % 8) < 256 := by have := pow8 (p % 8) (Nat.mod_lt _ (by decide)); omega
        generalize 2 ^ (p % 8) = m at *
        generalize bitOf p = bp at *
        by_cases hz : x &&& bp = 0
        · have hzz : (Go.bits BinOp.and IntKind.u8 (x.toNat : Int) (m : Int) == 0) = true := by rw [HA, hz]; rfl
          have HF : Hid (hasP row bits seed (verB r cn) (j + 1) = false) := Lib.hid (by rw [HPS.out, HH.out, hz]; simp)
          clear HA HH HPS hI hz
          go_wp2
          go_ret
          refine ⟨ret_eq (bool_eq ?_), hxx.trans hx4⟩
          rw [HAV.out]
          have hF := HF.out
          unfold hasP at hF ⊢
          rw [List.all_eq_false] at hF
          obtain ⟨i, hi, hf⟩ := hF
          symm
          rw [List.all_eq_false]
          exact ⟨i, by simp at hi ⊢; omega, hf⟩
        · have hzz : (Go.bits BinOp.and IntKind.u8 (x.toNat : Int) (m : Int) == 0) = false := by
            rw [HA, beq_eq_false_iff_ne]
            intro he
            exact hz (UInt8.toNat_inj.1 (by simpa using he))
          have HF : Hid (hasP row bits seed (verB r cn) (j + 1) = true) := Lib.hid (by rw [HPS.out, HH.out, HJ.out]; simpa using hz)
          clear HA HH HPS hI hz HJ
          go_wp2
          go_roundw
          case rel => exact ⟨j + 1, by omega, by go_num, HF, hx4⟩
          case measure => simp [intOf]; omega
      · obtain rfl : j = q := by omega
        go_wp2
        go_ret
        refine ⟨ret_eq (bool_eq ?_), hxx.trans hxj⟩
        rw [HAV.out, HJ.out]
  · have hvf : verR r cn = false := by simpa using hvr
    have HVR := Lib.hid hvf
    have HAV : Hid (hasV row bits (q : Int) seed r cn = false) := Lib.hid (by simp [hasV, hvf])
    clear hvr hvf
    go_enter Try.func35, Try.ntmps35
    go_wp2_with fail
    refine Calls.mono (verR_any r cn _) ?_
    rw [HVR.out]
    rintro e w1 ⟨rfl, hx1⟩
    have hx : Ext w w1 := Ext.trans (by repeat (first | assumption | exact Ext.refl _ | refine Ext.alloc ?_ _ | refine Ext.drew ?_ | refine Ext.drewN ?_ _)) hx1
    go_wp2
    go_ret
    rw [HAV.out]
    exact ⟨rfl, hx⟩

/-- how many bits of a byte are set -/
def ones8 (x : UInt8) : Nat := ((List.range 8).filter (fun k => x &&& bitOf k != 0)).length
theorem ones8_zero : ones8 0 = 0 := by decide
theorem ones8_step (x : UInt8) (h : 0 < x.toNat) : ones8 x = ones8 (x &&& (x - 1)) + 1 ∧ Go.bits BinOp.and IntKind.u8 (x.toNat : Int) ((x.toNat : Int) - 1) = ((x &&& (x - 1)).toNat : Int) ∧ (x &&& (x - 1)).toNat < x.toNat := by
  have : ∀ x : Fin 256, 0 < x.val → ones8 (UInt8.ofNat x.val) = ones8 (UInt8.ofNat x.val &&& (UInt8.ofNat x.val - 1)) + 1 ∧ Go.bits BinOp.and IntKind.u8 (x.val : Int) ((x.val : Int) - 1) = ((UInt8.ofNat x.val &&& (UInt8.ofNat x.val - 1)).toNat : Int) ∧ (UInt8.ofNat x.val &&& (UInt8.ofNat x.val - 1)).toNat < x.val := by decide +kernel
  have := this ⟨x.toNat, x.toNat_lt⟩ h
  simpa using this
theorem ones8_le (x : UInt8) : ones8 x ≤ 8 := by
  have := List.length_filter_le (fun k => x &&& bitOf k != 0) (List.range 8)
  simpa [ones8] using this
def onesR (row : List UInt8) : Nat := (row.map ones8).sum
theorem onesR_snoc (row : List UInt8) (x : UInt8) : onesR (row ++ [x]) = onesR row + ones8 x := by simp [onesR]
theorem onesR_le (row : List UInt8) : onesR row ≤ 8 * row.length := by
  induction row with
  | nil => simp [onesR]
  | cons x l ih => have := ones8_le x; simp [onesR] at ih ⊢; omega

set_option maxRecDepth 10000 in
set_option maxHeartbeats 800000 in
theorem bOnes_any {w : World} {A B : Nat} {bits probes seed : Int} {row : List UInt8} (h : BlAt w A B bits probes seed row) (hlen : row.length ≤ 4096) :
    Calls Try.prog 39 #[.pointer (some ⟨A, 0, none⟩)] w (RetW w (.int .i64 (onesR row))) := by
  obtain ⟨c0, c1, c2, c3⟩ := h.cells
  go_enter Try.func39, Try.ntmps39
  go_wp2
  go_loop [3, 13] (fun n i => ∃ k : Nat, k ≤ row.length ∧ i = .int .i64 k ∧ n = .int .i64 (onesR (row.take k) : Nat)) (fun _ i => row.length - (intOf i).toNat)
  case atStart => exact ⟨0, Nat.zero_le _, rfl, rfl⟩
  case round =>
    obtain ⟨k, hk, rfl, rfl⟩ := hrel
    by_cases hlt : k < row.length
    · obtain ⟨gc, gf⟩ := h.get k hlt
      have hO := onesR_le (row.take k)
      have hT : (row.take k).length ≤ k := List.length_take_le _ _
      have hO2 : onesR (row.take k) ≤ 40000 := by omega
      have HS : Hid (onesR (row.take (k + 1)) = onesR (row.take k) + ones8 (row[k]?.getD 0)) := Lib.hid (by rw [take_snoc row k hlt, onesR_snoc]; simp [hlt])
      generalize row[k]?.getD 0 = x0 at *
      generalize onesR (row.take k) = n0 at *
      have h8 := ones8_le x0
      have hx0 := x0.toNat_lt
      generalize hY : ones8 x0 = y at *
      have HY := Lib.hid hY
      clear hT hY h hO
      go_wp2
      go_loop [3, 5] (fun n c => ∃ (x : UInt8) (m : Nat), c = .int .u8 (x.toNat : Int) ∧ n = .int .i64 (m : Int) ∧ m + ones8 x = n0 + y) (fun _ c => (intOf c).toNat)
      case atStart => exact ⟨x0, n0, rfl, rfl, by rw [HY.out]⟩
      case round =>
        obtain ⟨x, m, rfl, rfl, hm⟩ := hrel
        have hx := x.toNat_lt
        by_cases hz : 0 < x.toNat
        · obtain ⟨e1, e2, e3⟩ := ones8_step x hz
          rw [e1] at hm
          generalize x &&& (x - 1) = z at *
          clear e1
          have hmb : m ≤ 50000 := by omega
          go_wp2
          go_round
          case rel => exact ⟨z, m + 1, rfl, by go_num, by omega⟩
          case measure => simp [intOf]; omega
        · have hz0 : x = 0 := UInt8.toNat_inj.1 (by simp at hz ⊢; omega)
          subst hz0
          have hm' : m = n0 + y := by rw [ones8_zero] at hm; omega
          clear hm hz hx
          subst hm'
          go_wp2
          go_round
          case rel => exact ⟨k + 1, by omega, by go_num, by rw [HS.out]⟩
          case measure => simp [intOf]; omega
    · have HT : Hid (row.take k = row) := Lib.hid (List.take_of_length_le (by omega))
      rw [HT.out]
      go_wp2
      go_ret
      exact ⟨rfl, rfl⟩
end Go.Proofs.Ytjohkaonokghbaa
