/- The law BloomKeeps, walked. -/
import Derived.Test.YtjohkaonokghbaaBloomOrder
import Derived.Test.YtjohkaonokghbaaBloomRead
import Derived.Test.YtjohkaonokghbaaVarintPuts
namespace Go.Proofs.Ytjohkaonokghbaa
open Go.RowKit

theorem within_put {n lo hi : Int} (h : okNum n) (h1 : lo ≤ n) (h2 : n ≤ hi) (r : List UInt8) : withinSt lo hi (numI n ++ r) 0 = (n, r, 0) := by
  unfold withinSt
  rw [num_read n h r, if_neg (by simp; omega)]
theorem text_putm (most : Int) (s : ByteArray) (h : s.size ≤ 4096) (hm : (s.size : Int) ≤ most) : textSt most (textB s) 0 = (s.data.toList, [], 0) := by
  have hn : withinSt 0 most (textB s) 0 = ((s.size : Int), s.data.toList, 0) := by
    have := within_put (n := (s.size : Int)) (lo := 0) (hi := most) (by unfold okNum; omega) (by omega) hm s.data.toList
    simpa [textB, numI] using this
  have hl : s.data.toList.length = s.size := Array.length_toList
  generalize s.data.toList = d at *
  unfold textSt
  rw [hn]
  dsimp only
  rw [if_neg (by omega), if_neg (by omega), Int.toNat_natCast, ← hl, List.take_length, List.drop_length]
theorem text_put (s : ByteArray) (h : s.size ≤ 4096) : textSt 281474976710656 (textB s) 0 = (s.data.toList, [], 0) := text_putm _ s h (by omega)
theorem parse_put {bits probes : Int} {row : List UInt8} (h1 : 1 ≤ bits) (h2 : bits ≤ 4096) (h3 : 1 ≤ probes) (h4 : probes ≤ 8) (hl : row.length ≤ 4096) :
    withinSt 1 4096 (bloomB bits probes row) 0 = (bits, numI probes ++ textB ⟨row.toArray⟩, 0) ∧ withinSt 1 8 (numI probes ++ textB ⟨row.toArray⟩) 0 = (probes, textB ⟨row.toArray⟩, 0) ∧ textSt 281474976710656 (textB ⟨row.toArray⟩) 0 = (row, [], 0) := by
  refine ⟨?_, within_put (by unfold okNum; omega) h3 h4 _, text_put ⟨row.toArray⟩ hl⟩
  have := within_put (n := bits) (lo := 1) (hi := 4096) (by unfold okNum; omega) h1 h2 (numI probes ++ textB ⟨row.toArray⟩)
  simpa [bloomB] using this
theorem top_bit (x : UInt8) (j : Nat) (hj : j < 8) (h : 0 < x.toNat / 2 ^ j) : ∃ k, j ≤ k ∧ k < 8 ∧ (x &&& bitOf k != 0) = true := by
  have : ∀ j : Fin 8, ∀ x : Fin 256, 0 < x.val / 2 ^ j.val → ∃ k : Fin 8, j.val ≤ k.val ∧ (UInt8.ofNat x.val &&& bitOf k.val != 0) = true := by decide +kernel
  obtain ⟨k, h1, h2⟩ := this ⟨j, hj⟩ ⟨x.toNat, x.toNat_lt⟩ h
  exact ⟨k.val, h1, k.isLt, by simpa using h2⟩
theorem not_top {bits : Int} {row : List UInt8} (h1 : 1 ≤ bits) (hl : row.length = (bits.toNat + 7) / 8) (h : ∀ n, hasBit row n = true → (n : Int) < bits) : ¬ topBad bits row := by
  rintro ⟨ha, hb⟩
  obtain ⟨k, k1, k2, k3⟩ := top_bit _ _ (Nat.mod_lt _ (by decide)) hb
  have := h (8 * (row.length - 1) + k) (by
    unfold hasBit
    rw [show (8 * (row.length - 1) + k) / 8 = row.length - 1 by omega, show bitOf (8 * (row.length - 1) + k) = bitOf k by unfold bitOf; rw [show (8 * (row.length - 1) + k) % 8 = k % 8 by omega]]
    simpa using k3)
  omega
theorem addAll_top {bits probes seed : Int} (h1 : 1 ≤ bits) {n : Nat} (hn : n = (bits.toNat + 7) / 8) (vs : List (Int × Int)) : ¬ topBad bits (addAll (List.replicate n 0) bits probes seed vs) := by
  refine not_top h1 (by rw [addAll_len, List.length_replicate]; exact hn) fun m hm => ?_
  rw [addAll_bits h1 hn, List.any_eq_true] at hm
  obtain ⟨v, _, hi⟩ := hm
  exact inV_lt h1 hi
theorem addAll_has {bits probes seed : Int} (h1 : 1 ≤ bits) {n : Nat} (hn : n = (bits.toNat + 7) / 8) (vs : List (Int × Int)) (v : Int × Int) (hv : v ∈ vs) (hr : verR v.1 v.2 = true) : hasV (addAll (List.replicate n 0) bits probes seed vs) bits probes seed v.1 v.2 = true := by
  unfold hasV hasP
  rw [hr, Bool.true_and, List.all_eq_true]
  intro i hi
  rw [addAll_bits h1 hn, List.any_eq_true]
  refine ⟨v, hv, ?_⟩
  unfold inV
  rw [hr, Bool.true_and, List.any_eq_true]
  exact ⟨i, hi, by simp⟩
theorem bloomB_len {bits probes : Int} {row : List UInt8} (h1 : 1 ≤ bits) (h2 : bits ≤ 4096) (h3 : 1 ≤ probes) (h4 : probes ≤ 8) (hl : row.length ≤ 4096) : (bloomB bits probes row).length ≤ 5000 := by
  have ob : okNum bits := by unfold okNum; omega
  have op : okNum probes := by unfold okNum; omega
  have := numI_le _ ob
  have := numI_le _ op
  have := numB_len9 (ByteArray.mk row.toArray).size (by show row.toArray.size ≤ _; simp; omega)
  unfold bloomB textB
  simp; omega

set_option maxRecDepth 10000 in
set_option maxHeartbeats 1600000 in
theorem bloomKeeps_any (n0 n1 seed : Int) (p0 : 0 ≤ n0) (p1 : n0 ≤ 255) (p2 : 0 ≤ n1) (p3 : n1 ≤ 255) (vl : Value) (vs : List (Int × Int)) (w : World) (hv : Sl 2 encV w vl vs) :
    Calls Try.prog 14 #[.agg #[.int .u8 n0, .int .u8 n1], .int .u64 seed, vl] w fun e w' => e = .returned (.bool true) ∧ Ext w w' := by
  have HV := hv
  obtain ⟨a, c, b, o, rfl, g1, g2, g3, g4⟩ := Vs.open hv
  have g5 := len_le g1 g2
  have hb1 : 1 ≤ 1 + n0 := by omega
  have hb2 : 1 + n0 ≤ 4096 := by omega
  have hb3 : 1 ≤ 1 + n1 % 8 := by omega
  have hb4 : 1 + n1 % 8 ≤ 8 := by omega
  clear hv g1 g2
  go_enter Try.func14, Try.ntmps14
  go_wp2_with fail
  refine Calls.mono (awake31_any _) ?_
  rintro e w1 ⟨rfl, hx1⟩
  have hw1 : Ext w w1 := Ext.trans (by repeat (first | assumption | exact Ext.refl _ | refine Ext.alloc ?_ _ | refine Ext.drew ?_ | refine Ext.drewN ?_ _)) hx1
  have hn0 : w1.cell? ⟨w.heap.size, 0, none⟩ = some (.int .u8 n0) := hx1.cell (cell_of_row _ _ 0 _ _ _ (heap_alloc_new w _))
  have hn1 : w1.cell? ⟨w.heap.size, 1, none⟩ = some (.int .u8 n1) := hx1.cell (cell_of_row _ _ 1 _ _ _ (heap_alloc_new w _))
  clear hx1
  by_cases hbig : 30 < vs.length
  · go_wp2
    go_ret
    exact ⟨rfl, hw1⟩
  · have hsm : vs.length ≤ 30 := by omega
    clear hbig
    go_wp2_with fail
    refine Calls.mono (bNew_ok (1 + n0) (1 + n1 % 8) seed _ hb1 hb2 hb3 hb4) ?_
    rintro e w2 ⟨A, B, rfl, hA, hB, hAB, ha2, hx2⟩
    have hv2 := (HV.ext hw1).ext hx2
    have hX2 := hw1.trans hx2
    have hwB := Nat.le_trans hw1.size hB
    obtain ⟨z, hz⟩ : ∃ z, z = ((1 + n0).toNat + 7) / 8 := ⟨_, rfl⟩
    rw [← hz] at ha2
    have hz4 : z ≤ 4096 := by omega
    have hZ := Lib.hid hz
    clear hz hA hB hn0 hn1 hx2 hw1
    go_wp2_with fail
    refine Calls.mono (bAdd_any ha2 hAB (by rw [List.length_replicate]; exact hZ.out) hb1 hb2 hb3 hb4 hv2) ?_
    rintro e w3 ⟨rfl, ha3, hg3⟩
    have hv3 := vs_grown ha2.row hv2 hg3
    have hX3 : Ext w w3 := hX2.grown hg3 (by intro k hk; cases hk; exact hwB)
    clear ha2 hv2 hX2 hg3
    have HL : Hid ((addAll (List.replicate z 0) (1 + n0) (1 + n1 % 8) seed vs).length = z) := Lib.hid (by rw [addAll_len, List.length_replicate])
    have HT : Hid (¬ topBad (1 + n0) (addAll (List.replicate z 0) (1 + n0) (1 + n1 % 8) seed vs)) := Lib.hid (addAll_top hb1 hZ.out vs)
    have HA : Hid (addAll (addAll (List.replicate z 0) (1 + n0) (1 + n1 % 8) seed vs) (1 + n0) (1 + n1 % 8) seed vs = addAll (List.replicate z 0) (1 + n0) (1 + n1 % 8) seed vs) :=
      Lib.hid (by rw [← addAll_app]; exact addAll_same hb1 hZ.out (by simp))
    have HH : Hid (∀ v, v ∈ vs → verR v.1 v.2 = true → hasV (addAll (List.replicate z 0) (1 + n0) (1 + n1 % 8) seed vs) (1 + n0) (1 + n1 % 8) seed v.1 v.2 = true) := Lib.hid (fun v h1 h2 => addAll_has hb1 hZ.out vs v h1 h2)
    generalize addAll (List.replicate z 0) (1 + n0) (1 + n1 % 8) seed vs = row at *
    go_wp2_with fail
    refine Calls.mono (bBytes_any ha3 (by rw [HL.out]; exact hz4) hb1 hb2 hb3 hb4) ?_
    rintro e w4 ⟨v4, rfl, hown4⟩
    have ha4 := ha3.ext hown4.ext
    have hv4 := hv3.ext hown4.ext
    have hX4 := hX3.trans hown4.ext
    have hs4 := hown4.sl encB_ok
    have hQ := parse_put (row := row) hb1 hb2 hb3 hb4 (by rw [HL.out]; exact hz4)
    have hQ1 := Lib.hid hQ.1
    have hQ2 := Lib.hid hQ.2.1
    have hQ3 := Lib.hid hQ.2.2
    have hBl := bloomB_len (row := row) hb1 hb2 hb3 hb4 (by rw [HL.out]; exact hz4)
    clear ha3 hv3 hX3 hown4 hQ
    go_wp2_with fail
    refine Calls.mono (bRead_any hs4 (by omega) hQ1 hQ2 hQ3 (Lib.hid rfl) (by rw [HL.out]; exact hZ.out)) ?_
    rintro e w5 ⟨-, hok, hx5⟩
    obtain ⟨C, D, rfl, hC, hD, hCD, hc5⟩ := hok HT.out
    have ha5 := ha4.ext hx5
    have hv5 := hv4.ext hx5
    have hX5 := hX4.trans hx5
    have hAD : A ≠ D := by have := ha4.obj.lt; omega
    have hBD : B ≠ D := by have := ha4.row.lt; omega
    have hwD := Nat.le_trans hX4.size hD
    clear ha4 hv4 hs4 hok hx5 hQ1 hQ2 hQ3 hC hD hX4
    go_wp2_with fail
    refine Calls.mono (bAdd_any hc5 hCD (by rw [HL.out]; exact hZ.out) hb1 hb2 hb3 hb4 hv5) ?_
    rw [HA.out]
    rintro e w6 ⟨rfl, hc6, hg6⟩
    have ha6 := ha5.grown hg6 hAD hBD
    have hv6 := vs_grown hc5.row hv5 hg6
    have hX6 : Ext w w6 := hX5.grown hg6 (by intro k hk; cases hk; exact hwD)
    have hLR : Hid (row.length = ((1 + n0).toNat + 7) / 8) := Lib.hid (by rw [HL.out]; exact hZ.out)
    clear ha5 hv5 hX5 hc5 hg6 g4
    obtain ⟨a', c', b', o', hv', -, -, g3', g4⟩ := Vs.open hv6
    simp only [Value.slice.injEq] at hv'
    obtain ⟨rfl, -, rfl⟩ := hv'
    clear hv6 g3
    go_wp2
    go_loopw [51] (fun i wr => ∃ k : Nat, k ≤ vs.length ∧ i = .int .i64 k ∧ Ext w6 wr) (fun i _ => vs.length - (intOf i).toNat)
    case atStart => exact ⟨0, Nat.zero_le _, rfl, Ext.refl _⟩
    case round =>
      obtain ⟨k, hk, rfl, hxr⟩ := hrel
      by_cases hlt : k < vs.length
      · obtain rfl := g3' (by omega)
        have hc0 := hxr.cell (g4 k hlt).1
        have hc1 := hxr.cell (g4 k hlt).2
        have HM : Hid (vs[k] ∈ vs) := Lib.hid (List.getElem_mem hlt)
        generalize vs[k] = v at *
        obtain ⟨r, cn⟩ := v
        dsimp only at hc0 hc1
        have har := ha6.ext hxr
        have hcr := hc6.ext hxr
        clear g4 g3'
        by_cases hvr : verR r cn = true
        · have HVR := Lib.hid hvr
          have HHV := Lib.hid (HH.out (r, cn) HM.out hvr)
          clear hvr
          go_wp2_with fail
          refine Calls.mono (refVerR_any r cn _) ?_
          rw [HVR.out]
          rintro e w7 ⟨rfl, hx7⟩
          have hx : Ext wr w7 := Ext.trans (by repeat (first | assumption | exact Ext.refl _ | refine Ext.alloc ?_ _ | refine Ext.drew ?_ | refine Ext.drewN ?_ _)) hx7
          have hvc0 : w7.cell? ⟨wr.heap.size, 0, none⟩ = some (.int .i64 r) := hx7.cell (cell_of_row _ _ 0 _ _ _ (heap_alloc_new wr _))
          have hvc1 : w7.cell? ⟨wr.heap.size, 1, none⟩ = some (.int .i64 cn) := hx7.cell (cell_of_row _ _ 1 _ _ _ (heap_alloc_new wr _))
          clear hx7 hc0 hc1
          go_wp2_with fail
          refine Calls.mono (bHas_any (har.ext hx) hLR.out hb1 hb2 hb3 hb4 r cn) ?_
          rw [show hasV row (1 + n0) (1 + n1 % 8) seed r cn = true from HHV.out]
          rintro e w8 ⟨rfl, hx8⟩
          have hvd0 := hx8.cell hvc0
          have hvd1 := hx8.cell hvc1
          clear hvc0 hvc1
          go_wp2_with fail
          refine Calls.mono (bHas_any (hcr.ext (hx.trans hx8)) hLR.out hb1 hb2 hb3 hb4 r cn) ?_
          rw [show hasV row (1 + n0) (1 + n1 % 8) seed r cn = true from HHV.out]
          rintro e w9 ⟨rfl, hx9⟩
          have hxe := hxr.trans ((hx.trans hx8).trans hx9)
          clear hvd0 hvd1
          go_wp2
          go_roundw
          case rel => exact ⟨k + 1, by omega, by go_num, hxe⟩
          case measure => simp [intOf]; omega
        · have hvf : verR r cn = false := by simpa using hvr
          have HVR := Lib.hid hvf
          clear hvr hvf
          go_wp2_with fail
          refine Calls.mono (refVerR_any r cn _) ?_
          rw [HVR.out]
          rintro e w7 ⟨rfl, hx7⟩
          have hx : Ext wr w7 := Ext.trans (by repeat (first | assumption | exact Ext.refl _ | refine Ext.alloc ?_ _ | refine Ext.drew ?_ | refine Ext.drewN ?_ _)) hx7
          have hxe := hxr.trans hx
          go_wp2
          go_roundw
          case rel => exact ⟨k + 1, by omega, by go_num, hxe⟩
          case measure => simp [intOf]; omega
      · generalize hN : onesR row = N at *
        have HN := Lib.hid hN
        clear hN g4 g3'
        go_wp2_with fail
        refine Calls.mono (bOnesN_any (ha6.ext hxr) (by rw [HL.out]; exact hz4) HN) ?_
        rintro e w7 ⟨rfl, rfl⟩
        go_wp2_with fail
        refine Calls.mono (bOnesN_any (hc6.ext hxr) (by rw [HL.out]; exact hz4) HN) ?_
        rintro e w7 ⟨rfl, rfl⟩
        go_wp2
        go_ret
        exact ⟨rfl, hX6.trans hxr⟩
end Go.Proofs.Ytjohkaonokghbaa
