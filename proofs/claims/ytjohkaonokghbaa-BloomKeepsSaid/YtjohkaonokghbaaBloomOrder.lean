/- The law BloomOrder, walked. -/
import Derived.Test.YtjohkaonokghbaaBloomF
import Derived.Test.YtjohkaonokghbaaBloomLaw
namespace Go.Proofs.Ytjohkaonokghbaa
open Go.RowKit

theorem vs_grown {w w' : World} {B : Nat} {T : TypeId} {row : List UInt8} (h : ObjAt w B T (rowC row)) {v : Value} {l : List (Int × Int)} (hv : Sl 2 encV w v l) (hg : w.grownBy w' (some B)) : Sl 2 encV w' v l := by
  refine hv.grown hg ?_
  rintro b o y hc ⟨x, hx⟩
  simp [encV] at hx
  rcases hx with rfl | rfl
  · exact row_ne h hc
  · exact row_ne h hc
theorem BlAt.grown {w w' : World} {A B B' : Nat} {bits probes seed : Int} {row : List UInt8} (h : BlAt w A B bits probes seed row) (hg : w.grownBy w' (some B')) (h1 : A ≠ B') (h2 : B ≠ B') : BlAt w' A B bits probes seed row :=
  ⟨h.obj.grown hg (by simpa using h1), h.row.grown hg (by simpa using h2)⟩
theorem bytesSame (va vb : Value) (l : List UInt8) (w : World) (ha : Bs w va l) (hb : Bs w vb l) : Calls Try.prog 31 #[va, vb] w fun e w' => e = .returned (.bool true) ∧ Ext w w' := by
  have := bytesEq_any va vb l l w ha hb
  simpa using this
theorem bOnesN_any {w : World} {A B : Nat} {bits probes seed : Int} {row : List UInt8} (h : BlAt w A B bits probes seed row) (hlen : row.length ≤ 4096) {N : Nat} (hN : Hid (onesR row = N)) :
    Calls Try.prog 39 #[.pointer (some ⟨A, 0, none⟩)] w (RetW w (.int .i64 N)) := by
  rw [← hN.out]; exact bOnes_any h hlen
theorem arg0 {w w' : World} {x : Value} {W : World} (h0 : W.cell? ⟨w.heap.size, 0, none⟩ = some x) (h : Ext W w') : Ext W w' ∧ w'.cell? ⟨w.heap.size, 0, none⟩ = some x := ⟨h, h.cell h0⟩

set_option maxRecDepth 10000 in
set_option maxHeartbeats 1600000 in
theorem bloomOrder_any (n0 n1 seed : Int) (p0 : 0 ≤ n0) (p1 : n0 ≤ 255) (p2 : 0 ≤ n1) (p3 : n1 ≤ 255) (vl : Value) (vs : List (Int × Int)) (w : World) (hv : Sl 2 encV w vl vs) :
    Calls Try.prog 7 #[.agg #[.int .u8 n0, .int .u8 n1], .int .u64 seed, vl] w fun e w' => e = .returned (.bool true) ∧ Ext w w' := by
  have HV := hv
  obtain ⟨a, c, b, o, rfl, g1, g2, g3, g4⟩ := Vs.open hv
  have g5 := len_le g1 g2
  have hb1 : 1 ≤ 1 + n0 := by omega
  have hb2 : 1 + n0 ≤ 4096 := by omega
  have hb3 : 1 ≤ 1 + n1 % 8 := by omega
  have hb4 : 1 + n1 % 8 ≤ 8 := by omega
  clear hv g1 g2 g4
  go_enter Try.func7, Try.ntmps7
  go_wp2_with fail
  refine Calls.mono (awake31_any _) ?_
  rintro e w1 ⟨rfl, hx1⟩
  have hw1 : Ext w w1 := Ext.trans (by repeat (first | assumption | exact Ext.refl _ | refine Ext.alloc ?_ _ | refine Ext.drew ?_ | refine Ext.drewN ?_ _)) hx1
  have hn0 : w1.cell? ⟨w.heap.size, 0, none⟩ = some (.int .u8 n0) := hx1.cell (cell_of_row _ _ 0 _ _ _ (heap_alloc_new w _))
  have hn1 : w1.cell? ⟨w.heap.size, 1, none⟩ = some (.int .u8 n1) := hx1.cell (cell_of_row _ _ 1 _ _ _ (heap_alloc_new w _))
  have hlt0 : w.heap.size < w1.heap.size := World.block_lt_of_cell? w1 _ hn0
  clear hx1
  by_cases hbig : 30 < vs.length
  · go_wp2
    go_ret
    exact ⟨rfl, hw1⟩
  · have hsm : vs.length ≤ 30 := by omega
    clear hbig
    go_wp2_with fail
    refine Calls.mono (bNew_ok (1 + n0) (1 + n1 % 8) seed _ hb1 hb2 hb3 hb4) ?_
    rintro e w2 ⟨A, B, rfl, hA, hB, hAB, ha2, hx2⟩
    have hm0 := hx2.cell hn0
    have hm1 := hx2.cell hn1
    clear hn0 hn1
    go_wp2_with fail
    refine Calls.mono (bNew_ok (1 + n0) (1 + n1 % 8) seed _ hb1 hb2 hb3 hb4) ?_
    rintro e w3 ⟨C, D, rfl, hC, hD, hCD, hc3, hx3⟩
    have ha3 := ha2.ext hx3
    have hn0 := hx3.cell hm0
    have hx13 := hx2.trans hx3
    have hv3 := (HV.ext hw1).ext hx13
    have hAC : A ≠ C := by have := ha2.obj.lt; omega
    have hAD : A ≠ D := by have := ha2.obj.lt; omega
    have hBC : B ≠ C := by have := ha2.row.lt; omega
    have hBD : B ≠ D := by have := ha2.row.lt; omega
    have hX3 := hw1.trans hx13
    have hwA := Nat.le_trans hw1.size hA
    have hwB := Nat.le_trans hw1.size hB
    have hwC := Nat.le_trans (hw1.trans hx2).size hC
    have hwD := Nat.le_trans (hw1.trans hx2).size hD
    have hx13s := hx2.size
    clear hm0 hm1 ha2 hx2 hx3 hx13
    have hNA : some w.heap.size ≠ some B := by simp; have := hw1.size; omega
    have hND : some w.heap.size ≠ some D := by simp; have := hx13s; omega
    obtain ⟨z, hz⟩ : ∃ z, z = ((1 + n0).toNat + 7) / 8 := ⟨_, rfl⟩
    rw [← hz] at ha3 hc3
    have hz4 : z ≤ 4096 := by omega
    have hZ := Lib.hid hz
    clear hz hA hB hC hD
    go_wp2_with fail
    refine Calls.mono (bAdd_any ha3 hAB (by rw [List.length_replicate]; exact hZ.out) hb1 hb2 hb3 hb4 hv3) ?_
    rintro e w4 ⟨rfl, ha4, hg4⟩
    have hc4 := hc3.grown hg4 (Ne.symm hBC) (Ne.symm hBD)
    have hv4 := vs_grown ha3.row hv3 hg4
    have hm0 := hg4.cell hn0 hNA
    have hX4 : Ext w w4 := hX3.grown hg4 (by intro k hk; cases hk; exact hwB)
    clear ha3 hc3 hv3 hn0 hX3 hg4
    go_wp2_with fail
    refine Calls.mono (bAdd_any ha4 hAB (by rw [addAll_len, List.length_replicate]; exact hZ.out) hb1 hb2 hb3 hb4 hv4) ?_
    rintro e w5 ⟨rfl, ha5, hg5⟩
    have hc5 := hc4.grown hg5 (Ne.symm hBC) (Ne.symm hBD)
    have hv5 := vs_grown ha4.row hv4 hg5
    have hn0 := hg5.cell hm0 hNA
    have hX5 : Ext w w5 := hX4.grown hg5 (by intro k hk; cases hk; exact hwB)
    have HA : Hid (addAll (addAll (List.replicate z 0) (1 + n0) (1 + n1 % 8) seed vs) (1 + n0) (1 + n1 % 8) seed vs = addAll (List.replicate z 0) (1 + n0) (1 + n1 % 8) seed vs) :=
      Lib.hid (by rw [← addAll_app]; exact addAll_same hb1 hZ.out (by simp))
    rw [HA.out] at ha5
    clear ha4 hc4 hv4 hm0 hX4 hg5 HA
    go_wp2
    have HRD := hc5.row
    go_loopw [11] (fun i wr => ∃ j : Nat, j ≤ vs.length ∧ i = .int .i64 ((j : Int) - 1) ∧ BlAt wr C D (1 + n0) (1 + n1 % 8) seed (addAll (List.replicate z 0) (1 + n0) (1 + n1 % 8) seed (vs.reverse.take (vs.length - j))) ∧ w5.grownBy wr (some D)) (fun i _ => (intOf i + 1).toNat)
    case atStart => exact ⟨vs.length, Nat.le_refl _, rfl, by simpa [addAll] using hc5, grownBy_refl _ _⟩
    case round =>
      obtain ⟨j, hj, rfl, hcj, hgj⟩ := hrel
      clear hc5
      cases j with
      | zero =>
        have HR : Hid (vs.reverse.take (vs.length - 0) = vs.reverse) := Lib.hid (List.take_of_length_le (by simp))
        have ha6 := ha5.grown hgj hAD hBD
        have hm0 := hgj.cell hn0 hND
        have hX6 : Ext w _ := hX5.grown hgj (by intro k hk; cases hk; exact hwD)
        rw [HR.out, addAll_same (us := vs) hb1 hZ.out (by simp)] at hcj
        have HL : Hid ((addAll (List.replicate z 0) (1 + n0) (1 + n1 % 8) seed vs).length ≤ 4096) := Lib.hid (by rw [addAll_len, List.length_replicate]; exact hz4)
        have hN1 := addAll_ones (bits := 1 + n0) (probes := 1 + n1 % 8) (seed := seed) hb1 hZ.out vs
        clear ha5 hn0 hgj HR HV hv5 g3
        generalize addAll (List.replicate z 0) (1 + n0) (1 + n1 % 8) seed vs = row at *
        generalize hN : onesR row = N at *
        have HN := Lib.hid hN
        clear hN
        go_wp2
        go_region_held3 (fun w' => Ext wr w' ∧ w'.cell? ⟨w.heap.size, 0, none⟩ = some (.int .u8 n0))
          (first | exact arg0 hm0 (by repeat (first | assumption | exact Ext.refl _ | exact And.left (by assumption) | refine Ext.alloc ?_ _ | refine Ext.drew ?_ | refine Ext.drewN ?_ _)))
          (first | (go_at_call 40; have hmk := hea; refine Calls.mono (bBytes_any (hcj.ext (by repeat (first | assumption | exact Ext.refl _ | exact And.left (by assumption) | refine Ext.alloc ?_ _ | refine Ext.drew ?_ | refine Ext.drewN ?_ _))) HL.out hb1 hb2 hb3 hb4) ?_; rintro e wb ⟨vb, rfl, hownb⟩; have heb := Ext.trans (a := wr) (by repeat (first | assumption | exact Ext.refl _ | exact And.left (by assumption) | refine Ext.alloc ?_ _ | refine Ext.drew ?_ | refine Ext.drewN ?_ _)) hownb.ext; have hsb := hownb.sl encB_ok; have hsa2 := hsa.ext hownb.ext; clear hownb hmk) | (go_at_call 40; refine Calls.mono (bBytes_any (ha6.ext (by repeat (first | assumption | exact Ext.refl _ | exact And.left (by assumption) | refine Ext.alloc ?_ _ | refine Ext.drew ?_ | refine Ext.drewN ?_ _))) HL.out hb1 hb2 hb3 hb4) ?_; rintro e wa ⟨va, rfl, howna⟩; have hea := Ext.trans (a := wr) (by repeat (first | assumption | exact Ext.refl _ | exact And.left (by assumption) | refine Ext.alloc ?_ _ | refine Ext.drew ?_ | refine Ext.drewN ?_ _)) howna.ext; have hsa := howna.sl encB_ok; clear howna) | (go_at_call 31; refine Calls.mono (bytesSame _ _ _ _ hsa2 hsb) ?_; rintro e wc ⟨rfl, hxc⟩; have hec := Ext.trans (a := wr) (by repeat (first | assumption | exact Ext.refl _ | exact And.left (by assumption) | refine Ext.alloc ?_ _ | refine Ext.drew ?_ | refine Ext.drewN ?_ _)) hxc) | (go_at_call 39; have hmk := mk2; refine Calls.mono (bOnesN_any (ha6.ext hec) HL.out HN) ?_; rintro e wd ⟨rfl, rfl⟩) | (go_at_call 39; have hmk := mk1; refine Calls.mono (bOnesN_any (hcj.ext hec) HL.out HN) ?_; rintro e wd ⟨rfl, rfl⟩; have mk2 := True.intro) | (go_at_call 39; refine Calls.mono (bOnesN_any (ha6.ext hec) HL.out HN) ?_; rintro e wd ⟨rfl, rfl⟩; have mk1 := True.intro))
        go_wp2
        go_ret
        refine ⟨ret_eq (bool_eq ?_), hX6.trans hec⟩
        have e0 : IntKind.i64.wrap n0 = n0 := by rw [IntKind.wrap_i64]; omega
        have e1 : IntKind.i64.wrap (1 + n0) = 1 + n0 := by rw [IntKind.wrap_i64]; omega
        rw [e0, e1]
        exact decide_eq_true hN1
      | succ m =>
        have hm : m < vs.length := by omega
        obtain rfl := g3 (by omega)
        have hv6 := vs_grown HRD hv5 hgj
        obtain ⟨a', c', b', o', hv', -, -, g3', g4⟩ := Vs.open hv6
        simp only [Value.slice.injEq] at hv'
        obtain ⟨rfl, -, rfl⟩ := hv'
        have hbo := g3' (by omega)
        simp only [Option.some.injEq, Addr.mk.injEq] at hbo
        obtain ⟨rfl, rfl, -⟩ := hbo
        obtain ⟨gc0, gc1⟩ := g4 m hm
        have hjm : (((m + 1 : Nat) : Int) - 1) = (m : Int) := by omega
        have HS : Hid (vs.reverse.take (vs.length - m) = vs.reverse.take (vs.length - (m + 1)) ++ [vs[m]]) := Lib.hid (by
          have e : vs.length - m = vs.length - (m + 1) + 1 := by omega
          rw [e, take_snoc _ _ (by simp; omega)]
          congr 2
          rw [List.getElem_reverse]
          congr 1; omega)
        have hlen' := addAll_len (List.replicate z 0) (1 + n0) (1 + n1 % 8) seed (vs.reverse.take (vs.length - (m + 1)))
        rw [List.length_replicate] at hlen'
        have HAS := Lib.hid (addAll_snoc (List.replicate z 0) (1 + n0) (1 + n1 % 8) seed (vs.reverse.take (vs.length - (m + 1))) vs[m])
        have HAL := Lib.hid hlen'
        generalize vs[m] = v at *
        generalize addAll (List.replicate z 0) (1 + n0) (1 + n1 % 8) seed (vs.reverse.take (vs.length - (m + 1))) = row0 at *
        have hmi : (m : Int) < vs.length := by omega
        rw [hjm]
        clear g4 g3 g3' hv5 hv6 ha5 hn0 HV hlen' hjm
        go_wp2_with fail
        refine Calls.mono (bAdd_any (hcj.ext (by repeat (first | assumption | exact Ext.refl _ | refine Ext.alloc ?_ _ | refine Ext.drew ?_ | refine Ext.drewN ?_ _))) hCD (by rw [HAL.out]; exact hZ.out) hb1 hb2 hb3 hb4 (vs := [v]) (Sl.new1 encV_ok.len _ _ _ _ rfl)) ?_
        rintro e w6 ⟨rfl, hc6, hg6⟩
        have hg7 := grownBy_trans hgj (grownBy_trans (grownBy_ext (row := some D) (Ext.alloc (Ext.refl _) _)) hg6)
        have HF : Hid (addAll row0 (1 + n0) (1 + n1 % 8) seed [v] = addV row0 (1 + n0) (1 + n1 % 8) seed v) := Lib.hid rfl
        clear hcj hgj hg6 gc0 gc1
        go_wp2
        go_roundw
        case rel => exact ⟨m, by omega, by go_num, by rw [HS.out, HAS.out, ← HF.out]; exact hc6, hg7⟩
        case measure => simp [intOf]
    done
end Go.Proofs.Ytjohkaonokghbaa
