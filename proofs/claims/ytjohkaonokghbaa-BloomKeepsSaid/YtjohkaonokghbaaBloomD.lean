/- Filters of bits: to add. -/
import Derived.Test.YtjohkaonokghbaaBloomC
namespace Go.Proofs.Ytjohkaonokghbaa
open Go.RowKit

set_option maxRecDepth 10000 in
set_option maxHeartbeats 1600000 in
theorem bAdd_any {w : World} {A B : Nat} {bits probes seed : Int} {row : List UInt8} (h : BlAt w A B bits probes seed row) (hne : A ≠ B) (hlen : row.length = (bits.toNat + 7) / 8)
    (h1 : 1 ≤ bits) (h2 : bits ≤ 4096) (h3 : 1 ≤ probes) (h4 : probes ≤ 8) {vl : Value} {vs : List (Int × Int)} (hv : Sl 2 encV w vl vs) :
    Calls Try.prog 37 #[.pointer (some ⟨A, 0, none⟩), vl] w fun e w' => e = .returned (.tuple #[]) ∧ BlAt w' A B bits probes seed (addAll row bits probes seed vs) ∧ w.grownBy w' (some B) := by
  obtain ⟨a, c, b, o, rfl, g1, g2, g3, g4⟩ := Vs.open hv
  have g5 := len_le g1 g2
  have hAlt := h.obj.lt
  have hBlt := h.row.lt
  have HR := h.row
  obtain ⟨q, rfl⟩ := Int.eq_ofNat_of_zero_le (show 0 ≤ probes by omega)
  clear hv g1 g2
  go_enter Try.func37, Try.ntmps37
  go_wp2
  go_loopw [14] (fun i wr => ∃ k : Nat, k ≤ vs.length ∧ i = .int .i64 k ∧ BlAt wr A B bits (q : Int) seed (addAll row bits (q : Int) seed (vs.take k)) ∧ w.grownBy wr (some B)) (fun i _ => vs.length - (intOf i).toNat)
  case atStart => exact ⟨0, Nat.zero_le _, rfl, h, grownBy_refl _ _⟩
  case round =>
    obtain ⟨k, hk, rfl, hb, hg⟩ := hrel
    by_cases hlt : k < vs.length
    · obtain rfl := g3 (by omega)
      have hc0 := row_keeps HR hg (g4 k hlt).1
      have hc1 := row_keeps HR hg (g4 k hlt).2
      have HS := Lib.hid (take_snoc vs k hlt)
      generalize vs[k] = v at *
      obtain ⟨r, cn⟩ := v
      have hlen' := addAll_len row bits (q : Int) seed (vs.take k)
      have HAS := Lib.hid (addAll_snoc row bits (q : Int) seed (vs.take k) (r, cn))
      generalize addAll row bits (q : Int) seed (vs.take k) = row0 at *
      dsimp only at hc0 hc1
      clear g3 g4 h
      by_cases hvr : verR r cn = true
      · have HVR := Lib.hid hvr
        have HAV : Hid (addV row0 bits (q : Int) seed (r, cn) = addP row0 bits seed (verB r cn) q) := Lib.hid (by simp [addV, hvr])
        clear hvr
        go_wp2_with fail
        refine Calls.mono (verR_any r cn _) ?_
        rw [HVR.out]
        rintro e w1 ⟨rfl, hx1⟩
        have hx : Ext wr w1 := Ext.trans (by repeat (first | assumption | exact Ext.refl _ | refine Ext.alloc ?_ _ | refine Ext.drew ?_ | refine Ext.drewN ?_ _)) hx1
        have hb1 := hb.ext hx
        have hg1 := grownBy_trans hg (grownBy_ext (row := some B) hx)
        have hvc0 : w1.cell? ⟨wr.heap.size, 0, none⟩ = some (.int .i64 r) := hx1.cell (cell_of_row _ _ 0 _ _ _ (heap_alloc_new wr _))
        have hvc1 : w1.cell? ⟨wr.heap.size, 1, none⟩ = some (.int .i64 cn) := hx1.cell (cell_of_row _ _ 1 _ _ _ (heap_alloc_new wr _))
        clear hb hg hc0 hc1 hx1
        go_wp2_with fail
        refine Calls.mono (verB_any (ok_ver HVR.out).1 (ok_ver HVR.out).2 _) ?_
        rintro e w2 ⟨v2, rfl, hown⟩
        have hx2 := hown.ext
        have hb2 := hb1.ext hx2
        have hg2 := grownBy_trans hg1 (grownBy_ext (row := some B) hx2)
        obtain ⟨-, ho2⟩ := hown
        have hB1 : B < w1.heap.size := hb1.row.lt
        obtain ⟨c0, c1, c2, c3⟩ := hb2.cells
        clear hb1 hg1 hvc0 hvc1
        go_wp2
        go_loopw [27] (fun i wq => ∃ j : Nat, j ≤ q ∧ i = .int .i64 j ∧ BlAt wq A B bits (q : Int) seed (addP row0 bits seed (verB r cn) j) ∧ w.grownBy wq (some B) ∧ OwnR w1.heap.size 5 1 encB wq v2 (verB r cn)) (fun i _ => q - (intOf i).toNat)
        case atStart => exact ⟨0, Nat.zero_le _, rfl, hb2, hg2, ho2⟩
        case round =>
          obtain ⟨j, hj, rfl, hbj, hgj, hoj⟩ := hrel
          clear hb2 hg2 ho2 c0 c1 c2 c3
          by_cases hjt : j < q
          · obtain ⟨c0, c1, c2, c3⟩ := hbj.cells
            have hsj := hoj.sl encB_ok
            go_wp2_with fail
            refine Calls.mono (probe_any c0 c2 hsj h1 h2 (j : Int)) ?_
            rintro e w3 ⟨rfl, hx3⟩
            have hPl := addP_len row0 bits seed (verB r cn) j
            have HPS := Lib.hid (addP_succ row0 bits seed (verB r cn) j)
            have hpl := probeN_lt bits seed (verB r cn) (j : Int) h1
            have hb3 := hbj.ext hx3
            have hg3 := grownBy_trans hgj (grownBy_ext (row := some B) hx3)
            have ho3 := hoj.kept (grownBy_ext (row := none) hx3) (by simp)
            generalize addP row0 bits seed (verB r cn) j = row1 at *
            generalize probeN bits seed (verB r cn) (j : Int) = p at *
            have hp8 : p / 8 < row1.length := by omega
            obtain ⟨gc, gf⟩ := hb3.get (p / 8) hp8
            have HO := Lib.hid (or_byte (row1[p / 8]?.getD 0) p)
            have hb4 := hb3.add hne p
            rw [← HO.out] at hb4
            have hgS := grownBy_trans hg3 (grownBy_setCell w3 ⟨B, p / 8, none⟩ (.int .u8 (Go.bits BinOp.or IntKind.u8 ((row1[p / 8]?.getD 0).toNat : Int) ((2 ^ (p % 8) : Nat) : Int))))
            have hoS := ho3.kept (grownBy_setCell w3 ⟨B, p / 8, none⟩ (.int .u8 (Go.bits BinOp.or IntKind.u8 ((row1[p / 8]?.getD 0).toNat : Int) ((2 ^ (p % 8) : Nat) : Int)))) (by intro z hz; cases hz; exact hB1)
            have hx0 := (row1[p / 8]?.getD 0).toNat_lt
            obtain ⟨d0, d1, d2, d3⟩ := hb3.cells
            have hml : 2 ^ (p % 8) < 256 := by have := pow8 (p % 8) (Nat.mod_lt _ (by decide)); omega
            generalize hX : (row1[p / 8]?.getD 0).toNat = x at *
            generalize hM : 2 ^ (p % 8) = m at *
            generalize hI : p / 8 = i8 at *
            have HPS' : Hid (addP row0 bits seed (verB r cn) (j + 1) = addBit row1 p) := HPS
            clear hX hM hI hbj hgj hoj c0 c1 c2 c3 HO HPS hb3 hg3 ho3 hsj
            go_wp2
            go_roundw
            case rel => exact ⟨j + 1, by omega, by go_num, by rw [HPS'.out]; exact hb4, hgS, hoS⟩
            case measure => simp [intOf]; omega
          · obtain rfl : j = q := by omega
            go_wp2
            go_roundw
            case rel => exact ⟨k + 1, by omega, by go_num, by rw [HS.out, HAS.out, HAV.out]; exact hbj, hgj⟩
            case measure => simp [intOf]; omega
      · have hvf : verR r cn = false := by simpa using hvr
        have HVR := Lib.hid hvf
        have HAV : Hid (addV row0 bits (q : Int) seed (r, cn) = row0) := Lib.hid (by simp [addV, hvf])
        clear hvr hvf
        go_wp2_with fail
        refine Calls.mono (verR_any r cn _) ?_
        rw [HVR.out]
        rintro e w1 ⟨rfl, hx1⟩
        have hx : Ext wr w1 := Ext.trans (by repeat (first | assumption | exact Ext.refl _ | refine Ext.alloc ?_ _ | refine Ext.drew ?_ | refine Ext.drewN ?_ _)) hx1
        have hb1 := hb.ext hx
        have hg1 := grownBy_trans hg (grownBy_ext (row := some B) hx)
        clear hb hg hc0 hc1 hx1
        go_wp2
        go_roundw
        case rel => exact ⟨k + 1, by omega, by go_num, by rw [HS.out, HAS.out, HAV.out]; exact hb1, hg1⟩
        case measure => simp [intOf]; omega
    · have HT : Hid (vs.take k = vs) := Lib.hid (List.take_of_length_le (by omega))
      rw [HT.out] at hb
      go_wp2
      go_end0
      exact ⟨rfl, hb, hg⟩
end Go.Proofs.Ytjohkaonokghbaa
