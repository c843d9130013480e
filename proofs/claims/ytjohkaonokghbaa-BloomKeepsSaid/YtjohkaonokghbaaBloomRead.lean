/- Filters of bits: out of bytes. -/
import Derived.Test.YtjohkaonokghbaaBloomF
import Derived.Test.YtjohkaonokghbaaBloomLaw
import Derived.Test.YtjohkaonokghbaaVarintOnce
import Derived.Lib.BufferWrite
import Derived.Laws.CopyOwn
namespace Go.Proofs.Ytjohkaonokghbaa
open Go.RowKit

theorem numSt_zero {l l' : List UInt8} {e x : Int} (h : numSt l e = (x, l', 0)) : e = 0 := by
  unfold numSt at h
  split at h
  · rename_i he; simp at h; exact absurd h.2.2 he
  · omega
theorem within_zero {lo hi : Int} {l l' : List UInt8} {e x : Int} (h : withinSt lo hi l e = (x, l', 0)) : e = 0 ∧ lo ≤ x ∧ x ≤ hi ∧ numSt l e = (x, l', 0) := by
  unfold withinSt at h
  split at h
  · simp at h
  · rename_i hn
    refine ⟨numSt_zero h, ?_, ?_, h⟩
    · rw [h] at hn; simp at hn; omega
    · rw [h] at hn; simp at hn; omega
theorem text_zero {most : Int} {l l' : List UInt8} {e : Int} {s : List UInt8} (h : textSt most l e = (s, l', 0)) : ∃ x l1, withinSt 0 most l e = (x, l1, 0) ∧ s = l1.take x.toNat ∧ l' = l1.drop x.toNat ∧ 0 ≤ x ∧ x ≤ l1.length := by
  unfold textSt at h
  split at h
  · rename_i hn
    exact absurd (by have := congrArg (fun p => p.2.2) h; simpa using this) hn
  · rename_i hn
    split at h
    · simp at h
    · rename_i hx
      simp at h
      have hw : withinSt 0 most l e = ((withinSt 0 most l e).1, (withinSt 0 most l e).2.1, 0) := by
        exact Prod.ext rfl (Prod.ext rfl (by simpa using hn))
      have := within_zero hw
      exact ⟨_, _, hw, h.1.symm, h.2.symm, this.2.1, by omega⟩
theorem end_zero {l : List UInt8} {e : Int} (h : endSt l e = 0) : e = 0 ∧ l = [] := by
  unfold endSt at h
  split at h
  · omega
  · rename_i hn
    subst h
    refine ⟨rfl, ?_⟩
    cases l with
    | nil => rfl
    | cons a l => simp at hn

def topBad (bits : Int) (s : List UInt8) : Prop := 0 < bits.toNat % 8 ∧ 0 < (s.getD (s.length - 1) 0).toNat / 2 ^ (bits.toNat % 8)
section
variable {w : World} {v : Value} {b l1 l2 l3 s : List UInt8} {bits probes e1 e2 e3 ev seed : Int}
set_option maxRecDepth 10000 in
set_option maxHeartbeats 800000 in
/-- bytes that are no numbers and no text -/
theorem bRead_end (hv : Bs w v b) (hl : b.length ≤ 100000) (q1 : Hid (withinSt 1 4096 b 0 = (bits, l1, e1))) (q2 : Hid (withinSt 1 8 l1 e1 = (probes, l2, e2))) (q3 : Hid (textSt 281474976710656 l2 e2 = (s, l3, e3))) (q4 : Hid (endSt l3 e3 = ev)) (hne : ev ≠ 0) :
    Calls Try.prog 65 #[v, .int .u64 seed] w fun e w' => e = .returned (.tuple #[.pointer none, .int .i64 ev]) ∧ Ext w w' := by
  obtain ⟨a, c, _, _, rfl, -⟩ := Bs.open hv
  have hevb : (ev != 0) = true := by simpa using hne
  have hevc : (ev == 0) = false := by simpa using hne
  go_enter Try.func65, Try.ntmps65
  go_wp2_with fail
  refine Calls.mono (rNew_any _ _ _ hv (by omega)) ?_
  rintro e w1 ⟨B, v1, rfl, hB, hr1, hx1⟩
  go_wp2_with fail
  refine Calls.mono (rWithin_any hr1 1 4096) ?_
  rw [q1.out]
  rintro e w2 ⟨v2, rfl, hr2, hg2, -⟩
  have hx2 : Ext w w2 := hx1.grown hg2 (by intro k hk; cases hk; exact hB)
  clear hr1 hg2
  go_wp2_with fail
  refine Calls.mono (rWithin_any hr2 1 8) ?_
  rw [q2.out]
  rintro e w3 ⟨v3, rfl, hr3, hg3, -⟩
  have hx3 : Ext w w3 := hx2.grown hg3 (by intro k hk; cases hk; exact hB)
  clear hr2 hg3 hx2
  go_wp2_with fail
  refine Calls.mono (rText_any hr3 281474976710656) ?_
  rw [q3.out]
  rintro e w4 ⟨v4, rfl, hr4, hg4, -⟩
  have hx4 : Ext w w4 := hx3.grown hg4 (by intro k hk; cases hk; exact hB)
  clear hr3 hg4 hx3
  go_wp2_with fail
  refine Calls.mono (rEnd_any hr4) ?_
  rw [q4.out]
  rintro e w5 ⟨rfl, rfl⟩
  go_wp2
  go_ret2
  exact ⟨rfl, hx4⟩

set_option maxRecDepth 10000 in
set_option maxHeartbeats 800000 in
theorem bRead_any (hv : Bs w v b) (hl : b.length ≤ 100000) (q1 : Hid (withinSt 1 4096 b 0 = (bits, l1, 0))) (q2 : Hid (withinSt 1 8 l1 0 = (probes, l2, 0))) (q3 : Hid (textSt 281474976710656 l2 0 = (s, l3, 0))) (q4 : Hid (endSt l3 0 = 0))
    (hn : s.length = (bits.toNat + 7) / 8) :
    Calls Try.prog 65 #[v, .int .u64 seed] w fun e w' => (topBad bits s → e = .returned (.tuple #[.pointer none, .int .i64 11])) ∧ (¬ topBad bits s → ∃ A B, e = .returned (.tuple #[.pointer (some ⟨A, 0, none⟩), .int .i64 0]) ∧ w.heap.size ≤ A ∧ w.heap.size ≤ B ∧ A ≠ B ∧ BlAt w' A B bits probes seed s) ∧ Ext w w' := by
  have hb := (within_zero q1.out).2
  have hp := (within_zero q2.out).2
  have hb1 := hb.1
  have hb2 := hb.2.1
  have hp1 := hp.1
  have hp2 := hp.2.1
  clear hb hp
  obtain ⟨a, c, _, _, rfl, -⟩ := Bs.open hv
  go_enter Try.func65, Try.ntmps65
  go_wp2_with fail
  refine Calls.mono (rNew_any _ _ _ hv (by omega)) ?_
  rintro e w1 ⟨B, v1, rfl, hB, hr1, hx1⟩
  go_wp2_with fail
  refine Calls.mono (rWithin_any hr1 1 4096) ?_
  rw [q1.out]
  rintro e w2 ⟨v2, rfl, hr2, hg2, -⟩
  have hx2 : Ext w w2 := hx1.grown hg2 (by intro k hk; cases hk; exact hB)
  clear hr1 hg2
  go_wp2_with fail
  refine Calls.mono (rWithin_any hr2 1 8) ?_
  rw [q2.out]
  rintro e w3 ⟨v3, rfl, hr3, hg3, -⟩
  have hx3 : Ext w w3 := hx2.grown hg3 (by intro k hk; cases hk; exact hB)
  clear hr2 hg3 hx2
  go_wp2_with fail
  refine Calls.mono (rText_any hr3 281474976710656) ?_
  rw [q3.out]
  rintro e w4 ⟨v4, rfl, hr4, hg4, -⟩
  have hx4 : Ext w w4 := hx3.grown hg4 (by intro k hk; cases hk; exact hB)
  clear hr3 hg4 hx3
  go_wp2_with fail
  refine Calls.mono (rEnd_any hr4) ?_
  rw [q4.out]
  rintro e w5 ⟨rfl, rfl⟩
  go_wp2_with fail
  refine Calls.mono (bNew_ok bits probes seed _ hb1 hb2 hp1 hp2) ?_
  rintro e w6 ⟨A, B', rfl, hA, hB', hAB, hb6, hx6⟩
  obtain ⟨n, rfl⟩ := Int.eq_ofNat_of_zero_le (show 0 ≤ bits by omega)
  rw [Int.toNat_natCast] at hn hb6
  obtain ⟨c0, c1, c2, c3⟩ := hb6.cells
  rw [List.length_replicate] at c3
  obtain ⟨S, hS⟩ : ∃ S : ByteArray, S = ⟨s.toArray⟩ := ⟨_, rfl⟩
  have hSz : S.size = s.length := by rw [hS]; rfl
  rw [← hS]
  have hLen : S.size = (n + 7) / 8 := by omega
  have hn9 : n ≤ 4096 := by omega
  have hcp := Lib.run_copy_row_string (P := Try.prog) w6 25 9 3 5 B' 0 ((n + 7) / 8) ((n + 7) / 8) S (rowC (List.replicate ((n + 7) / 8) 0)) 5 Try.underlying25 (by kernel_rfl) hb6.row (by omega) (by simp [rowC]; omega)
  have hcs : ((rowC (List.replicate ((n + 7) / 8) 0)).toList.take 0 ++ Lib.byteCells S.data.toList ++ (rowC (List.replicate ((n + 7) / 8) 0)).toList.drop (0 + S.size)).toArray = rowC s := by
    rw [List.drop_eq_nil_of_le (by simp [rowC]; omega), hS]
    simp [rowC, Lib.byteCells]
  rw [hcs] at hcp
  have hE7 : Ext w (w6.setRow B' (rowC s)) := below_setRow (hx4.trans hx6) (by have := hx4.size; omega) _
  have hB7 : BlAt (w6.setRow B' (rowC s)) A B' (n : Int) probes seed s := by
    refine ⟨?_, ?_⟩
    · have := hb6.obj
      rw [List.length_replicate, ← hn] at this
      exact (setRow_other w6 B' A _ hAB).trans this
    · exact setRow_heap w6 B' _ _ _ _ hb6.row
  have HE7 := Lib.hid hE7
  have HB7 := Lib.hid hB7
  have hT : Hid (∀ h : (n + 7) / 8 - 1 < S.size, (topBad (n : Int) s ↔ 0 < (n : Int) % 8 ∧ 0 < ((S[(n + 7) / 8 - 1]'h).toNat : Int) / 2 ^ (n % 8))) := Lib.hid (by
    intro h
    have hg : (S[(n + 7) / 8 - 1]'h) = s.getD (s.length - 1) 0 := by
      subst hS
      show s.toArray[(n + 7) / 8 - 1] = _
      simp [hn]
      rw [List.getElem?_eq_getElem (by omega)]; rfl
    rw [hg]
    unfold topBad
    rw [Int.toNat_natCast, show ((2 : Int) ^ (n % 8)) = ((2 ^ (n % 8) : Nat) : Int) by simp, ← Int.natCast_ediv]
    omega)
  have hA8 : Hid (w.heap.size ≤ A ∧ w.heap.size ≤ B') := Lib.hid (by have := hx4.size; omega)
  have hE6 := Lib.hid (hx4.trans hx6)
  clear hr4 hcs hS hSz hn hE7 hB7 hb6 hA hB' hx6 hx4 hx1
  go_wp2
  · go_ret2
    refine ⟨fun _ => rfl, fun hh => absurd ((hT.out (by omega)).2 ⟨by omega, by assumption⟩) hh, hE6.out⟩
  · go_ret2
    refine ⟨fun hh => ?_, fun _ => (by first | exact ⟨A, B', rfl, hA8.out.1, hA8.out.2, hAB, HB7.out⟩ | exact ⟨A, rfl, hA8.out.1, B', hA8.out.2, hAB, HB7.out⟩), HE7.out⟩
    have := (hT.out (by omega)).1 hh
    exfalso; omega
  · go_ret2
    refine ⟨fun hh => ?_, fun _ => (by first | exact ⟨A, B', rfl, hA8.out.1, hA8.out.2, hAB, HB7.out⟩ | exact ⟨A, rfl, hA8.out.1, B', hA8.out.2, hAB, HB7.out⟩), HE7.out⟩
    have := (hT.out (by omega)).1 hh
    exfalso; omega
end
end Go.Proofs.Ytjohkaonokghbaa
