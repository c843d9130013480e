/- The references' reader (ref02.Number, ref02.Reader): what its calls do. -/
import Derived.Test.YtjohkaonokghbaaVarintPuts
import Derived.Deep.QuietTactic
import Derived.BigQuiet
namespace Go.Proofs.Ytjohkaonokghbaa
open Go.RowKit

theorem rdNum_case (l : List UInt8) : (8 ≤ lead l ∧ rdNum l = (0, 0, 11)) ∨ (lead l < 8 ∧ l.length ≤ lead l ∧ rdNum l = (0, 0, 10)) ∨
    (lead l < 8 ∧ lead l < l.length ∧ rdNum l = if rdBad l then (0, 0, 11) else (leVal (l.take (lead l + 1)), lead l + 1, 0)) := by
  unfold rdNum
  by_cases h1 : 8 ≤ lead l
  · exact .inl ⟨h1, if_pos h1⟩
  · by_cases h2 : l.length ≤ lead l
    · exact .inr (.inl ⟨by omega, h2, by rw [if_neg h1, if_pos h2]⟩)
    · exact .inr (.inr ⟨by omega, by omega, by rw [if_neg h1, if_neg h2]⟩)

set_option maxRecDepth 100000 in
set_option maxHeartbeats 3200000 in
theorem refNum_any (v : Value) (l : List UInt8) (w : World) (hv : Bs w v l) :
    Calls Try.prog 87 #[v] w (RetW w (.tuple #[.int .i64 (rdNum l).1, .int .i64 (rdNum l).2.1, .int .i64 (rdNum l).2.2])) := by
  obtain ⟨a, c, b, o, rfl, h1, h2, h3, h4⟩ := hv.open
  have h5 := len_le h1 h2
  have hle := lead_le l
  have hcase := rdNum_case l
  have hbad : Hid (rdBad l ↔ (0 < lead l ∧ l[lead l]? = some 0) ∨ 281474976710656 < leVal (l.take (lead l + 1))) := Lib.hid (Iff.rfl)
  generalize hnum : rdNum l = num at *
  clear hnum
  clear h1 h2 hv
  have HC := Lib.hid hcase
  clear hcase
  go_enter Try.func87, Try.ntmps87
  go_wp2
  go_loop [5] (fun i => ∃ k : Nat, k ≤ lead l ∧ k ≤ 8 ∧ i = .int .i64 k) (fun i => 8 - (intOf i).toNat)
  case atStart => exact ⟨0, Nat.zero_le _, by omega, rfl⟩
  case round =>
    obtain ⟨k, hk, hk8, rfl⟩ := hrel
    by_cases hlt : k < l.length ∧ k < 8
    · obtain ⟨hl1, hl2⟩ := hlt
      obtain rfl := h3 (by omega)
      have hc := h4 k hl1
      have HS := Lib.hid (lead_step l k hl1 hk)
      have hgx : Hid (l[k]? = some l[k]) := Lib.hid (by simp [hl1])
      by_cases hbig : 128 ≤ l[k].toNat
      · generalize l[k] = x at *
        have hx : (128 : Int) ≤ (x.toNat : Int) := by omega
        clear h3 h4
        go_wp2
        go_round
        case rel => exact ⟨k + 1, HS.out.1 hbig, by omega, by go_num⟩
        case measure => simp [intOf]; omega
      · have hlead : Hid (lead l = k) := Lib.hid (HS.out.2 (by omega))
        have hnum : Hid (num = if rdBad l then (0, 0, 11) else (leVal (l.take (k + 1)), k + 1, 0)) := by
          refine Lib.hid ?_
          have hlk := hlead.out
          rcases HC.out with ⟨q, _⟩ | ⟨_, q, _⟩ | ⟨_, _, q⟩
          · omega
          · omega
          · rw [q, hlk]
        rw [hlead.out] at hbad
        have hx : (l[k].toNat : Int) < 128 := by omega
        have hne8 : ((k : Int) == 8) = false := by rw [beq_eq_false_iff_ne]; omega
        have hnel : ((k : Int) == (l.length : Int)) = false := by rw [beq_eq_false_iff_ne]; omega
        go_wp2
        go_loop [6, 7] (fun n i => ∃ (j m : Nat), j ≤ k + 1 ∧ i = .int .i64 ((j : Int) - 1) ∧ n = .int .i64 m ∧ Hid (m = leVal ((l.take (k + 1)).drop j))) (fun _ i => (intOf i + 1).toNat)
        case atStart => exact ⟨k + 1, 0, Nat.le_refl _, by go_num, rfl, Lib.hid (by rw [List.drop_of_length_le (by simp; omega)]; rfl)⟩
        case round =>
          obtain ⟨j, m, hj, rfl, rfl, HM⟩ := hrel
          by_cases hj0 : 0 < j
          · obtain ⟨i, rfl⟩ : ∃ i, j = i + 1 := ⟨j - 1, by omega⟩
            have hil : i < l.length := by omega
            have hc := h4 i hil
            have HV := Lib.hid (leVal_step l (k + 1) i (by omega) (by omega))
            have hm : m < 562949953421312 := by
              have h1 := leVal_lt ((l.take (k + 1)).drop (i + 1))
              have h2 : ((l.take (k + 1)).drop (i + 1)).length ≤ 7 := by simp; omega
              have h3 : 128 ^ ((l.take (k + 1)).drop (i + 1)).length ≤ 128 ^ 7 := Nat.pow_le_pow_right (by decide) h2
              rw [HM.out]; omega
            clear hx hgx HS hbig
            generalize l[i] = y at *
            have hy : (y.toNat : Int) < 256 := by have := y.toNat_lt; omega
            have e1 : Hid (((i + 1 : Nat) : Int) - 1 = (i : Int)) := Lib.hid (by omega)
            rw [e1.out]
            clear h4 h3
            go_wp2
            go_round
            case rel => exact ⟨i, y.toNat % 128 + 128 * m, by omega, by go_num, int_eq (by omega), Lib.hid (by rw [HV.out, HM.out])⟩
            case measure => simp [intOf]
          · obtain rfl : j = 0 := by omega
            rw [show (((0 : Nat) : Int) - 1) = -1 from rfl]
            have HM' : Hid (m = leVal (l.take (k + 1))) := Lib.hid (by simpa using HM.out)
            have hkk : Hid (l[k]? = some l[k]) := Lib.hid (by simp [hl1])
            generalize l[k] = x at *
            clear h4 HM h3
            have hx256 : (x.toNat : Int) < 256 := by have := x.toNat_lt; omega
            by_cases hz : 0 < k ∧ x = 0
            · obtain ⟨hk0, rfl⟩ := hz
              go_wp2
              go_ret3
              refine ⟨?_, rfl⟩
              rw [hnum.out, if_pos (hbad.out.2 (.inl ⟨hk0, hkk.out⟩))]; rfl
            · have hok : Hid (okB (m : Int) = decide (m ≤ 281474976710656)) := Lib.hid (by rw [Bool.eq_iff_iff, okB_iff]; unfold okNum; simp; omega)
              have hbd : Hid (rdBad l ↔ 281474976710656 < m) := by
                refine Lib.hid (hbad.out.trans ?_)
                rw [← HM'.out]
                refine ⟨fun h => ?_, .inr⟩
                rcases h with ⟨q1, q2⟩ | q
                · rw [hkk.out] at q2; simp at q2; exact absurd ⟨q1, q2⟩ hz
                · exact q
              have hxz : 0 < k → ((x.toNat : Int) == 0) = false := by
                intro hk0
                rw [beq_eq_false_iff_ne]; intro hh
                exact hz ⟨hk0, UInt8.toNat_inj.1 (by have : x.toNat = 0 := by omega
                                                     simpa using this)⟩
              clear hz hbad HS hgx hkk
              by_cases hm2 : m ≤ 281474976710656
              · have HO : Hid (okB (m : Int) = true) := Lib.hid (by rw [hok.out]; simp [hm2])
                have HR : Hid (num = (m, k + 1, 0)) := Lib.hid (by rw [hnum.out, if_neg (fun h => by have := hbd.out.1 h; omega), ← HM'.out])
                clear hok hbd
                by_cases hk0 : 0 < k
                · have hxz' := hxz hk0
                  clear hxz
                  go_wp2_with (go_at_call 52; refine Calls.mono (refRight_any _ _) ?_; rw [HO.out]; rintro e w3 ⟨rfl, rfl⟩)
                  go_ret3
                  rw [HR.out]
                  exact ⟨rfl, rfl⟩
                · clear hxz
                  go_wp2_with (go_at_call 52; refine Calls.mono (refRight_any _ _) ?_; rw [HO.out]; rintro e w3 ⟨rfl, rfl⟩)
                  go_ret3
                  rw [HR.out]
                  exact ⟨rfl, rfl⟩
              · have HO : Hid (okB (m : Int) = false) := Lib.hid (by rw [hok.out]; simp; omega)
                have HR : Hid (num = (0, 0, 11)) := Lib.hid (by rw [hnum.out, if_pos (hbd.out.2 (by omega))])
                clear hok hbd
                by_cases hk0 : 0 < k
                · have hxz' := hxz hk0
                  clear hxz
                  go_wp2_with (go_at_call 52; refine Calls.mono (refRight_any _ _) ?_; rw [HO.out]; rintro e w3 ⟨rfl, rfl⟩)
                  go_ret3
                  rw [HR.out]
                  exact ⟨rfl, rfl⟩
                · clear hxz
                  go_wp2_with (go_at_call 52; refine Calls.mono (refRight_any _ _) ?_; rw [HO.out]; rintro e w3 ⟨rfl, rfl⟩)
                  go_ret3
                  rw [HR.out]
                  exact ⟨rfl, rfl⟩
    · by_cases h8 : k = 8
      · subst h8
        have HR : Hid (num = (0, 0, 11)) := by
          refine Lib.hid ?_
          rcases HC.out with ⟨_, q⟩ | ⟨q, _, _⟩ | ⟨q, _, _⟩
          · exact q
          · omega
          · omega
        by_cases hl8 : 8 < l.length
        · go_wp2
          go_ret3
          rw [HR.out]
          exact ⟨rfl, rfl⟩
        · go_wp2
          go_ret3
          rw [HR.out]
          exact ⟨rfl, rfl⟩
      · obtain rfl : k = l.length := by omega
        have hk8' : l.length < 8 := by omega
        have HR : Hid (num = (0, 0, 10)) := by
          refine Lib.hid ?_
          rcases HC.out with ⟨q, _⟩ | ⟨_, _, q⟩ | ⟨_, q, _⟩
          · omega
          · exact q
          · omega
        have hne8 : ((l.length : Int) == 8) = false := by rw [beq_eq_false_iff_ne]; omega
        clear h8
        go_wp2
        go_ret3
        rw [HR.out]
        exact ⟨rfl, rfl⟩
end Go.Proofs.Ytjohkaonokghbaa
