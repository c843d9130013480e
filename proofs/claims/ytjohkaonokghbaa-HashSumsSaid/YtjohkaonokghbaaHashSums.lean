/- The law HashSums, walked. -/
import Derived.Test.YtjohkaonokghbaaHashRef
import Derived.Deep.RegionHeld3
namespace Go.Proofs.Ytjohkaonokghbaa
open Go.RowKit

theorem tiIt : TI Try.prog 30 35 7 72 := TI.mk' Try.underlying30 (by kernel_rfl)

theorem foldl_sum (f : It → Int) (l : List It) : ∀ s : Int, l.foldl (fun s x => IntKind.u64.wrap (s + f x)) s = if l = [] then s else (s + (l.map f).sum) % 18446744073709551616 := by
  induction l with
  | nil => intro s; simp
  | cons x l ih =>
    intro s
    rw [List.foldl_cons, ih, if_neg (show ¬ (x :: l = []) by simp)]
    rw [IntKind.wrap_u64, List.map_cons, List.sum_cons]
    by_cases h : l = []
    · subst h; simp
    · rw [if_neg h]; omega
theorem hSum_eq (seed : Int) (l : List It) : hSum seed l = (l.map (hItem seed)).sum % 18446744073709551616 := by
  unfold hSum
  rw [foldl_sum (hItem seed) l 0]
  by_cases h : l = []
  · subst h; rfl
  · rw [if_neg h]; simp
theorem hSum_rev (seed : Int) (l : List It) : hSum seed l.reverse = hSum seed l := by
  rw [hSum_eq, hSum_eq, List.map_reverse, List.sum_reverse]
theorem hSum_app (seed : Int) (l m : List It) : hSum seed (l ++ m) = IntKind.u64.wrap (hSum seed l + hSum seed m) := by
  rw [hSum_eq, hSum_eq, hSum_eq, IntKind.wrap_u64, List.map_append, List.sum_append]; omega

set_option maxRecDepth 10000 in
set_option maxHeartbeats 1600000 in
theorem hashSums_any (seed : Int) (va vb : Value) (a b : List It) (w : World) (ha : Its w va a) (hb : Its w vb b) :
    Calls Try.prog 4 #[.int .u64 seed, va, vb] w fun e w' => e = .returned (.bool true) ∧ Ext w w' := by
  go_enter Try.func4, Try.ntmps4
  go_wp2_with fail
  refine (awake20_any _).mono ?_
  rintro e w1 ⟨rfl, hx⟩
  have ha1 := ha.ext hx
  have hb1 := hb.ext hx
  clear ha hb
  go_wp2_with fail
  by_cases hla : ((a.length : Int) ≤ 30 ∧ ∀ x ∈ a, ¬ itLong x)
  case neg =>
    refine (long_yes _ a _ _ ha1 hla).mono ?_
    rintro e w2 ⟨rfl, rfl⟩
    go_wp2
    go_ret
    exact ⟨rfl, hx⟩
  refine (long_no _ a _ _ ha1 hla.1 hla.2).mono ?_
  rintro e w2 ⟨rfl, rfl⟩
  go_wp2_with fail
  by_cases hlb : ((b.length : Int) ≤ 30 ∧ ∀ x ∈ b, ¬ itLong x)
  case neg =>
    refine (long_yes _ b _ _ hb1 hlb).mono ?_
    rintro e w2 ⟨rfl, rfl⟩
    go_wp2
    go_ret
    exact ⟨rfl, hx⟩
  refine (long_no _ b _ _ hb1 hlb.1 hlb.2).mono ?_
  rintro e w2 ⟨rfl, rfl⟩
  have la := hla.1
  have lb := hlb.1
  clear hla hlb
  have ha2 := ha1
  obtain ⟨aa, ca, ba, oa, rfl, g1, g2, g3, g4⟩ := Its.open ha1
  have g5 := len_le g1 g2
  clear g1 g2 ha1
  go_wp2
  go_loopw [7, 8] (fun v i wr => ∃ k : Nat, k ≤ a.length ∧ i = .int .i64 ((k : Int) - 1) ∧ Own 35 7 encIt w1 wr v (a.drop k).reverse) (fun _ i _ => (intOf i + 1).toNat)
  case atStart => exact ⟨a.length, Nat.le_refl _, rfl, by simpa using Own.nil (Ext.refl _)⟩
  case round =>
    obtain ⟨k, hk, rfl, hown⟩ := hrel
    by_cases hk0 : 0 < k
    · obtain rfl := g3 (by omega)
      obtain ⟨j, rfl⟩ : ∃ j, k = j + 1 := ⟨k - 1, by omega⟩
      have hj : j < a.length := by omega
      obtain ⟨q0, q1, q2, q3, q4, q5, q6⟩ := (g4 j hj).ext hown.ext
      have HS : Hid (a.drop j = a[j] :: a.drop (j + 1)) := Lib.hid (List.drop_eq_getElem_cons hj)
      generalize a[j] = x at *
      have e1 : Hid (((j + 1 : Nat) : Int) - 1 = (j : Int)) := Lib.hid (by omega)
      rw [e1.out]
      clear g3 g4
      have hlen : (a.drop (j + 1)).reverse.length ≤ 30 := by simp; omega
      go_wp2_with (at_builtin; refine wpList_app rfl _ _ 30 rfl tiIt encIt_ok w1 _ [x] _ _ rfl rfl (hown.alloc _) (Sl.new1 (enc := encIt) encIt_ok.len _ _ _ _ rfl) ?_ ?_ ?_)
      · (first | omega | (simp; omega) | (unfold maxLen; omega) | (unfold maxLen; simp; omega))
      · (first | omega | (simp; omega) | (unfold maxLen; omega) | (unfold maxLen; simp; omega))
      · intro v2 w2 r HR hown2 _ _
        clear hown q0 q1 q2 q3 q4 q5 q6
        go_wp2
        go_roundw
        case rel => exact ⟨j, by omega, by go_num, by rw [HS.out, List.reverse_cons, ← HR.out]; exact hown2⟩
        case measure => simp [intOf]
    · obtain rfl : k = 0 := by omega
      have hown' : Own 35 7 encIt w1 wr u7 a.reverse := by simpa using hown
      clear hown
      have hxr := hown'.ext
      have ht := hown'.sl encIt_ok
      rw [show (((0 : Nat) : Int) - 1) = -1 from rfl]
      go_wp2
      obtain ⟨wo, rfl⟩ : ∃ wo : World, wo = wr := ⟨_, rfl⟩
      go_loopw [36] (fun i wx => ∃ k : Nat, k ≤ a.length ∧ i = .int .i64 k ∧ Ext wo wx) (fun i _ => a.length - (intOf i).toNat)
      case atStart => exact ⟨0, Nat.zero_le _, rfl, Ext.refl _⟩
      case round =>
        obtain ⟨k, hk, rfl, hxk⟩ := hrel
        by_cases hkt : k < a.length
        · obtain rfl := g3 (by omega)
          obtain ⟨q0, q1, q2, q3, q4, q5, q6⟩ := (g4 k hkt).ext (hxr.trans hxk)
          generalize a[k] = x at *
          clear g3 g4
          go_wp2
          go_region_held3 (fun w' => Ext (wr.alloc (.cells #[.string x.key, .int .i64 x.rep, .int .i64 x.cnt, .int .i64 x.rank, .int .i64 x.prio, .bool x.dead, .string x.body] 35)) w' ∧ w'.cell? ⟨wr.heap.size, 0, none⟩ = some (.string x.key) ∧ w'.cell? ⟨wr.heap.size, 1, none⟩ = some (.int .i64 x.rep) ∧ w'.cell? ⟨wr.heap.size, 2, none⟩ = some (.int .i64 x.cnt) ∧ w'.cell? ⟨wr.heap.size, 3, none⟩ = some (.int .i64 x.rank) ∧ w'.cell? ⟨wr.heap.size, 4, none⟩ = some (.int .i64 x.prio) ∧ w'.cell? ⟨wr.heap.size, 5, none⟩ = some (.bool x.dead) ∧ w'.cell? ⟨wr.heap.size, 6, none⟩ = some (.string x.body))
            (first | exact itBox (x := x) (by repeat (first | assumption | exact Ext.refl _ | refine Ext.alloc ?_ _ | refine Ext.drew ?_)) | exact itBox (x := x) (Ext.alloc (And.left ‹_›) _))
            (first | (go_at_call 21; refine Calls.mono (hItem_any seed x _) ?_; rintro e w2 ⟨rfl, hx2⟩; have hE := Ext.trans (And.left ‹Ext _ _ ∧ _›) hx2) | (go_at_call 22; refine Calls.mono (refHItem_any seed x _) ?_; rintro e w3 ⟨rfl, hx3⟩; have hE3 := Ext.trans (And.left ‹Ext _ _ ∧ _›) hx3))
          all_goals
            have hxe : Ext wo _ := Ext.trans (hxk.alloc _) hE3
            clear q0 q1 q2 q3 q4 q5 q6
            go_wp2
            go_roundw
            case rel => exact ⟨k + 1, by omega, by go_num, hxe⟩
            case measure => simp [intOf]; omega
        · have hxe := hxr.trans hxk
          have ha3 := ha2.ext hxe
          have hb3 := hb1.ext hxe
          have ht3 := ht.ext hxk
          have hfin := hx.trans hxe
          have HREV := Lib.hid (hSum_rev seed a)
          have HAPP := Lib.hid (hSum_app seed a b)
          clear ha2 hb1 ht hx hxr hxk hown' g3 g4 hxe
          go_wp2_with fail
          refine Calls.mono (hSum_any seed _ a _ ha3) ?_
          rintro e w2 ⟨rfl, hx2⟩
          go_wp2_with fail
          refine Calls.mono (refHSum_any seed _ a _ (ha3.ext hx2)) ?_
          rintro e w3 ⟨rfl, hx3⟩
          go_wp2_with fail
          refine Calls.mono (hSum_any seed _ _ _ (ht3.ext (hx2.trans hx3))) ?_
          rw [HREV.out]
          rintro e w4 ⟨rfl, hx4⟩
          have hx24 := (hx2.trans hx3).trans hx4
          have ha5 := ha3.ext hx24
          have hb5 := hb3.ext hx24
          have hfin2 := hfin.trans hx24
          clear ha3 hb3 ht3 hx2 hx3 hx4 hfin hx24
          go_wp2_with (at_builtin; refine wpList_app_g rfl _ _ 30 rfl tiIt encIt_ok w4 [] a _ _ rfl rfl (Own.empty (Ext.refl _)) (ha5.ext ((Ext.refl _).alloc _)) ?_ ?_ ?_)
          · (first | omega | (simp; omega) | (unfold maxLen; omega) | (unfold maxLen; simp; omega))
          · (first | omega | (simp; omega) | (unfold maxLen; omega) | (unfold maxLen; simp; omega))
          · intro v5 w5 r HR hown5 _ _
            have HR' : Hid (r = a) := Lib.hid (by simpa using HR.out)
            rw [HR'.out] at hown5
            clear HR
            have hb6 := hb5.ext hown5.ext
            go_wp2_with (at_builtin; refine wpList_app_g rfl _ _ 30 rfl tiIt encIt_ok w4 a b _ _ rfl rfl hown5 hb6 ?_ ?_ ?_)
            · (first | omega | (simp; omega) | (unfold maxLen; omega) | (unfold maxLen; simp; omega))
            · (first | omega | (simp; omega) | (unfold maxLen; omega) | (unfold maxLen; simp; omega))
            · intro v7 w7 r7 HR7 hown7 _ _
              have hs7 := hown7.sl encIt_ok
              have hb7 := hb5.ext hown7.ext
              have hfin3 := hfin2.trans hown7.ext
              rw [HR7.out] at hs7
              clear hown7 hown5 hb6 hb5 ha5
              go_wp2_with fail
              refine Calls.mono (hSum_any seed _ (a ++ b) _ hs7) ?_
              rw [HAPP.out]
              rintro e w8 ⟨rfl, hx8⟩
              go_wp2_with fail
              refine Calls.mono (hSum_any seed _ b _ (hb7.ext hx8)) ?_
              rintro e w9 ⟨rfl, hx9⟩
              go_wp2
              go_ret
              exact ⟨rfl, (hfin3.trans hx8).trans hx9⟩
end Go.Proofs.Ytjohkaonokghbaa
