/- The references' bytes and hashes of items. -/
import Derived.Test.YtpndnlnjgnckdaaHashItem
namespace Go.Proofs.Ytpndnlnjgnckdaa
open Go.RowKit

set_option maxRecDepth 10000 in
set_option maxHeartbeats 1600000 in
theorem refRest_f (key : ByteArray) (rep cnt rank prio : Int) (body : ByteArray) (w : World) (hr : itR ⟨key, rep, cnt, rank, prio, false, body⟩ = true) :
    Calls Try.prog 74 #[itV ⟨key, rep, cnt, rank, prio, false, body⟩] w (RetOwn 5 1 encB w (restBo ⟨key, rep, cnt, rank, prio, false, body⟩)) := by
  obtain ⟨hnums, hbody, _, _⟩ := itR_numso hr
  have HN : Hid (∀ n ∈ [rep, cnt, rank, prio, 0], okNum n) := Lib.hid hnums
  have hlen := nums_len _ HN.out
  replace hbody : body.size ≤ 64 := hbody
  have htl := textB_leno body (by omega)
  have HL : Hid (restBo ⟨key, rep, cnt, rank, prio, false, body⟩ = [rep, cnt, rank, prio, 0].flatMap numI ++ textB body) := Lib.hid rfl
  generalize hns : [rep, cnt, rank, prio, 0].flatMap numI = nums at *
  have HNS := Lib.hid hns
  have hlen' : nums.length ≤ 45 := by simpa using hlen
  have htl' : (textB body).length ≤ 65 := by omega
  clear hnums hr hlen hns htl
  unfold itV
  go_enter Try.func74, Try.ntmps74
  go_wp2_with fail
  refine Calls.mono (refPut_any _ [rep, cnt, rank, prio, 0] _ ?_ ?_ HN.out) ?_
  · exact Sl.lit encI_ok.len (by (repeat refine (heap_drew_at _ _).trans ?_); first | (refine heap_new_at _ _ _ ?_ <;> (first | rfl | (simp; done) | (simp; omega))) | (refine (heap_old_at _ _ _ ?_).trans (heap_new_at _ _ _ ?_) <;> (first | rfl | (simp; done) | (simp; omega))) | (refine (heap_old_at _ _ _ ?_).trans ((heap_old_at _ _ _ ?_).trans (heap_new_at _ _ _ ?_)) <;> (first | rfl | (simp; done) | (simp; omega))) | (refine (heap_old_at _ _ _ ?_).trans ((heap_old_at _ _ _ ?_).trans ((heap_old_at _ _ _ ?_).trans (heap_new_at _ _ _ ?_))) <;> (first | rfl | (simp; done) | (simp; omega))) | (refine (heap_old_at _ _ _ ?_).trans ((heap_old_at _ _ _ ?_).trans ((heap_old_at _ _ _ ?_).trans ((heap_old_at _ _ _ ?_).trans (heap_new_at _ _ _ ?_)))) <;> (first | rfl | (simp; done) | (simp; omega)))) rfl rfl (Nat.le_refl _) (by simp [maxLen])
  · simp
  rw [HNS.out]
  rintro e w1 ⟨v1, rfl, hown⟩
  have hE := hown.ext
  have hown1 := hown.mono (w0 := w) (by repeat (first | assumption | exact Ext.refl _ | refine Ext.alloc ?_ _ | refine Ext.drew ?_ | refine Ext.drewN ?_ _))
  obtain ⟨q0, q1, q2, q3, q4, q5, q6⟩ := (((ItAt.box (w := w) ⟨key, rep, cnt, rank, prio, false, body⟩ 35).ext ((Ext.refl _).alloc _))).ext hE
  simp only [Nat.zero_add] at q6
  clear hown q0 q1 q2 q3 q4 q5
  go_wp2_with fail
  refine Calls.mono (refText_any body _ (by omega)) ?_
  rintro e w2 ⟨v2, rfl, hown2⟩
  have hown3 := hown1.extend hown2.ext
  have hs2 := hown2.sl encB_ok
  clear hown1 hown2 hE q6
  go_wp2_with (at_builtin; refine wpList_app rfl _ _ 60 rfl tiB encB_ok w _ _ _ _ rfl rfl hown3 hs2 ?_ ?_ ?_)
  · (first | omega | (simp; omega) | (unfold maxLen; omega) | (unfold maxLen; simp; omega))
  · (first | omega | (simp; omega) | (unfold maxLen; omega) | (unfold maxLen; simp; omega))
  · intro v3 w3 r HR hown4 _ _
    go_wp2
    go_ret
    exact ⟨_, rfl, by rw [HL.out, ← HR.out]; exact hown4⟩

set_option maxRecDepth 10000 in
set_option maxHeartbeats 1600000 in
theorem refRest_t (key : ByteArray) (rep cnt rank prio : Int) (body : ByteArray) (w : World) (hr : itR ⟨key, rep, cnt, rank, prio, true, body⟩ = true) :
    Calls Try.prog 74 #[itV ⟨key, rep, cnt, rank, prio, true, body⟩] w (RetOwn 5 1 encB w (restBo ⟨key, rep, cnt, rank, prio, true, body⟩)) := by
  obtain ⟨hnums, hbody, _, _⟩ := itR_numso hr
  have HN : Hid (∀ n ∈ [rep, cnt, rank, prio, 1], okNum n) := Lib.hid hnums
  have hlen := nums_len _ HN.out
  replace hbody : body.size ≤ 64 := hbody
  have htl := textB_leno body (by omega)
  have HL : Hid (restBo ⟨key, rep, cnt, rank, prio, true, body⟩ = [rep, cnt, rank, prio, 1].flatMap numI ++ textB body) := Lib.hid rfl
  generalize hns : [rep, cnt, rank, prio, 1].flatMap numI = nums at *
  have HNS := Lib.hid hns
  have hlen' : nums.length ≤ 45 := by simpa using hlen
  have htl' : (textB body).length ≤ 65 := by omega
  clear hnums hr hlen hns htl
  unfold itV
  go_enter Try.func74, Try.ntmps74
  go_wp2_with fail
  refine Calls.mono (refPut_any _ [rep, cnt, rank, prio, 1] _ ?_ ?_ HN.out) ?_
  · exact Sl.lit encI_ok.len (by (repeat refine (heap_drew_at _ _).trans ?_); first | (refine heap_new_at _ _ _ ?_ <;> (first | rfl | (simp; done) | (simp; omega))) | (refine (heap_old_at _ _ _ ?_).trans (heap_new_at _ _ _ ?_) <;> (first | rfl | (simp; done) | (simp; omega))) | (refine (heap_old_at _ _ _ ?_).trans ((heap_old_at _ _ _ ?_).trans (heap_new_at _ _ _ ?_)) <;> (first | rfl | (simp; done) | (simp; omega))) | (refine (heap_old_at _ _ _ ?_).trans ((heap_old_at _ _ _ ?_).trans ((heap_old_at _ _ _ ?_).trans (heap_new_at _ _ _ ?_))) <;> (first | rfl | (simp; done) | (simp; omega))) | (refine (heap_old_at _ _ _ ?_).trans ((heap_old_at _ _ _ ?_).trans ((heap_old_at _ _ _ ?_).trans ((heap_old_at _ _ _ ?_).trans (heap_new_at _ _ _ ?_)))) <;> (first | rfl | (simp; done) | (simp; omega)))) rfl rfl (Nat.le_refl _) (by simp [maxLen])
  · simp
  rw [HNS.out]
  rintro e w1 ⟨v1, rfl, hown⟩
  have hE := hown.ext
  have hown1 := hown.mono (w0 := w) (by repeat (first | assumption | exact Ext.refl _ | refine Ext.alloc ?_ _ | refine Ext.drew ?_ | refine Ext.drewN ?_ _))
  obtain ⟨q0, q1, q2, q3, q4, q5, q6⟩ := (((ItAt.box (w := w) ⟨key, rep, cnt, rank, prio, true, body⟩ 35).ext ((Ext.refl _).alloc _))).ext hE
  simp only [Nat.zero_add] at q6
  clear hown q0 q1 q2 q3 q4 q5
  go_wp2_with fail
  refine Calls.mono (refText_any body _ (by omega)) ?_
  rintro e w2 ⟨v2, rfl, hown2⟩
  have hown3 := hown1.extend hown2.ext
  have hs2 := hown2.sl encB_ok
  clear hown1 hown2 hE q6
  go_wp2_with (at_builtin; refine wpList_app rfl _ _ 60 rfl tiB encB_ok w _ _ _ _ rfl rfl hown3 hs2 ?_ ?_ ?_)
  · (first | omega | (simp; omega) | (unfold maxLen; omega) | (unfold maxLen; simp; omega))
  · (first | omega | (simp; omega) | (unfold maxLen; omega) | (unfold maxLen; simp; omega))
  · intro v3 w3 r HR hown4 _ _
    go_wp2
    go_ret
    exact ⟨_, rfl, by rw [HL.out, ← HR.out]; exact hown4⟩

theorem refRest_any (x : It) (w : World) (hr : itR x = true) :
    Calls Try.prog 74 #[itV x] w (RetOwn 5 1 encB w (restBo x)) := by
  obtain ⟨key, rep, cnt, rank, prio, dead, body⟩ := x
  cases dead
  · exact refRest_f key rep cnt rank prio body w hr
  · exact refRest_t key rep cnt rank prio body w hr

set_option maxRecDepth 10000 in
set_option maxHeartbeats 1600000 in
theorem refItem_any (x : It) (w : World) (hr : itR x = true) :
    Calls Try.prog 70 #[itV x] w (RetOwn 5 1 encB w (itemB x)) := by
  obtain ⟨_, _, hk0, hk1⟩ := itR_numso hr
  have htk := textB_leno x.key (by omega)
  have hrl := restBo_len hr
  have htk' : (textB x.key).length ≤ 17 := by omega
  have HR := Lib.hid hr
  have HB : Hid (itemB x = textB x.key ++ restBo x) := Lib.hid rfl
  clear htk hr
  unfold itV
  go_enter Try.func70, Try.ntmps70
  go_wp2_with fail
  refine Calls.mono (refText_any x.key _ (by omega)) ?_
  rintro e w1 ⟨v1, rfl, hown⟩
  have hE := hown.ext
  have hown1 := hown.mono (w0 := w) (by repeat (first | assumption | exact Ext.refl _ | refine Ext.alloc ?_ _ | refine Ext.drew ?_ | refine Ext.drewN ?_ _))
  obtain ⟨q0, q1, q2, q3, q4, q5, q6⟩ := (ItAt.box (w := w) x 35).ext hE
  simp only [Nat.zero_add] at q0 q1 q2 q3 q4 q5 q6
  clear hown
  go_wp2_with fail
  refine Calls.mono (refRest_any x _ HR.out) ?_
  rintro e w2 ⟨v2, rfl, hown2⟩
  have hown3 := hown1.extend hown2.ext
  have hs2 := hown2.sl encB_ok
  clear hown1 hown2 hE q0 q1 q2 q3 q4 q5 q6
  go_wp2_with (at_builtin; refine wpList_app rfl _ _ 60 rfl tiB encB_ok w _ _ _ _ rfl rfl hown3 hs2 ?_ ?_ ?_)
  · (first | omega | (simp; omega) | (unfold maxLen; omega) | (unfold maxLen; simp; omega))
  · (first | omega | (simp; omega) | (unfold maxLen; omega) | (unfold maxLen; simp; omega))
  · intro v3 w3 r HR hown4 _ _
    go_wp2
    go_ret
    exact ⟨_, rfl, by rw [HB.out, ← HR.out]; exact hown4⟩

set_option maxRecDepth 10000 in
set_option maxHeartbeats 800000 in
theorem refHItem_any (seed : Int) (x : It) (w : World) :
    Calls Try.prog 62 #[.int .u64 seed, itV x] w fun e w' => e = .returned (.int .u64 (hItem seed x)) ∧ Ext w w' := by
  by_cases hr : itR x = true
  · have HR := Lib.hid hr
    have HH : Hid (hItem seed x = hashOf seed (itemB x)) := Lib.hid (by unfold hItem; rw [if_pos hr])
    clear hr
    unfold itV
    go_enter Try.func62, Try.ntmps62
    go_wp2_with fail
    refine (refItR_any x _).mono ?_
    rw [HR.out]
    rintro e w1 ⟨rfl, hx1⟩
    obtain ⟨q0, q1, q2, q3, q4, q5, q6⟩ := (ItAt.box (w := w) x 35).ext hx1
    simp only [Nat.zero_add] at q0 q1 q2 q3 q4 q5 q6
    go_wp2_with fail
    refine (refItem_any x _ HR.out).mono ?_
    rintro e w2 ⟨v2, rfl, hown2⟩
    have hs2 := hown2.sl encB_ok
    have hx2 := hown2.ext
    clear hown2 q0 q1 q2 q3 q4 q5 q6
    go_wp2_with fail
    refine (refOf_any seed _ _ _ hs2).mono ?_
    rw [← HH.out]
    rintro e w3 ⟨rfl, rfl⟩
    go_wp2
    go_ret
    exact ⟨rfl, (((Ext.refl _).alloc _).trans hx1).trans hx2⟩
  · have HR : Hid (itR x = false) := Lib.hid (by simpa using hr)
    have HH : Hid (hItem seed x = 0) := Lib.hid (by unfold hItem; rw [if_neg hr])
    clear hr
    unfold itV
    go_enter Try.func62, Try.ntmps62
    go_wp2_with fail
    refine (refItR_any x _).mono ?_
    rw [HR.out]
    rintro e w1 ⟨rfl, hx1⟩
    go_wp2
    go_ret
    exact ⟨by rw [HH.out]; rfl, ((Ext.refl _).alloc _).trans hx1⟩

set_option maxRecDepth 10000 in
set_option maxHeartbeats 800000 in
theorem refHSum_any (seed : Int) (v : Value) (l : List It) (w : World) (hv : Its w v l) :
    Calls Try.prog 43 #[.int .u64 seed, v] w fun e w' => e = .returned (.int .u64 (hSum seed l)) ∧ Ext w w' := by
  obtain ⟨a, c, b, o, rfl, h1, h2, h3, h4⟩ := Its.open hv
  have h5 := len_le h1 h2
  clear h1 h2 hv
  go_enter Try.func43, Try.ntmps43
  go_wp2
  go_loopw [5, 6] (fun s i wr => ∃ k : Nat, k ≤ l.length ∧ i = .int .i64 k ∧ s = .int .u64 (hSum seed (l.take k)) ∧ Ext w wr) (fun _ i _ => l.length - (intOf i).toNat)
  case atStart => exact ⟨0, Nat.zero_le _, rfl, rfl, Ext.refl _⟩
  case round =>
    obtain ⟨k, hk, rfl, rfl, hx⟩ := hrel
    by_cases hlt : k < l.length
    · obtain rfl := h3 (by omega)
      obtain ⟨q0, q1, q2, q3, q4, q5, q6⟩ := (h4 k hlt).ext hx
      have HS := Lib.hid (take_snoc l k hlt)
      generalize l[k] = x at *
      clear h3 h4
      go_wp2_with fail
      refine (refHItem_any seed x _).mono ?_
      rintro e w2 ⟨rfl, hx2⟩
      clear q0 q1 q2 q3 q4 q5 q6
      have hx3 : Ext w w2 := hx.trans hx2
      go_wp2
      go_roundw
      case rel => exact ⟨k + 1, by omega, by go_num, by rw [HS.out, hSum_snoc], hx3⟩
      case measure => simp [intOf]; omega
    · have HT := Lib.hid (show l.take k = l from List.take_of_length_le (by omega))
      go_wp2
      go_ret
      exact ⟨by rw [HT.out]; rfl, hx⟩

/-- Long: too many, or one too long -/
def itLong (x : It) : Prop := 60 < x.key.size ∨ 200 < x.body.size
set_option maxRecDepth 10000 in
set_option maxHeartbeats 800000 in
theorem long_no (v : Value) (l : List It) (m : Int) (w : World) (hv : Its w v l) (h : (l.length : Int) ≤ m) (hl : ∀ x ∈ l, ¬ itLong x) :
    Calls Try.prog 8 #[v, .int .i64 m] w fun e w' => e = .returned (.bool false) ∧ w = w' := by
  obtain ⟨a, c, b, o, rfl, h1, h2, h3, h4⟩ := Its.open hv
  have h5 := len_le h1 h2
  have HL := Lib.hid hl
  clear h1 h2 hv hl
  go_enter Try.func8, Try.ntmps8
  go_wp2
  go_loop [5] (fun i => ∃ k : Nat, k ≤ l.length ∧ i = .int .i64 k) (fun i => l.length - (intOf i).toNat)
  case atStart => exact ⟨0, Nat.zero_le _, rfl⟩
  case round =>
    obtain ⟨k, hk, rfl⟩ := hrel
    by_cases hlt : k < l.length
    · obtain rfl := h3 (by omega)
      obtain ⟨q0, _, _, _, _, _, q6⟩ := h4 k hlt
      have hll := HL.out l[k] (by simp)
      unfold itLong at hll
      generalize l[k] = x at *
      have g1 : x.key.size ≤ 60 := by omega
      have g2 : x.body.size ≤ 200 := by omega
      clear h3 h4 hll
      go_wp2
      go_round
      case rel => exact ⟨k + 1, by omega, by go_num⟩
      case measure => simp [intOf]; omega
    · go_wp2
      go_ret
      exact ⟨rfl, rfl⟩
set_option maxRecDepth 10000 in
set_option maxHeartbeats 800000 in
theorem long_yes (v : Value) (l : List It) (m : Int) (w : World) (hv : Its w v l) (h : ¬ ((l.length : Int) ≤ m ∧ ∀ x ∈ l, ¬ itLong x)) :
    Calls Try.prog 8 #[v, .int .i64 m] w fun e w' => e = .returned (.bool true) ∧ w = w' := by
  obtain ⟨a, c, b, o, rfl, h1, h2, h3, h4⟩ := Its.open hv
  have h5 := len_le h1 h2
  have HL := Lib.hid h
  clear h1 h2 hv h
  by_cases hm : m < (l.length : Int)
  · go_enter Try.func8, Try.ntmps8
    go_wp2
    go_ret
    exact ⟨rfl, rfl⟩
  · have hm' : (l.length : Int) ≤ m := by omega
    go_enter Try.func8, Try.ntmps8
    go_wp2
    go_loop [5] (fun i => ∃ k : Nat, k ≤ l.length ∧ i = .int .i64 k ∧ Hid (∀ x ∈ l.take k, ¬ itLong x)) (fun i => l.length - (intOf i).toNat)
    case atStart => exact ⟨0, Nat.zero_le _, rfl, Lib.hid (by simp)⟩
    case round =>
      obtain ⟨k, hk, rfl, HK⟩ := hrel
      by_cases hlt : k < l.length
      · obtain rfl := h3 (by omega)
        obtain ⟨q0, _, _, _, _, _, q6⟩ := h4 k hlt
        have HS := Lib.hid (take_snoc l k hlt)
        generalize l[k] = x at *
        clear h3 h4
        by_cases g1 : 60 < x.key.size
        · go_wp2
          go_ret
          exact ⟨rfl, rfl⟩
        · by_cases g2 : 200 < x.body.size
          · go_wp2
            go_ret
            exact ⟨rfl, rfl⟩
          · go_wp2
            go_round
            case rel =>
              refine ⟨k + 1, by omega, by go_num, Lib.hid ?_⟩
              rw [HS.out]
              intro y hy
              rcases List.mem_append.1 hy with h | h
              · exact HK.out y h
              · simp at h; subst h; unfold itLong; omega
            case measure => simp [intOf]; omega
      · exact absurd ⟨hm', fun x hx => HK.out x (by rw [List.take_of_length_le (by omega)]; exact hx)⟩ HL.out
end Go.Proofs.Ytpndnlnjgnckdaa
