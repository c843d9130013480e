/- Items as bytes (icode.Item, and the references'). -/
import Derived.Test.YtpndnlnjgnckdaaItem
import Derived.Deep.RegionHeld3
namespace Go.Proofs.Ytpndnlnjgnckdaa
open Go.RowKit

set_option maxRecDepth 10000 in
set_option maxHeartbeats 800000 in
theorem icPut_any (v vl : Value) (l : List UInt8) (ns : List Int) (w : World) (hv : Bs w v l) (hl : Sl 1 encI w vl ns) (hb : l.length + 9 * ns.length ≤ 70368744177664)
    (hok : ∀ n ∈ ns, okNum n) : Calls Try.prog 71 #[v, vl] w (RetOwn 5 1 encB w (l ++ ns.flatMap numI)) := by
  go_enter Try.func71, Try.ntmps71
  go_wp2_with fail
  refine (put_ok _ _ l ns _ hv hl hb hok).mono ?_
  rintro e w1 ⟨v1, rfl, hown⟩
  go_wp2
  go_ret
  exact ⟨_, rfl, hown⟩

theorem itBox {x : It} {w w' : World} {T : TypeId} (h : Ext (w.alloc (.cells #[.string x.key, .int .i64 x.rep, .int .i64 x.cnt, .int .i64 x.rank, .int .i64 x.prio, .bool x.dead, .string x.body] T)) w') :
    Ext (w.alloc (.cells #[.string x.key, .int .i64 x.rep, .int .i64 x.cnt, .int .i64 x.rank, .int .i64 x.prio, .bool x.dead, .string x.body] T)) w' ∧
    w'.cell? ⟨w.heap.size, 0, none⟩ = some (.string x.key) ∧ w'.cell? ⟨w.heap.size, 1, none⟩ = some (.int .i64 x.rep) ∧ w'.cell? ⟨w.heap.size, 2, none⟩ = some (.int .i64 x.cnt) ∧
    w'.cell? ⟨w.heap.size, 3, none⟩ = some (.int .i64 x.rank) ∧ w'.cell? ⟨w.heap.size, 4, none⟩ = some (.int .i64 x.prio) ∧ w'.cell? ⟨w.heap.size, 5, none⟩ = some (.bool x.dead) ∧ w'.cell? ⟨w.heap.size, 6, none⟩ = some (.string x.body) := by
  have hc : ∀ j v, (#[.string x.key, .int .i64 x.rep, .int .i64 x.cnt, .int .i64 x.rank, .int .i64 x.prio, .bool x.dead, .string x.body] : Array Value)[j]? = some v → w'.cell? ⟨w.heap.size, j, none⟩ = some v := by
    intro j v hj
    refine h.cell ?_
    rw [cell_of_row _ _ _ _ _ _ (heap_alloc_new w _)]; exact hj
  exact ⟨h, hc 0 _ rfl, hc 1 _ rfl, hc 2 _ rfl, hc 3 _ rfl, hc 4 _ rfl, hc 5 _ rfl, hc 6 _ rfl⟩

def restNumso (x : It) : List Int := [x.rep, x.cnt, x.rank, x.prio, if x.dead then 1 else 0]
def restBo (x : It) : List UInt8 := (restNumso x).flatMap numI ++ textB x.body

theorem itR_numso {x : It} (h : itR x = true) : (∀ n ∈ restNumso x, okNum n) ∧ x.body.size ≤ 64 ∧ 1 ≤ x.key.size ∧ x.key.size ≤ 16 := by
  simp only [itR, keyR, verR, Bool.and_eq_true, decide_eq_true_eq] at h
  obtain ⟨⟨h1, h2⟩, h3⟩ := h
  refine ⟨?_, by omega, by omega, by omega⟩
  intro n hn
  simp only [restNumso, List.mem_cons, List.not_mem_nil, or_false] at hn
  unfold okNum
  rcases hn with rfl | rfl | rfl | rfl | rfl
  · omega
  · omega
  · omega
  · omega
  · split <;> omega

theorem textB_leno (s : ByteArray) (h : s.size ≤ 127) : (textB s).length = 1 + s.size := by
  unfold textB; rw [numB_lt (by omega)]; simp; omega

set_option maxRecDepth 10000 in
set_option maxHeartbeats 1600000 in
theorem rest_f (v : Value) (key : ByteArray) (rep cnt rank prio : Int) (body : ByteArray) (l : List UInt8) (w : World) (hv : Bs w v l) (hr : itR ⟨key, rep, cnt, rank, prio, false, body⟩ = true) (hb : l.length ≤ 1000000) :
    Calls Try.prog 66 #[v, itV ⟨key, rep, cnt, rank, prio, false, body⟩] w (RetOwn 5 1 encB w (l ++ restBo ⟨key, rep, cnt, rank, prio, false, body⟩)) := by
  obtain ⟨hnums, hbody, _, _⟩ := itR_numso hr
  have HN : Hid (∀ n ∈ [rep, cnt, rank, prio, 0], okNum n) := Lib.hid hnums
  have hlen := nums_len _ HN.out
  replace hbody : body.size ≤ 64 := hbody
  have htl := textB_leno body (by omega)
  have HL : Hid (restBo ⟨key, rep, cnt, rank, prio, false, body⟩ = [rep, cnt, rank, prio, 0].flatMap numI ++ textB body) := Lib.hid rfl
  generalize hns : [rep, cnt, rank, prio, 0].flatMap numI = nums at *
  have HNS := Lib.hid hns
  have hlen' : nums.length ≤ 45 := by simpa using hlen
  have htl' : (textB body).length ≤ 65 := by omega
  clear hnums hr hlen hns htl hbody
  unfold itV
  go_enter Try.func66, Try.ntmps66
  go_wp2_with fail
  go_region_held3 (fun w' => Ext (w.alloc (.cells #[.string key, .int .i64 rep, .int .i64 cnt, .int .i64 rank, .int .i64 prio, .bool false, .string body] 35)) w' ∧ w'.cell? ⟨w.heap.size, 0, none⟩ = some (.string key) ∧ w'.cell? ⟨w.heap.size, 1, none⟩ = some (.int .i64 rep) ∧ w'.cell? ⟨w.heap.size, 2, none⟩ = some (.int .i64 cnt) ∧ w'.cell? ⟨w.heap.size, 3, none⟩ = some (.int .i64 rank) ∧ w'.cell? ⟨w.heap.size, 4, none⟩ = some (.int .i64 prio) ∧ w'.cell? ⟨w.heap.size, 5, none⟩ = some (.bool false) ∧ w'.cell? ⟨w.heap.size, 6, none⟩ = some (.string body))
    (first | exact itBox (x := ⟨key, rep, cnt, rank, prio, false, body⟩) ‹Ext _ _› | exact itBox (x := ⟨key, rep, cnt, rank, prio, false, body⟩) (Ext.drew (Ext.refl _)) | exact itBox (x := ⟨key, rep, cnt, rank, prio, false, body⟩) (Ext.alloc (And.left ‹_›) _))
    (first | (go_at_call 71; refine Calls.mono (icPut_any _ _ l [rep, cnt, rank, prio, 0] _ ?_ ?_ ?_ HN.out) ?_; exact hv.ext (by repeat (first | assumption | exact Ext.refl _ | refine Ext.alloc ?_ _ | refine Ext.drew ?_ | refine Ext.drewN ?_ _)); exact Sl.lit encI_ok.len (by (repeat refine (heap_drew_at _ _).trans ?_); first | (refine heap_new_at _ _ _ ?_ <;> (first | rfl | (simp; done) | (simp; omega))) | (refine (heap_old_at _ _ _ ?_).trans (heap_new_at _ _ _ ?_) <;> (first | rfl | (simp; done) | (simp; omega))) | (refine (heap_old_at _ _ _ ?_).trans ((heap_old_at _ _ _ ?_).trans (heap_new_at _ _ _ ?_)) <;> (first | rfl | (simp; done) | (simp; omega))) | (refine (heap_old_at _ _ _ ?_).trans ((heap_old_at _ _ _ ?_).trans ((heap_old_at _ _ _ ?_).trans (heap_new_at _ _ _ ?_))) <;> (first | rfl | (simp; done) | (simp; omega))) | (refine (heap_old_at _ _ _ ?_).trans ((heap_old_at _ _ _ ?_).trans ((heap_old_at _ _ _ ?_).trans ((heap_old_at _ _ _ ?_).trans (heap_new_at _ _ _ ?_)))) <;> (first | rfl | (simp; done) | (simp; omega)))) rfl rfl (Nat.le_refl _) (by simp [maxLen]); (simp; omega); rw [HNS.out]; rintro e w2 ⟨v2, rfl, hown⟩; have hE2 := hown.ext; have hE := Ext.trans (And.left ‹Ext _ _ ∧ _›) hE2; have hown1 := hown.mono (w0 := w) (by repeat (first | assumption | exact Ext.refl _ | refine Ext.alloc ?_ _ | refine Ext.drew ?_ | refine Ext.drewN ?_ _)); have hx2 := hown1.ext; clear hown) | (go_at_call 67; refine Calls.mono (text_any _ _ (l ++ nums) [body] _ ?_ ?_ ?_) ?_; exact ((hown1.sl encB_ok).ext (by repeat (first | assumption | exact Ext.refl _ | refine Ext.alloc ?_ _ | refine Ext.drew ?_ | refine Ext.drewN ?_ _))); (first | exact Sl.new1 encS_ok.len _ _ _ body rfl | exact Sl.ext (Sl.lit encS_ok.len (by (repeat refine (heap_drew_at _ _).trans ?_); first | (refine heap_new_at _ _ _ ?_ <;> (first | rfl | (simp; done) | (simp; omega))) | (refine (heap_old_at _ _ _ ?_).trans (heap_new_at _ _ _ ?_) <;> (first | rfl | (simp; done) | (simp; omega))) | (refine (heap_old_at _ _ _ ?_).trans ((heap_old_at _ _ _ ?_).trans (heap_new_at _ _ _ ?_)) <;> (first | rfl | (simp; done) | (simp; omega))) | (refine (heap_old_at _ _ _ ?_).trans ((heap_old_at _ _ _ ?_).trans ((heap_old_at _ _ _ ?_).trans (heap_new_at _ _ _ ?_))) <;> (first | rfl | (simp; done) | (simp; omega))) | (refine (heap_old_at _ _ _ ?_).trans ((heap_old_at _ _ _ ?_).trans ((heap_old_at _ _ _ ?_).trans ((heap_old_at _ _ _ ?_).trans (heap_new_at _ _ _ ?_)))) <;> (first | rfl | (simp; done) | (simp; omega)))) rfl rfl (Nat.le_refl _) (by simp [maxLen])) hE2); (simp; omega); rintro e w3 ⟨v3, rfl, hown3⟩; have hE3 := Ext.trans (And.left ‹Ext _ _ ∧ _›) hown3.ext; have hown4 := hown3.mono (w0 := w) (by repeat (first | assumption | exact Ext.refl _ | refine Ext.alloc ?_ _ | refine Ext.drew ?_ | refine Ext.drewN ?_ _)); clear hown3))
  all_goals
    go_wp2
    go_ret
    refine ⟨_, rfl, ?_⟩
    rw [HL.out, ← List.append_assoc]
    simpa using hown4

set_option maxRecDepth 10000 in
set_option maxHeartbeats 1600000 in
theorem rest_t (v : Value) (key : ByteArray) (rep cnt rank prio : Int) (body : ByteArray) (l : List UInt8) (w : World) (hv : Bs w v l) (hr : itR ⟨key, rep, cnt, rank, prio, true, body⟩ = true) (hb : l.length ≤ 1000000) :
    Calls Try.prog 66 #[v, itV ⟨key, rep, cnt, rank, prio, true, body⟩] w (RetOwn 5 1 encB w (l ++ restBo ⟨key, rep, cnt, rank, prio, true, body⟩)) := by
  obtain ⟨hnums, hbody, _, _⟩ := itR_numso hr
  have HN : Hid (∀ n ∈ [rep, cnt, rank, prio, 1], okNum n) := Lib.hid hnums
  have hlen := nums_len _ HN.out
  replace hbody : body.size ≤ 64 := hbody
  have htl := textB_leno body (by omega)
  have HL : Hid (restBo ⟨key, rep, cnt, rank, prio, true, body⟩ = [rep, cnt, rank, prio, 1].flatMap numI ++ textB body) := Lib.hid rfl
  generalize hns : [rep, cnt, rank, prio, 1].flatMap numI = nums at *
  have HNS := Lib.hid hns
  have hlen' : nums.length ≤ 45 := by simpa using hlen
  have htl' : (textB body).length ≤ 65 := by omega
  clear hnums hr hlen hns htl hbody
  unfold itV
  go_enter Try.func66, Try.ntmps66
  go_wp2_with fail
  go_region_held3 (fun w' => Ext (w.alloc (.cells #[.string key, .int .i64 rep, .int .i64 cnt, .int .i64 rank, .int .i64 prio, .bool true, .string body] 35)) w' ∧ w'.cell? ⟨w.heap.size, 0, none⟩ = some (.string key) ∧ w'.cell? ⟨w.heap.size, 1, none⟩ = some (.int .i64 rep) ∧ w'.cell? ⟨w.heap.size, 2, none⟩ = some (.int .i64 cnt) ∧ w'.cell? ⟨w.heap.size, 3, none⟩ = some (.int .i64 rank) ∧ w'.cell? ⟨w.heap.size, 4, none⟩ = some (.int .i64 prio) ∧ w'.cell? ⟨w.heap.size, 5, none⟩ = some (.bool true) ∧ w'.cell? ⟨w.heap.size, 6, none⟩ = some (.string body))
    (first | exact itBox (x := ⟨key, rep, cnt, rank, prio, true, body⟩) ‹Ext _ _› | exact itBox (x := ⟨key, rep, cnt, rank, prio, true, body⟩) (Ext.drew (Ext.refl _)) | exact itBox (x := ⟨key, rep, cnt, rank, prio, true, body⟩) (Ext.alloc (And.left ‹_›) _))
    (first | (go_at_call 71; refine Calls.mono (icPut_any _ _ l [rep, cnt, rank, prio, 1] _ ?_ ?_ ?_ HN.out) ?_; exact hv.ext (by repeat (first | assumption | exact Ext.refl _ | refine Ext.alloc ?_ _ | refine Ext.drew ?_ | refine Ext.drewN ?_ _)); exact Sl.lit encI_ok.len (by (repeat refine (heap_drew_at _ _).trans ?_); first | (refine heap_new_at _ _ _ ?_ <;> (first | rfl | (simp; done) | (simp; omega))) | (refine (heap_old_at _ _ _ ?_).trans (heap_new_at _ _ _ ?_) <;> (first | rfl | (simp; done) | (simp; omega))) | (refine (heap_old_at _ _ _ ?_).trans ((heap_old_at _ _ _ ?_).trans (heap_new_at _ _ _ ?_)) <;> (first | rfl | (simp; done) | (simp; omega))) | (refine (heap_old_at _ _ _ ?_).trans ((heap_old_at _ _ _ ?_).trans ((heap_old_at _ _ _ ?_).trans (heap_new_at _ _ _ ?_))) <;> (first | rfl | (simp; done) | (simp; omega))) | (refine (heap_old_at _ _ _ ?_).trans ((heap_old_at _ _ _ ?_).trans ((heap_old_at _ _ _ ?_).trans ((heap_old_at _ _ _ ?_).trans (heap_new_at _ _ _ ?_)))) <;> (first | rfl | (simp; done) | (simp; omega)))) rfl rfl (Nat.le_refl _) (by simp [maxLen]); (simp; omega); rw [HNS.out]; rintro e w2 ⟨v2, rfl, hown⟩; have hE2 := hown.ext; have hE := Ext.trans (And.left ‹Ext _ _ ∧ _›) hE2; have hown1 := hown.mono (w0 := w) (by repeat (first | assumption | exact Ext.refl _ | refine Ext.alloc ?_ _ | refine Ext.drew ?_ | refine Ext.drewN ?_ _)); have hx2 := hown1.ext; clear hown) | (go_at_call 67; refine Calls.mono (text_any _ _ (l ++ nums) [body] _ ?_ ?_ ?_) ?_; exact ((hown1.sl encB_ok).ext (by repeat (first | assumption | exact Ext.refl _ | refine Ext.alloc ?_ _ | refine Ext.drew ?_ | refine Ext.drewN ?_ _))); (first | exact Sl.new1 encS_ok.len _ _ _ body rfl | exact Sl.ext (Sl.lit encS_ok.len (by (repeat refine (heap_drew_at _ _).trans ?_); first | (refine heap_new_at _ _ _ ?_ <;> (first | rfl | (simp; done) | (simp; omega))) | (refine (heap_old_at _ _ _ ?_).trans (heap_new_at _ _ _ ?_) <;> (first | rfl | (simp; done) | (simp; omega))) | (refine (heap_old_at _ _ _ ?_).trans ((heap_old_at _ _ _ ?_).trans (heap_new_at _ _ _ ?_)) <;> (first | rfl | (simp; done) | (simp; omega))) | (refine (heap_old_at _ _ _ ?_).trans ((heap_old_at _ _ _ ?_).trans ((heap_old_at _ _ _ ?_).trans (heap_new_at _ _ _ ?_))) <;> (first | rfl | (simp; done) | (simp; omega))) | (refine (heap_old_at _ _ _ ?_).trans ((heap_old_at _ _ _ ?_).trans ((heap_old_at _ _ _ ?_).trans ((heap_old_at _ _ _ ?_).trans (heap_new_at _ _ _ ?_)))) <;> (first | rfl | (simp; done) | (simp; omega)))) rfl rfl (Nat.le_refl _) (by simp [maxLen])) hE2); (simp; omega); rintro e w3 ⟨v3, rfl, hown3⟩; have hE3 := Ext.trans (And.left ‹Ext _ _ ∧ _›) hown3.ext; have hown4 := hown3.mono (w0 := w) (by repeat (first | assumption | exact Ext.refl _ | refine Ext.alloc ?_ _ | refine Ext.drew ?_ | refine Ext.drewN ?_ _)); clear hown3))
  all_goals
    go_wp2
    go_ret
    refine ⟨_, rfl, ?_⟩
    rw [HL.out, ← List.append_assoc]
    simpa using hown4


theorem rest_any (v : Value) (x : It) (l : List UInt8) (w : World) (hv : Bs w v l) (hr : itR x = true) (hb : l.length ≤ 1000000) :
    Calls Try.prog 66 #[v, itV x] w (RetOwn 5 1 encB w (l ++ restBo x)) := by
  obtain ⟨key, rep, cnt, rank, prio, dead, body⟩ := x
  cases dead
  · exact rest_f v key rep cnt rank prio body l w hv hr hb
  · exact rest_t v key rep cnt rank prio body l w hv hr hb

end Go.Proofs.Ytpndnlnjgnckdaa
