/- An item's bytes (icode.Item). -/
import Derived.Test.YtpndnlnjgnckdaaIcode
namespace Go.Proofs.Ytpndnlnjgnckdaa
open Go.RowKit
def itemB (x : It) : List UInt8 := textB x.key ++ restBo x

theorem restBo_len {x : It} (h : itR x = true) : (restBo x).length ≤ 110 := by
  obtain ⟨h1, h2, _, _⟩ := itR_numso h
  have h3 := nums_len _ h1
  have h4 := textB_leno x.body (by omega)
  simp only [restBo, List.length_append]
  simp only [restNumso, List.length_cons, List.length_nil] at h3 ⊢
  omega
theorem itemB_len {x : It} (h : itR x = true) : (itemB x).length ≤ 127 := by
  obtain ⟨h1, h2, h3, h4⟩ := itR_numso h
  have h5 := restBo_len h
  have h6 := textB_leno x.key (by omega)
  simp only [itemB, List.length_append]; omega

set_option maxRecDepth 10000 in
set_option maxHeartbeats 1600000 in
theorem item_ok (x : It) (w : World) (hr : itR x = true) :
    Calls Try.prog 54 #[itV x] w (RetOwn2 5 1 encB w (itemB x) (.int .i64 0)) := by
  obtain ⟨_, _, hk0, hk1⟩ := itR_numso hr
  have htk := textB_leno x.key (by omega)
  have htk' : (textB x.key).length ≤ 17 := by omega
  have HR := Lib.hid hr
  have HB : Hid (itemB x = textB x.key ++ restBo x) := Lib.hid rfl
  clear htk hr hk0 hk1
  unfold itV
  go_enter Try.func54, Try.ntmps54
  go_wp2_with fail
  refine (itR_any x _).mono ?_
  rw [HR.out]
  rintro e w1 ⟨rfl, hx1⟩
  go_wp2_with fail
  go_region_held3 (fun w' => Ext (w.alloc (.cells #[.string x.key, .int .i64 x.rep, .int .i64 x.cnt, .int .i64 x.rank, .int .i64 x.prio, .bool x.dead, .string x.body] 35)) w' ∧ w'.cell? ⟨w.heap.size, 0, none⟩ = some (.string x.key) ∧ w'.cell? ⟨w.heap.size, 1, none⟩ = some (.int .i64 x.rep) ∧ w'.cell? ⟨w.heap.size, 2, none⟩ = some (.int .i64 x.cnt) ∧ w'.cell? ⟨w.heap.size, 3, none⟩ = some (.int .i64 x.rank) ∧ w'.cell? ⟨w.heap.size, 4, none⟩ = some (.int .i64 x.prio) ∧ w'.cell? ⟨w.heap.size, 5, none⟩ = some (.bool x.dead) ∧ w'.cell? ⟨w.heap.size, 6, none⟩ = some (.string x.body))
    (first | exact itBox (x := x) (by repeat (first | assumption | exact Ext.refl _ | refine Ext.alloc ?_ _ | refine Ext.drew ?_ | refine Ext.drewN ?_ _)) | exact itBox (x := x) (Ext.alloc (And.left ‹_›) _))
    (first | (go_at_call 67; refine Calls.mono (text_any _ _ [] [x.key] _ ?_ ?_ ?_) ?_; exact Sl.nil _; exact Sl.lit encS_ok.len (by (repeat refine (heap_drew_at _ _).trans ?_); first | (refine heap_new_at _ _ _ ?_ <;> (first | rfl | (simp; done) | (simp; omega))) | (refine (heap_old_at _ _ _ ?_).trans (heap_new_at _ _ _ ?_) <;> (first | rfl | (simp; done) | (simp; omega))) | (refine (heap_old_at _ _ _ ?_).trans ((heap_old_at _ _ _ ?_).trans (heap_new_at _ _ _ ?_)) <;> (first | rfl | (simp; done) | (simp; omega))) | (refine (heap_old_at _ _ _ ?_).trans ((heap_old_at _ _ _ ?_).trans ((heap_old_at _ _ _ ?_).trans (heap_new_at _ _ _ ?_))) <;> (first | rfl | (simp; done) | (simp; omega))) | (refine (heap_old_at _ _ _ ?_).trans ((heap_old_at _ _ _ ?_).trans ((heap_old_at _ _ _ ?_).trans ((heap_old_at _ _ _ ?_).trans (heap_new_at _ _ _ ?_)))) <;> (first | rfl | (simp; done) | (simp; omega)))) rfl rfl (Nat.le_refl _) (by simp [maxLen]); (simp; omega); rintro e w2 ⟨v2, rfl, hown⟩; have hE2 := hown.ext; have hE := Ext.trans (And.left ‹Ext _ _ ∧ _›) hE2; have hown1 := hown.mono (w0 := w) (Ext.trans (Ext.alloc (Ext.refl _) _) (And.left ‹Ext _ _ ∧ _›)); clear hown) | (go_at_call 66; refine Calls.mono (rest_any _ x (textB x.key) _ ?_ HR.out ?_) ?_; exact (by simpa using hown1.sl encB_ok); omega; rintro e w3 ⟨v3, rfl, hown3⟩; have hE3 := Ext.trans (And.left ‹Ext _ _ ∧ _›) hown3.ext; have hown4 := hown3.mono (w0 := w) hown1.ext; clear hown3))
  all_goals
    go_wp2
    go_ret2
    refine ⟨_, rfl, ?_⟩
    rw [HB.out]
    exact hown4
end Go.Proofs.Ytpndnlnjgnckdaa
