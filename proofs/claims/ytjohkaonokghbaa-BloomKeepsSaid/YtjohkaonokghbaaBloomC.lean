/- Filters of bits: to add, to ask. -/
import Derived.Test.YtjohkaonokghbaaBloomB
namespace Go.Proofs.Ytjohkaonokghbaa
open Go.RowKit

theorem ok_ver {r c : Int} (h : verR r c = true) : okNum r ∧ okNum c := by
  unfold verR at h; simp at h; unfold okNum; omega

set_option maxRecDepth 10000 in
set_option maxHeartbeats 400000 in
theorem verB_any {r c : Int} (hr : okNum r) (hc : okNum c) (w : World) :
    Calls Try.prog 77 #[.agg #[.int .i64 r, .int .i64 c]] w (RetOwn 5 1 encB w (verB r c)) := by
  have HV := Lib.hid (verB_eq r c)
  go_enter Try.func77, Try.ntmps77
  go_wp2_with fail
  refine Calls.mono (put_ok _ _ [] [r, c] _ (Sl.nil _) (Sl.lit encI_ok.len (by (repeat refine (heap_drew_at _ _).trans ?_); first | (refine heap_new_at _ _ _ ?_ <;> (first | rfl | (simp; done) | (simp; omega))) | (refine (heap_old_at _ _ _ ?_).trans (heap_new_at _ _ _ ?_) <;> (first | rfl | (simp; done) | (simp; omega))) | (refine (heap_old_at _ _ _ ?_).trans ((heap_old_at _ _ _ ?_).trans (heap_new_at _ _ _ ?_)) <;> (first | rfl | (simp; done) | (simp; omega))) | (refine (heap_old_at _ _ _ ?_).trans ((heap_old_at _ _ _ ?_).trans ((heap_old_at _ _ _ ?_).trans (heap_new_at _ _ _ ?_))) <;> (first | rfl | (simp; done) | (simp; omega))) | (refine (heap_old_at _ _ _ ?_).trans ((heap_old_at _ _ _ ?_).trans ((heap_old_at _ _ _ ?_).trans ((heap_old_at _ _ _ ?_).trans (heap_new_at _ _ _ ?_)))) <;> (first | rfl | (simp; done) | (simp; omega)))) rfl rfl (Nat.le_refl _) (by simp [maxLen])) (by simp) (ok2 hr hc)) ?_
  rw [List.nil_append, HV.out]
  rintro e w1 ⟨v1, rfl, hown⟩
  have hown' := hown.mono (w0 := w) (by repeat (first | assumption | exact Ext.refl _ | refine Ext.alloc ?_ _ | refine Ext.drew ?_ | refine Ext.drewN ?_ _))
  clear hown
  go_wp2
  go_ret
  exact ⟨_, rfl, hown'⟩

/-- bit n, set -/
def bitOf (n : Nat) : UInt8 := UInt8.ofNat (2 ^ (n % 8))
def addBit (row : List UInt8) (n : Nat) : List UInt8 := row.set (n / 8) ((row[n / 8]?.getD 0) ||| bitOf n)
def hasBit (row : List UInt8) (n : Nat) : Bool := ((row[n / 8]?.getD 0) &&& bitOf n) != 0
theorem or_byte (x : UInt8) (n : Nat) : bits BinOp.or IntKind.u8 (x.toNat : Int) ((2 ^ (n % 8) : Nat) : Int) = ((x ||| bitOf n).toNat : Int) := by
  have : ∀ k : Fin 8, ∀ x : Fin 256, bits BinOp.or IntKind.u8 (x.val : Int) ((2 ^ k.val : Nat) : Int) = ((UInt8.ofNat x.val ||| UInt8.ofNat (2 ^ k.val)).toNat : Int) := by decide +kernel
  have := this ⟨n % 8, Nat.mod_lt _ (by decide)⟩ ⟨x.toNat, x.toNat_lt⟩
  simpa [bitOf] using this
theorem and_byte (x : UInt8) (n : Nat) : bits BinOp.and IntKind.u8 (x.toNat : Int) ((2 ^ (n % 8) : Nat) : Int) = ((x &&& bitOf n).toNat : Int) := by
  have : ∀ k : Fin 8, ∀ x : Fin 256, bits BinOp.and IntKind.u8 (x.val : Int) ((2 ^ k.val : Nat) : Int) = ((UInt8.ofNat x.val &&& UInt8.ofNat (2 ^ k.val)).toNat : Int) := by decide +kernel
  have := this ⟨n % 8, Nat.mod_lt _ (by decide)⟩ ⟨x.toNat, x.toNat_lt⟩
  simpa [bitOf] using this
theorem addBit_len (row : List UInt8) (n : Nat) : (addBit row n).length = row.length := by simp [addBit]
/-- the probes ahead of k -/
def addP (row : List UInt8) (bits seed : Int) (l : List UInt8) (k : Nat) : List UInt8 := (List.range k).foldl (fun r (i : Nat) => addBit r (probeN bits seed l (i : Int))) row
theorem addP_succ (row : List UInt8) (bits seed : Int) (l : List UInt8) (k : Nat) : addP row bits seed l (k + 1) = addBit (addP row bits seed l k) (probeN bits seed l k) := by
  simp [addP, List.range_succ]
theorem addP_len (row : List UInt8) (bits seed : Int) (l : List UInt8) (k : Nat) : (addP row bits seed l k).length = row.length := by
  induction k with
  | zero => rfl
  | succ k ih => rw [addP_succ, addBit_len, ih]
def addV (row : List UInt8) (bits probes seed : Int) (v : Int × Int) : List UInt8 := if verR v.1 v.2 then addP row bits seed (verB v.1 v.2) probes.toNat else row
theorem addV_len (row : List UInt8) (bits probes seed : Int) (v : Int × Int) : (addV row bits probes seed v).length = row.length := by
  unfold addV; split
  · rw [addP_len]
  · rfl
def addAll (row : List UInt8) (bits probes seed : Int) (vs : List (Int × Int)) : List UInt8 := vs.foldl (fun r v => addV r bits probes seed v) row
theorem addAll_len (row : List UInt8) (bits probes seed : Int) (vs : List (Int × Int)) : (addAll row bits probes seed vs).length = row.length := by
  unfold addAll
  induction vs generalizing row with
  | nil => rfl
  | cons v vs ih => rw [List.foldl_cons, ih, addV_len]
theorem addAll_snoc (row : List UInt8) (bits probes seed : Int) (vs : List (Int × Int)) (v : Int × Int) : addAll row bits probes seed (vs ++ [v]) = addV (addAll row bits probes seed vs) bits probes seed v := by
  simp [addAll]
theorem rowC_set (row : List UInt8) (j : Nat) (x : UInt8) : (rowC row).setIfInBounds j (.int .u8 (x.toNat : Int)) = rowC (row.set j x) := by
  unfold rowC
  rw [List.setIfInBounds_toArray, List.map_set]
theorem BlAt.add {w : World} {A B : Nat} {bits probes seed : Int} {row : List UInt8} (h : BlAt w A B bits probes seed row) (hne : A ≠ B) (n : Nat) :
    BlAt (w.setCell ⟨B, n / 8, none⟩ (.int .u8 (((row[n / 8]?.getD 0) ||| bitOf n).toNat : Int))) A B bits probes seed (addBit row n) := by
  constructor
  · have := h.obj.grown (grownBy_setCell w ⟨B, n / 8, none⟩ (.int .u8 (((row[n / 8]?.getD 0) ||| bitOf n).toNat : Int))) (by simpa using hne)
    rw [addBit_len]; exact this
  · have := h.row.set (n / 8) (.int .u8 (((row[n / 8]?.getD 0) ||| bitOf n).toNat : Int))
    rw [rowC_set] at this; exact this
theorem BlAt.get {w : World} {A B : Nat} {bits probes seed : Int} {row : List UInt8} (h : BlAt w A B bits probes seed row) (j : Nat) (hj : j < row.length) :
    w.cell? ⟨B, j, none⟩ = some (.int .u8 ((row[j]?.getD 0).toNat : Int)) ∧ w.frozen? ⟨B, j, none⟩ = false := by
  refine ⟨?_, h.row.frozen j⟩
  rw [h.row.cell, rowC]; simp [hj]
theorem encV_ok : Enc 2 encV := ⟨by decide, fun _ => rfl, fun x u hu => by
  simp only [encV, List.mem_cons, List.not_mem_nil, or_false] at hu
  rcases hu with rfl | rfl <;> rfl⟩
theorem Vs.open {w : World} {v : Value} {l : List (Int × Int)} (h : Sl 2 encV w v l) :
    ∃ a c b o, v = .slice a l.length c ∧ l.length ≤ c ∧ c ≤ maxLen ∧ (0 < l.length → a = some ⟨b, o, none⟩) ∧ ∀ (i : Nat) (h : i < l.length), w.cell? ⟨b, o + i * 2, none⟩ = some (.int .i64 l[i].1) ∧ w.cell? ⟨b, o + i * 2 + 1, none⟩ = some (.int .i64 l[i].2) := by
  obtain ⟨a, c, b, o, hv, h1, h2, h3, h0, h4⟩ := h
  refine ⟨a, c, b, o, hv, h1, h2, h3, fun i hi => ?_⟩
  have := h4 i l[i] (by simp [hi])
  exact ⟨this 0 _ rfl, this 1 _ rfl⟩
theorem row_ne {w : World} {B : Nat} {T : TypeId} {row : List UInt8} (h : ObjAt w B T (rowC row)) {b j : Nat} {x : Int} (hc : w.cell? ⟨b, j, none⟩ = some (.int .i64 x)) : b ≠ B := by
  rintro rfl
  rw [h.cell, rowC] at hc
  simp at hc
theorem row_keeps {w wr : World} {B : Nat} {T : TypeId} {row : List UInt8} (h : ObjAt w B T (rowC row)) (hg : w.grownBy wr (some B)) {b j : Nat} {x : Int} (hc : w.cell? ⟨b, j, none⟩ = some (.int .i64 x)) : wr.cell? ⟨b, j, none⟩ = some (.int .i64 x) :=
  hg.cell hc (by have := row_ne h hc; simpa using this)
end Go.Proofs.Ytjohkaonokghbaa
