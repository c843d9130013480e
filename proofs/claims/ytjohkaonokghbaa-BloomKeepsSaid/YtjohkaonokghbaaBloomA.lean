/- Filters of bits (bloom): a new one, a probe. -/
import Derived.Test.YtjohkaonokghbaaHashParts
import Derived.Test.YtjohkaonokghbaaReader
import Derived.Test.YtjohkaonokghbaaVarintRef
import Derived.Test.YtjohkaonokghbaaItem
import Derived.Test.YtjohkaonokghbaaBytesEq
import Derived.Deep.RegionHeld3
import Derived.Laws.MakeOwn
namespace Go.Proofs.Ytjohkaonokghbaa
open Go.RowKit

/-- the place of a probe -/
def probeN (bits seed : Int) (l : List UInt8) (i : Int) : Nat := (hashOf (IntKind.u64.wrap (seed + IntKind.u64.wrap i)) l % bits).toNat
theorem probeN_lt (bits seed : Int) (l : List UInt8) (i : Int) (h : 1 ≤ bits) : (probeN bits seed l i : Int) < bits := by
  unfold probeN
  have := Int.emod_nonneg (hashOf (IntKind.u64.wrap (seed + IntKind.u64.wrap i)) l) (show bits ≠ 0 by omega)
  have := Int.emod_lt_of_pos (hashOf (IntKind.u64.wrap (seed + IntKind.u64.wrap i)) l) (show 0 < bits by omega)
  omega

/-- bytes, by the cells of a block -/
def rowC (row : List UInt8) : Array Value := (row.map (fun c => Value.int .u8 (c.toNat : Int))).toArray
/-- block A is a filter; its bytes are block B -/
structure BlAt (w : World) (A B : Nat) (bits probes seed : Int) (row : List UInt8) : Prop where
  obj : ObjAt w A 63 #[.int .i64 bits, .int .i64 probes, .int .u64 seed, .slice (some ⟨B, 0, none⟩) row.length row.length]
  row : ObjAt w B 5 (rowC row)
theorem BlAt.ext {w w' : World} {A B : Nat} {bits probes seed : Int} {row : List UInt8} (h : BlAt w A B bits probes seed row) (he : Ext w w') : BlAt w' A B bits probes seed row := ⟨h.obj.ext he, h.row.ext he⟩
theorem BlAt.cells {w : World} {A B : Nat} {bits probes seed : Int} {row : List UInt8} (h : BlAt w A B bits probes seed row) :
    w.cell? ⟨A, 0, none⟩ = some (.int .i64 bits) ∧ w.cell? ⟨A, 1, none⟩ = some (.int .i64 probes) ∧ w.cell? ⟨A, 2, none⟩ = some (.int .u64 seed) ∧ w.cell? ⟨A, 3, none⟩ = some (.slice (some ⟨B, 0, none⟩) row.length row.length) :=
  ⟨h.obj.cell 0, h.obj.cell 1, h.obj.cell 2, h.obj.cell 3⟩
theorem BlAt.bs {w : World} {A B : Nat} {bits probes seed : Int} {row : List UInt8} (h : BlAt w A B bits probes seed row) (hm : row.length ≤ maxLen) : Bs w (.slice (some ⟨B, 0, none⟩) row.length row.length) row := by
  refine Sl.lit encB_ok.len h.row ?_ rfl (Nat.le_refl _) hm
  unfold rowC
  rw [List.flatMap_def]
  show List.flatten (List.map (fun c => [Value.int .u8 (c.toNat : Int)]) row) = _
  simp
  clear h hm
  induction row with
  | nil => rfl
  | cons a l ih => simpa using ih

theorem zeros (n : Nat) : Array.replicate n (Value.int .u8 0) = rowC (List.replicate n 0) := by
  unfold rowC
  rw [List.map_replicate, List.toArray_replicate]; rfl
/-- 'make([]T, n)', T one cell -/
theorem run_mk1 {P : Program} {t e bytes : Nat} (hT : TI P t e 1 bytes) (z : Value) (hz : (P.info? e).bind (·.zero) = some z) (hz1 : z.cells = #[z]) (kl : IntKind) (n : Int) (h0 : 0 ≤ n) (hb : n ≤ 1099511627776) (hb1 : bytes ≤ 64) (w : World) :
    (Instr.makeSlice t (.int kl n) (.int kl n)).run P w = .ok (.slice (some ⟨w.heap.size, 0, none⟩) n.toNat n.toNat) (w.alloc (.cells (Array.replicate n.toNat z) e)) := by
  obtain ⟨i, z', hi, hz', h1, h2, h3⟩ := hT.info
  rw [hi] at hz
  simp only [Option.bind_some] at hz
  rw [hz'] at hz
  obtain rfl := Option.some.inj hz
  have hle : (i.bytes : Int) * n ≤ 64 * 1099511627776 := Int.mul_le_mul (by omega) hb h0 (by omega)
  have := run_make (P := P) w t e i z' hT.und hi hz' kl kl n n h0 (Int.le_refl _) (by omega) (by omega)
  rw [this, h1, hz1]
  congr 3
  unfold madeCells
  apply Array.ext
  · simp
  · intro j hj1 hj2
    simp [Nat.mod_one]
theorem bss1 {w : World} {v : Value} {l : List UInt8} {b : Nat} {T : TypeId} (h : w.heap[b]? = some (.cells #[v] T (0, 0))) (hv : Bs w v l) : Bss w (.slice (some ⟨b, 0, none⟩) 1 1) [l] := by
  refine ⟨[v], rfl, Sl.lit (fun _ => rfl) h rfl rfl (by decide) (by decide), ?_⟩
  intro i h1 h2
  obtain rfl : i = 0 := by simp at h1; omega
  exact hv

set_option maxRecDepth 10000 in
set_option maxHeartbeats 400000 in
theorem bNew_bad (bits probes seed : Int) (w : World) (h : ¬ (1 ≤ bits ∧ bits ≤ 4096 ∧ 1 ≤ probes ∧ probes ≤ 8)) :
    Calls Try.prog 33 #[.int .i64 bits, .int .i64 probes, .int .u64 seed] w (RetW w (.tuple #[.pointer none, .int .i64 2])) := by
  have H := Lib.hid h
  clear h
  go_enter Try.func33, Try.ntmps33
  go_wp2
  all_goals
    first | (go_ret2; exact ⟨rfl, rfl⟩) | (exfalso; have := H.out; omega)

set_option maxRecDepth 10000 in
set_option maxHeartbeats 400000 in
theorem bNew_ok (bits probes seed : Int) (w : World) (h1 : 1 ≤ bits) (h2 : bits ≤ 4096) (h3 : 1 ≤ probes) (h4 : probes ≤ 8) :
    Calls Try.prog 33 #[.int .i64 bits, .int .i64 probes, .int .u64 seed] w fun e w' => ∃ A B, e = .returned (.tuple #[.pointer (some ⟨A, 0, none⟩), .int .i64 0]) ∧ w.heap.size ≤ A ∧ w.heap.size ≤ B ∧ A ≠ B ∧
      BlAt w' A B bits probes seed (List.replicate ((bits.toNat + 7) / 8) 0) ∧ Ext w w' := by
  obtain ⟨n, rfl⟩ := Int.eq_ofNat_of_zero_le (show 0 ≤ bits by omega)
  have HM := fun w => run_mk1 tiB (.int .u8 0) (by kernel_rfl) rfl .i64 (((n : Int) + 8 - 1) / 8) (by omega) (by omega) (by decide) w
  have hn : (((n : Int) + 8 - 1) / 8).toNat = (n + 7) / 8 := by omega
  rw [hn] at HM
  clear hn
  have HZ := Lib.hid (zeros ((n + 7) / 8))
  go_enter Try.func33, Try.ntmps33
  go_wp2
  go_ret2
  refine ⟨w.heap.size + 1, w.heap.size, rfl, by omega, by omega, by omega, ⟨?_, ?_⟩, (by repeat (first | assumption | exact Ext.refl _ | refine Ext.alloc ?_ _ | refine Ext.drew ?_ | refine Ext.drewN ?_ _))⟩
  · unfold ObjAt
    rw [List.length_replicate]
    exact heap_new_at _ _ _ (by simp)
  · unfold ObjAt
    refine (heap_old_at _ _ _ (by simp)).trans ((heap_new_at _ _ _ rfl).trans ?_)
    rw [HZ.out]; rfl

theorem hash1_any {seed H : Int} {l : List UInt8} (hH : Hid (hashOf seed l = H)) (v : Value) (w : World) (hv : Bss w v [l]) :
    Calls Try.prog 16 #[.int .u64 seed, v] w fun e w' => e = .returned (.int .u64 H) ∧ w = w' := by
  have := hashOf_any seed v [l] w hv
  rw [← hH.out]
  simpa using this

theorem probeS {w w' : World} {B : Nat} {bits seed : Int} (hc0 : w.cell? ⟨B, 0, none⟩ = some (.int .i64 bits)) (hc2 : w.cell? ⟨B, 2, none⟩ = some (.int .u64 seed)) (h : Ext w w') :
    Ext w w' ∧ w'.cell? ⟨B, 0, none⟩ = some (.int .i64 bits) ∧ w'.cell? ⟨B, 2, none⟩ = some (.int .u64 seed) := ⟨h, h.cell hc0, h.cell hc2⟩

end Go.Proofs.Ytjohkaonokghbaa
