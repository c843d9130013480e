/- Filters of bits: the plain law (which bits are set). -/
import Derived.Test.YtjohkaonokghbaaBloomE
namespace Go.Proofs.Ytjohkaonokghbaa
open Go.RowKit

theorem bit_or (x : UInt8) (n m : Nat) : ((x ||| bitOf n) &&& bitOf m != 0) = ((x &&& bitOf m != 0) || (m % 8 == n % 8)) := by
  have : ∀ k j : Fin 8, ∀ x : Fin 256, ((UInt8.ofNat x.val ||| UInt8.ofNat (2 ^ k.val)) &&& UInt8.ofNat (2 ^ j.val) != 0) = ((UInt8.ofNat x.val &&& UInt8.ofNat (2 ^ j.val) != 0) || (j.val == k.val)) := by decide +kernel
  have := this ⟨n % 8, Nat.mod_lt _ (by decide)⟩ ⟨m % 8, Nat.mod_lt _ (by decide)⟩ ⟨x.toNat, x.toNat_lt⟩
  simpa [bitOf] using this
theorem hasBit_add (row : List UInt8) (n m : Nat) (h : n / 8 < row.length) : hasBit (addBit row n) m = (hasBit row m || (m == n)) := by
  unfold hasBit addBit
  by_cases hq : m / 8 = n / 8
  · rw [hq, List.getElem?_set_self h]
    simp only [Option.getD_some]
    rw [bit_or]
    congr 1
    rw [Bool.eq_iff_iff, beq_iff_eq, beq_iff_eq]
    omega
  · rw [List.getElem?_set_ne (fun e => hq e.symm)]
    have : (m == n) = false := by rw [beq_eq_false_iff_ne]; rintro rfl; exact hq rfl
    rw [this, Bool.or_false]
/-- a byte by its bits -/
def byteOf (f : Nat → Bool) : UInt8 := (List.range 8).foldl (fun r k => if f k then r ||| bitOf k else r) 0
theorem byteOf_bits (x : UInt8) : x = byteOf (fun k => x &&& bitOf k != 0) := by
  have : ∀ x : Fin 256, UInt8.ofNat x.val = byteOf (fun k => UInt8.ofNat x.val &&& bitOf k != 0) := by decide +kernel
  simpa using this ⟨x.toNat, x.toNat_lt⟩
theorem byteOf_congr {f g : Nat → Bool} (h : ∀ k, k < 8 → f k = g k) : byteOf f = byteOf g := by
  have e : List.range 8 = [0, 1, 2, 3, 4, 5, 6, 7] := by decide
  unfold byteOf
  rw [e]
  simp only [List.foldl_cons, List.foldl_nil]
  rw [h 0 (by decide), h 1 (by decide), h 2 (by decide), h 3 (by decide), h 4 (by decide), h 5 (by decide), h 6 (by decide), h 7 (by decide)]
theorem rows_eq {a b : List UInt8} (hl : a.length = b.length) (h : ∀ n, hasBit a n = hasBit b n) : a = b := by
  apply List.ext_getElem hl
  intro j h1 h2
  rw [byteOf_bits a[j], byteOf_bits b[j]]
  apply byteOf_congr
  intro k hk
  have := h (8 * j + k)
  unfold hasBit at this
  rw [show (8 * j + k) / 8 = j by omega, List.getElem?_eq_getElem h1, List.getElem?_eq_getElem h2] at this
  simp only [Option.getD_some] at this
  rw [show bitOf (8 * j + k) = bitOf k by unfold bitOf; rw [show (8 * j + k) % 8 = k % 8 by omega]] at this
  exact this
theorem ones8_bound (x : UInt8) (b : Nat) (hb : b < 8) (h : ∀ k, k < 8 → (x &&& bitOf k != 0) = true → k < b) : ones8 x ≤ b := by
  have : ∀ b : Fin 8, ∀ x : Fin 256, (∀ k : Fin 8, (UInt8.ofNat x.val &&& bitOf k.val != 0) = true → k.val < b.val) → ones8 (UInt8.ofNat x.val) ≤ b.val := by decide +kernel
  have := this ⟨b, hb⟩ ⟨x.toNat, x.toNat_lt⟩ (fun k hk => h k.val k.isLt (by simpa using hk))
  simpa using this
theorem hasBit_cons (x : UInt8) (l : List UInt8) (n : Nat) : hasBit (x :: l) n = if n < 8 then (x &&& bitOf n != 0) else hasBit l (n - 8) := by
  unfold hasBit
  by_cases h : n < 8
  · rw [if_pos h, show n / 8 = 0 by omega]; rfl
  · rw [if_neg h, show n / 8 = (n - 8) / 8 + 1 by omega, List.getElem?_cons_succ]
    rw [show bitOf n = bitOf (n - 8) by unfold bitOf; rw [show n % 8 = (n - 8) % 8 by omega]]
theorem ones_bound (row : List UInt8) : ∀ (bits : Nat), (∀ n, hasBit row n = true → n < bits) → onesR row ≤ bits := by
  induction row with
  | nil => intro b _; simp [onesR]
  | cons x l ih =>
    intro b h
    have e : onesR (x :: l) = ones8 x + onesR l := by simp [onesR]
    have hl : ∀ n, hasBit l n = true → n + 8 < b := by
      intro n hn
      have := h (n + 8) (by rw [hasBit_cons, if_neg (by omega)]; simpa using hn)
      omega
    have hx : ∀ k, k < 8 → (x &&& bitOf k != 0) = true → k < b := by
      intro k hk hb
      exact h k (by rw [hasBit_cons, if_pos hk]; exact hb)
    rw [e]
    by_cases h8 : 8 ≤ b
    · have := ih (b - 8) (fun n hn => by have := hl n hn; omega)
      have := ones8_le x
      omega
    · have := ih 0 (fun n hn => by have := hl n hn; omega)
      have := ones8_bound x b (by omega) hx
      omega

/-- is bit m one of a version's -/
def inV (bits probes seed : Int) (m : Nat) (v : Int × Int) : Bool := verR v.1 v.2 && (List.range probes.toNat).any (fun (i : Nat) => m == probeN bits seed (verB v.1 v.2) (i : Int))
section
variable {bits probes seed : Int} {row : List UInt8}
theorem hasBit_addP (h1 : 1 ≤ bits) (hl : row.length = (bits.toNat + 7) / 8) (l : List UInt8) (k m : Nat) :
    hasBit (addP row bits seed l k) m = (hasBit row m || (List.range k).any (fun (i : Nat) => m == probeN bits seed l (i : Int))) := by
  induction k with
  | zero => simp [addP]
  | succ k ih =>
    have := probeN_lt bits seed l (k : Int) h1
    rw [addP_succ, hasBit_add _ _ _ (by rw [addP_len]; omega), ih]
    simp [List.range_succ, Bool.or_assoc]
theorem hasBit_addV (h1 : 1 ≤ bits) (hl : row.length = (bits.toNat + 7) / 8) (v : Int × Int) (m : Nat) :
    hasBit (addV row bits probes seed v) m = (hasBit row m || inV bits probes seed m v) := by
  unfold addV inV
  by_cases hv : verR v.1 v.2 = true
  · rw [if_pos hv, hasBit_addP h1 hl, hv, Bool.true_and]
  · rw [if_neg hv]
    have : verR v.1 v.2 = false := by simpa using hv
    rw [this, Bool.false_and, Bool.or_false]
theorem hasBit_addAll (h1 : 1 ≤ bits) (vs : List (Int × Int)) : ∀ (row : List UInt8), row.length = (bits.toNat + 7) / 8 → ∀ m, hasBit (addAll row bits probes seed vs) m = (hasBit row m || vs.any (inV bits probes seed m)) := by
  induction vs with
  | nil => intro row hl m; simp [addAll]
  | cons v vs ih =>
    intro row hl m
    have := ih (addV row bits probes seed v) (by rw [addV_len]; exact hl) m
    unfold addAll at this ⊢
    rw [List.foldl_cons, this, hasBit_addV h1 hl, List.any_cons, Bool.or_assoc]
theorem hasBit_zero (n m : Nat) : hasBit (List.replicate n 0) m = false := by
  unfold hasBit
  rw [List.getElem?_replicate]
  split <;> simp
theorem inV_lt (h1 : 1 ≤ bits) {m : Nat} {v : Int × Int} (h : inV bits probes seed m v = true) : (m : Int) < bits := by
  unfold inV at h
  simp only [Bool.and_eq_true, List.any_eq_true] at h
  obtain ⟨_, i, _, hm⟩ := h
  have := probeN_lt bits seed (verB v.1 v.2) (i : Int) h1
  simp at hm
  omega
/-- the bits of versions, in whatever order -/
theorem addAll_bits (h1 : 1 ≤ bits) {n : Nat} (hn : n = (bits.toNat + 7) / 8) (vs : List (Int × Int)) (m : Nat) : hasBit (addAll (List.replicate n 0) bits probes seed vs) m = vs.any (inV bits probes seed m) := by
  rw [hasBit_addAll h1 vs _ (by simp [hn]), hasBit_zero, Bool.false_or]
theorem addAll_same (h1 : 1 ≤ bits) {n : Nat} (hn : n = (bits.toNat + 7) / 8) {vs us : List (Int × Int)} (h : ∀ v, v ∈ vs ↔ v ∈ us) : addAll (List.replicate n 0) bits probes seed vs = addAll (List.replicate n 0) bits probes seed us := by
  refine rows_eq (by rw [addAll_len, addAll_len]) fun m => ?_
  rw [addAll_bits h1 hn, addAll_bits h1 hn, Bool.eq_iff_iff, List.any_eq_true, List.any_eq_true]
  constructor
  · rintro ⟨v, hv, hi⟩; exact ⟨v, (h v).1 hv, hi⟩
  · rintro ⟨v, hv, hi⟩; exact ⟨v, (h v).2 hv, hi⟩
theorem addAll_app (row : List UInt8) (vs us : List (Int × Int)) : addAll row bits probes seed (vs ++ us) = addAll (addAll row bits probes seed vs) bits probes seed us := by
  simp [addAll]
theorem addAll_ones (h1 : 1 ≤ bits) {n : Nat} (hn : n = (bits.toNat + 7) / 8) (vs : List (Int × Int)) : (onesR (addAll (List.replicate n 0) bits probes seed vs) : Int) ≤ bits := by
  have := ones_bound (addAll (List.replicate n 0) bits probes seed vs) bits.toNat (fun m hm => by
    rw [addAll_bits h1 hn, List.any_eq_true] at hm
    obtain ⟨v, _, hi⟩ := hm
    have := inV_lt h1 hi
    omega)
  omega
end
end Go.Proofs.Ytjohkaonokghbaa
