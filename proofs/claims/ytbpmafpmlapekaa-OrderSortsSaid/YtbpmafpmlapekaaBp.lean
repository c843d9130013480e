/- Filters of bits, plainly: what the program's and the references' words compute. No program in sight. -/
import Derived.Test.YtbpmafpmlapekaaHash
import Derived.Test.YtbpmafpmlapekaaIt
import Derived.Test.YtbpmafpmlapekaaParse
namespace Go.Proofs.Ytbpmafpmlapekaa
open Go.RowKit
def probeN (bits seed : Int) (l : List UInt8) (i : Int) : Nat := (hashOf (IntKind.u64.wrap (seed + IntKind.u64.wrap i)) l % bits).toNat
theorem probeN_lt (bits seed : Int) (l : List UInt8) (i : Int) (h : 1 ≤ bits) : (probeN bits seed l i : Int) < bits := by
  unfold probeN
  have := Int.emod_nonneg (hashOf (IntKind.u64.wrap (seed + IntKind.u64.wrap i)) l) (show bits ≠ 0 by omega)
  have := Int.emod_lt_of_pos (hashOf (IntKind.u64.wrap (seed + IntKind.u64.wrap i)) l) (show 0 < bits by omega)
  omega
theorem pow8 (k : Nat) (h : k < 8) : ((2 : Int) ^ k % 256) = ((2 ^ k : Nat) : Int) := by
  have : ∀ k : Fin 8, ((2 : Int) ^ k.val % 256) = ((2 ^ k.val : Nat) : Int) := by decide
  exact this ⟨k, h⟩
def verB (r c : Int) : List UInt8 := numI r ++ numI c
theorem verB_eq (r c : Int) : [r, c].flatMap numI = verB r c := by simp [verB]
theorem two_small {r c : Int} : [r, c].length ≤ 7036874417766 := by simp
theorem ok2 {r c : Int} (hr : okNum r) (hc : okNum c) : ∀ n ∈ [r, c], okNum n := by
  intro m hm; simp at hm; rcases hm with rfl | rfl
  · exact hr
  · exact hc
theorem ok_ver {r c : Int} (h : verR r c = true) : okNum r ∧ okNum c := by
  unfold verR at h; simp at h; unfold okNum; omega
def bitOf (n : Nat) : UInt8 := UInt8.ofNat (2 ^ (n % 8))
def addBit (row : List UInt8) (n : Nat) : List UInt8 := row.set (n / 8) ((row[n / 8]?.getD 0) ||| bitOf n)
def hasBit (row : List UInt8) (n : Nat) : Bool := ((row[n / 8]?.getD 0) &&& bitOf n) != 0
theorem or_byte (x : UInt8) (n : Nat) : bits BinOp.or IntKind.u8 (x.toNat : Int) ((2 ^ (n % 8) : Nat) : Int) = ((x ||| bitOf n).toNat : Int) := by
  have : ∀ k : Fin 8, ∀ x : Fin 256, bits BinOp.or IntKind.u8 (x.val : Int) ((2 ^ k.val : Nat) : Int) = ((UInt8.ofNat x.val ||| UInt8.ofNat (2 ^ k.val)).toNat : Int) := by decide +kernel
  have := this ⟨n % 8, Nat.mod_lt _ (by decide)⟩ ⟨x.toNat, x.toNat_lt⟩
  simpa [bitOf] using this
theorem and_byte (x : UInt8) (n : Nat) : bits BinOp.and IntKind.u8 (x.toNat : Int) ((2 ^ (n % 8) : Nat) : Int) = ((x &&& bitOf n).toNat : Int) := by
  have : ∀ k : Fin 8, ∀ x : Fin 256, bits BinOp.and IntKind.u8 (x.val : Int) ((2 ^ k.val : Nat) : Int) = ((UInt8.ofNat x.val &&& UInt8.ofNat (2 ^ k.val)).toNat : Int) := by decide +kernel
  have := this ⟨n % 8, Nat.mod_lt _ (by decide)⟩ ⟨x.toNat, x.toNat_lt⟩
  simpa [bitOf] using this
theorem addBit_len (row : List UInt8) (n : Nat) : (addBit row n).length = row.length := by simp [addBit]
def addP (row : List UInt8) (bits seed : Int) (l : List UInt8) (k : Nat) : List UInt8 := (List.range k).foldl (fun r (i : Nat) => addBit r (probeN bits seed l (i : Int))) row
theorem addP_succ (row : List UInt8) (bits seed : Int) (l : List UInt8) (k : Nat) : addP row bits seed l (k + 1) = addBit (addP row bits seed l k) (probeN bits seed l k) := by
  simp [addP, List.range_succ]
theorem addP_len (row : List UInt8) (bits seed : Int) (l : List UInt8) (k : Nat) : (addP row bits seed l k).length = row.length := by
  induction k with
  | zero => rfl
  | succ k ih => rw [addP_succ, addBit_len, ih]
def addV (row : List UInt8) (bits probes seed : Int) (v : Int × Int) : List UInt8 := if verR v.1 v.2 then addP row bits seed (verB v.1 v.2) probes.toNat else row
theorem addV_len (row : List UInt8) (bits probes seed : Int) (v : Int × Int) : (addV row bits probes seed v).length = row.length := by
  unfold addV; split
  · rw [addP_len]
  · rfl
def addAll (row : List UInt8) (bits probes seed : Int) (vs : List (Int × Int)) : List UInt8 := vs.foldl (fun r v => addV r bits probes seed v) row
theorem addAll_len (row : List UInt8) (bits probes seed : Int) (vs : List (Int × Int)) : (addAll row bits probes seed vs).length = row.length := by
  unfold addAll
  induction vs generalizing row with
  | nil => rfl
  | cons v vs ih => rw [List.foldl_cons, ih, addV_len]
theorem addAll_snoc (row : List UInt8) (bits probes seed : Int) (vs : List (Int × Int)) (v : Int × Int) : addAll row bits probes seed (vs ++ [v]) = addV (addAll row bits probes seed vs) bits probes seed v := by
  simp [addAll]
def bhP (row : List UInt8) (bits seed : Int) (l : List UInt8) (k : Nat) : Bool := (List.range k).all (fun (i : Nat) => hasBit row (probeN bits seed l (i : Int)))
theorem bhP_succ (row : List UInt8) (bits seed : Int) (l : List UInt8) (k : Nat) : bhP row bits seed l (k + 1) = (bhP row bits seed l k && hasBit row (probeN bits seed l (k : Int))) := by
  simp [bhP, List.range_succ]
def hasV (row : List UInt8) (bits probes seed : Int) (r c : Int) : Bool := verR r c && bhP row bits seed (verB r c) probes.toNat
def ones8 (x : UInt8) : Nat := ((List.range 8).filter (fun k => x &&& bitOf k != 0)).length
theorem ones8_zero : ones8 0 = 0 := by decide
theorem ones8_step (x : UInt8) (h : 0 < x.toNat) : ones8 x = ones8 (x &&& (x - 1)) + 1 ∧ Go.bits BinOp.and IntKind.u8 (x.toNat : Int) ((x.toNat : Int) - 1) = ((x &&& (x - 1)).toNat : Int) ∧ (x &&& (x - 1)).toNat < x.toNat := by
  have : ∀ x : Fin 256, 0 < x.val → ones8 (UInt8.ofNat x.val) = ones8 (UInt8.ofNat x.val &&& (UInt8.ofNat x.val - 1)) + 1 ∧ Go.bits BinOp.and IntKind.u8 (x.val : Int) ((x.val : Int) - 1) = ((UInt8.ofNat x.val &&& (UInt8.ofNat x.val - 1)).toNat : Int) ∧ (UInt8.ofNat x.val &&& (UInt8.ofNat x.val - 1)).toNat < x.val := by decide +kernel
  have := this ⟨x.toNat, x.toNat_lt⟩ h
  simpa using this
theorem ones8_le (x : UInt8) : ones8 x ≤ 8 := by
  have := List.length_filter_le (fun k => x &&& bitOf k != 0) (List.range 8)
  simpa [ones8] using this
def onesR (row : List UInt8) : Nat := (row.map ones8).sum
theorem onesR_snoc (row : List UInt8) (x : UInt8) : onesR (row ++ [x]) = onesR row + ones8 x := by simp [onesR]
theorem onesR_le (row : List UInt8) : onesR row ≤ 8 * row.length := by
  induction row with
  | nil => simp [onesR]
  | cons x l ih => have := ones8_le x; simp [onesR] at ih ⊢; omega
def bloomB (bits probes : Int) (row : List UInt8) : List UInt8 := [bits, probes].flatMap numI ++ textB ⟨row.toArray⟩
theorem numI_le (n : Int) (h : okNum n) : (numI n).length ≤ 9 := by
  have h' := h
  unfold okNum at h'
  exact numI_len n (by omega)
theorem two_put {a b : Int} : ([] : List UInt8).length + 9 * [a, b].length ≤ 70368744177664 := by simp
theorem flat1 (s : ByteArray) : [s].flatMap textB = textB s := by simp
theorem probe1 (seed : Int) (l : List UInt8) (i : Int) : probeN 1 seed l i = 0 := by
  have := probeN_lt 1 seed l i (by decide); omega
theorem aw_has0 : hasV [0] 1 1 0 1 1 = false := by
  have : bhP [0] 1 0 (verB 1 1) 1 = false := by simp [bhP, probe1]; decide
  simp [hasV, this]
theorem aw_add : addAll [0] 1 1 0 [(2, 2)] = [1] := by
  have : addP [0] 1 0 (verB 2 2) 1 = [1] := by simp [addP, probe1]; decide
  simp only [addAll, List.foldl_cons, List.foldl_nil, addV]
  rw [if_pos (by decide)]; exact this
theorem aw_has1 : hasV [1] 1 1 0 1 1 = true := by
  have : bhP [1] 1 0 (verB 1 1) 1 = true := by simp [bhP, probe1]; decide
  unfold hasV
  rw [show verR 1 1 = true by decide]; exact this
theorem aw_bytes : bloomB 1 1 [1] = [1, 1, 1, 1] := by
  unfold bloomB textB
  rw [numB_lt (show (ByteArray.mk [(1 : UInt8)].toArray).size < 128 by decide)]
  simp [numI]
  rw [numB_lt (by decide)]; rfl
theorem bit_or (x : UInt8) (n m : Nat) : ((x ||| bitOf n) &&& bitOf m != 0) = ((x &&& bitOf m != 0) || (m % 8 == n % 8)) := by
  have : ∀ k j : Fin 8, ∀ x : Fin 256, ((UInt8.ofNat x.val ||| UInt8.ofNat (2 ^ k.val)) &&& UInt8.ofNat (2 ^ j.val) != 0) = ((UInt8.ofNat x.val &&& UInt8.ofNat (2 ^ j.val) != 0) || (j.val == k.val)) := by decide +kernel
  have := this ⟨n % 8, Nat.mod_lt _ (by decide)⟩ ⟨m % 8, Nat.mod_lt _ (by decide)⟩ ⟨x.toNat, x.toNat_lt⟩
  simpa [bitOf] using this
theorem hasBit_add (row : List UInt8) (n m : Nat) (h : n / 8 < row.length) : hasBit (addBit row n) m = (hasBit row m || (m == n)) := by
  unfold hasBit addBit
  by_cases hq : m / 8 = n / 8
  · rw [hq, List.getElem?_set_self h]
    simp only [Option.getD_some]
    rw [bit_or]
    congr 1
    rw [Bool.eq_iff_iff, beq_iff_eq, beq_iff_eq]
    omega
  · rw [List.getElem?_set_ne (fun e => hq e.symm)]
    have : (m == n) = false := by rw [beq_eq_false_iff_ne]; rintro rfl; exact hq rfl
    rw [this, Bool.or_false]
/-- a byte by its bits -/
def byteOf (f : Nat → Bool) : UInt8 := (List.range 8).foldl (fun r k => if f k then r ||| bitOf k else r) 0
theorem byteOf_bits (x : UInt8) : x = byteOf (fun k => x &&& bitOf k != 0) := by
  have : ∀ x : Fin 256, UInt8.ofNat x.val = byteOf (fun k => UInt8.ofNat x.val &&& bitOf k != 0) := by decide +kernel
  simpa using this ⟨x.toNat, x.toNat_lt⟩
theorem byteOf_congr {f g : Nat → Bool} (h : ∀ k, k < 8 → f k = g k) : byteOf f = byteOf g := by
  have e : List.range 8 = [0, 1, 2, 3, 4, 5, 6, 7] := by decide
  unfold byteOf
  rw [e]
  simp only [List.foldl_cons, List.foldl_nil]
  rw [h 0 (by decide), h 1 (by decide), h 2 (by decide), h 3 (by decide), h 4 (by decide), h 5 (by decide), h 6 (by decide), h 7 (by decide)]
theorem rows_eq {a b : List UInt8} (hl : a.length = b.length) (h : ∀ n, hasBit a n = hasBit b n) : a = b := by
  apply List.ext_getElem hl
  intro j h1 h2
  rw [byteOf_bits a[j], byteOf_bits b[j]]
  apply byteOf_congr
  intro k hk
  have := h (8 * j + k)
  unfold hasBit at this
  rw [show (8 * j + k) / 8 = j by omega, List.getElem?_eq_getElem h1, List.getElem?_eq_getElem h2] at this
  simp only [Option.getD_some] at this
  rw [show bitOf (8 * j + k) = bitOf k by unfold bitOf; rw [show (8 * j + k) % 8 = k % 8 by omega]] at this
  exact this
theorem ones8_bound (x : UInt8) (b : Nat) (hb : b < 8) (h : ∀ k, k < 8 → (x &&& bitOf k != 0) = true → k < b) : ones8 x ≤ b := by
  have : ∀ b : Fin 8, ∀ x : Fin 256, (∀ k : Fin 8, (UInt8.ofNat x.val &&& bitOf k.val != 0) = true → k.val < b.val) → ones8 (UInt8.ofNat x.val) ≤ b.val := by decide +kernel
  have := this ⟨b, hb⟩ ⟨x.toNat, x.toNat_lt⟩ (fun k hk => h k.val k.isLt (by simpa using hk))
  simpa using this
theorem hasBit_cons (x : UInt8) (l : List UInt8) (n : Nat) : hasBit (x :: l) n = if n < 8 then (x &&& bitOf n != 0) else hasBit l (n - 8) := by
  unfold hasBit
  by_cases h : n < 8
  · rw [if_pos h, show n / 8 = 0 by omega]; rfl
  · rw [if_neg h, show n / 8 = (n - 8) / 8 + 1 by omega, List.getElem?_cons_succ]
    rw [show bitOf n = bitOf (n - 8) by unfold bitOf; rw [show n % 8 = (n - 8) % 8 by omega]]
theorem ones_bound (row : List UInt8) : ∀ (bits : Nat), (∀ n, hasBit row n = true → n < bits) → onesR row ≤ bits := by
  induction row with
  | nil => intro b _; simp [onesR]
  | cons x l ih =>
    intro b h
    have e : onesR (x :: l) = ones8 x + onesR l := by simp [onesR]
    have hl : ∀ n, hasBit l n = true → n + 8 < b := by
      intro n hn
      have := h (n + 8) (by rw [hasBit_cons, if_neg (by omega)]; simpa using hn)
      omega
    have hx : ∀ k, k < 8 → (x &&& bitOf k != 0) = true → k < b := by
      intro k hk hb
      exact h k (by rw [hasBit_cons, if_pos hk]; exact hb)
    rw [e]
    by_cases h8 : 8 ≤ b
    · have := ih (b - 8) (fun n hn => by have := hl n hn; omega)
      have := ones8_le x
      omega
    · have := ih 0 (fun n hn => by have := hl n hn; omega)
      have := ones8_bound x b (by omega) hx
      omega

/-- is bit m one of a version's -/
def inV (bits probes seed : Int) (m : Nat) (v : Int × Int) : Bool := verR v.1 v.2 && (List.range probes.toNat).any (fun (i : Nat) => m == probeN bits seed (verB v.1 v.2) (i : Int))
section
variable {bits probes seed : Int} {row : List UInt8}
theorem hasBit_addP (h1 : 1 ≤ bits) (hl : row.length = (bits.toNat + 7) / 8) (l : List UInt8) (k m : Nat) :
    hasBit (addP row bits seed l k) m = (hasBit row m || (List.range k).any (fun (i : Nat) => m == probeN bits seed l (i : Int))) := by
  induction k with
  | zero => simp [addP]
  | succ k ih =>
    have := probeN_lt bits seed l (k : Int) h1
    rw [addP_succ, hasBit_add _ _ _ (by rw [addP_len]; omega), ih]
    simp [List.range_succ, Bool.or_assoc]
theorem hasBit_addV (h1 : 1 ≤ bits) (hl : row.length = (bits.toNat + 7) / 8) (v : Int × Int) (m : Nat) :
    hasBit (addV row bits probes seed v) m = (hasBit row m || inV bits probes seed m v) := by
  unfold addV inV
  by_cases hv : verR v.1 v.2 = true
  · rw [if_pos hv, hasBit_addP h1 hl, hv, Bool.true_and]
  · rw [if_neg hv]
    have : verR v.1 v.2 = false := by simpa using hv
    rw [this, Bool.false_and, Bool.or_false]
theorem hasBit_addAll (h1 : 1 ≤ bits) (vs : List (Int × Int)) : ∀ (row : List UInt8), row.length = (bits.toNat + 7) / 8 → ∀ m, hasBit (addAll row bits probes seed vs) m = (hasBit row m || vs.any (inV bits probes seed m)) := by
  induction vs with
  | nil => intro row hl m; simp [addAll]
  | cons v vs ih =>
    intro row hl m
    have := ih (addV row bits probes seed v) (by rw [addV_len]; exact hl) m
    unfold addAll at this ⊢
    rw [List.foldl_cons, this, hasBit_addV h1 hl, List.any_cons, Bool.or_assoc]
theorem hasBit_zero (n m : Nat) : hasBit (List.replicate n 0) m = false := by
  unfold hasBit
  rw [List.getElem?_replicate]
  split <;> simp
theorem inV_lt (h1 : 1 ≤ bits) {m : Nat} {v : Int × Int} (h : inV bits probes seed m v = true) : (m : Int) < bits := by
  unfold inV at h
  simp only [Bool.and_eq_true, List.any_eq_true] at h
  obtain ⟨_, i, _, hm⟩ := h
  have := probeN_lt bits seed (verB v.1 v.2) (i : Int) h1
  simp at hm
  omega
/-- the bits of versions, in whatever order -/
theorem addAll_bits (h1 : 1 ≤ bits) {n : Nat} (hn : n = (bits.toNat + 7) / 8) (vs : List (Int × Int)) (m : Nat) : hasBit (addAll (List.replicate n 0) bits probes seed vs) m = vs.any (inV bits probes seed m) := by
  rw [hasBit_addAll h1 vs _ (by simp [hn]), hasBit_zero, Bool.false_or]
theorem addAll_same (h1 : 1 ≤ bits) {n : Nat} (hn : n = (bits.toNat + 7) / 8) {vs us : List (Int × Int)} (h : ∀ v, v ∈ vs ↔ v ∈ us) : addAll (List.replicate n 0) bits probes seed vs = addAll (List.replicate n 0) bits probes seed us := by
  refine rows_eq (by rw [addAll_len, addAll_len]) fun m => ?_
  rw [addAll_bits h1 hn, addAll_bits h1 hn, Bool.eq_iff_iff, List.any_eq_true, List.any_eq_true]
  constructor
  · rintro ⟨v, hv, hi⟩; exact ⟨v, (h v).1 hv, hi⟩
  · rintro ⟨v, hv, hi⟩; exact ⟨v, (h v).2 hv, hi⟩
theorem addAll_app (row : List UInt8) (vs us : List (Int × Int)) : addAll row bits probes seed (vs ++ us) = addAll (addAll row bits probes seed vs) bits probes seed us := by
  simp [addAll]
theorem addAll_ones (h1 : 1 ≤ bits) {n : Nat} (hn : n = (bits.toNat + 7) / 8) (vs : List (Int × Int)) : (onesR (addAll (List.replicate n 0) bits probes seed vs) : Int) ≤ bits := by
  have := ones_bound (addAll (List.replicate n 0) bits probes seed vs) bits.toNat (fun m hm => by
    rw [addAll_bits h1 hn, List.any_eq_true] at hm
    obtain ⟨v, _, hi⟩ := hm
    have := inV_lt h1 hi
    omega)
  omega
end
theorem numSt_zero {l l' : List UInt8} {e x : Int} (h : numSt l e = (x, l', 0)) : e = 0 := by
  unfold numSt at h
  split at h
  · rename_i he; simp at h; exact absurd h.2.2 he
  · omega
theorem within_zero {lo hi : Int} {l l' : List UInt8} {e x : Int} (h : withinSt lo hi l e = (x, l', 0)) : e = 0 ∧ lo ≤ x ∧ x ≤ hi ∧ numSt l e = (x, l', 0) := by
  unfold withinSt at h
  split at h
  · simp at h
  · rename_i hn
    refine ⟨numSt_zero h, ?_, ?_, h⟩
    · rw [h] at hn; simp at hn; omega
    · rw [h] at hn; simp at hn; omega
theorem text_zero {most : Int} {l l' : List UInt8} {e : Int} {s : List UInt8} (h : textSt most l e = (s, l', 0)) : ∃ x l1, withinSt 0 most l e = (x, l1, 0) ∧ s = l1.take x.toNat ∧ l' = l1.drop x.toNat ∧ 0 ≤ x ∧ x ≤ l1.length := by
  unfold textSt at h
  split at h
  · rename_i hn
    exact absurd (by have := congrArg (fun p => p.2.2) h; simpa using this) hn
  · rename_i hn
    split at h
    · simp at h
    · rename_i hx
      simp at h
      have hw : withinSt 0 most l e = ((withinSt 0 most l e).1, (withinSt 0 most l e).2.1, 0) := by
        exact Prod.ext rfl (Prod.ext rfl (by simpa using hn))
      have := within_zero hw
      exact ⟨_, _, hw, h.1.symm, h.2.symm, this.2.1, by omega⟩
theorem end_zero {l : List UInt8} {e : Int} (h : endSt l e = 0) : e = 0 ∧ l = [] := by
  unfold endSt at h
  split at h
  · omega
  · rename_i hn
    subst h
    refine ⟨rfl, ?_⟩
    cases l with
    | nil => rfl
    | cons a l => simp at hn
def topBad (bits : Int) (s : List UInt8) : Prop := 0 < bits.toNat % 8 ∧ 0 < (s.getD (s.length - 1) 0).toNat / 2 ^ (bits.toNat % 8)
theorem text_putm (most : Int) (s : ByteArray) (h : s.size ≤ 4096) (hm : (s.size : Int) ≤ most) : textSt most (textB s) 0 = (s.data.toList, [], 0) := by
  have hn : withinSt 0 most (textB s) 0 = ((s.size : Int), s.data.toList, 0) := by
    have := within_put (n := (s.size : Int)) (lo := 0) (hi := most) (by unfold okNum; omega) (by omega) hm s.data.toList
    simpa [textB, numI] using this
  have hl : s.data.toList.length = s.size := Array.length_toList
  generalize s.data.toList = d at *
  unfold textSt
  rw [hn]
  dsimp only
  rw [if_neg (by omega), if_neg (by omega), Int.toNat_natCast, ← hl, List.take_length, List.drop_length]
theorem parse_put {bits probes : Int} {row : List UInt8} (h1 : 1 ≤ bits) (h2 : bits ≤ 4096) (h3 : 1 ≤ probes) (h4 : probes ≤ 8) (hl : row.length ≤ 4096) :
    withinSt 1 4096 (bloomB bits probes row) 0 = (bits, numI probes ++ textB ⟨row.toArray⟩, 0) ∧ withinSt 1 8 (numI probes ++ textB ⟨row.toArray⟩) 0 = (probes, textB ⟨row.toArray⟩, 0) ∧ textSt 281474976710656 (textB ⟨row.toArray⟩) 0 = (row, [], 0) := by
  refine ⟨?_, within_put (by unfold okNum; omega) h3 h4 _, text_putm _ ⟨row.toArray⟩ hl (by show ((row.toArray.size : Nat) : Int) ≤ _; simp; omega)⟩
  have := within_put (n := bits) (lo := 1) (hi := 4096) (by unfold okNum; omega) h1 h2 (numI probes ++ textB ⟨row.toArray⟩)
  simpa [bloomB] using this
theorem top_bit (x : UInt8) (j : Nat) (hj : j < 8) (h : 0 < x.toNat / 2 ^ j) : ∃ k, j ≤ k ∧ k < 8 ∧ (x &&& bitOf k != 0) = true := by
  have : ∀ j : Fin 8, ∀ x : Fin 256, 0 < x.val / 2 ^ j.val → ∃ k : Fin 8, j.val ≤ k.val ∧ (UInt8.ofNat x.val &&& bitOf k.val != 0) = true := by decide +kernel
  obtain ⟨k, h1, h2⟩ := this ⟨j, hj⟩ ⟨x.toNat, x.toNat_lt⟩ h
  exact ⟨k.val, h1, k.isLt, by simpa using h2⟩
theorem not_top {bits : Int} {row : List UInt8} (h1 : 1 ≤ bits) (hl : row.length = (bits.toNat + 7) / 8) (h : ∀ n, hasBit row n = true → (n : Int) < bits) : ¬ topBad bits row := by
  rintro ⟨ha, hb⟩
  obtain ⟨k, k1, k2, k3⟩ := top_bit _ _ (Nat.mod_lt _ (by decide)) hb
  have := h (8 * (row.length - 1) + k) (by
    unfold hasBit
    rw [show (8 * (row.length - 1) + k) / 8 = row.length - 1 by omega, show bitOf (8 * (row.length - 1) + k) = bitOf k by unfold bitOf; rw [show (8 * (row.length - 1) + k) % 8 = k % 8 by omega]]
    simpa using k3)
  omega
theorem addAll_top {bits probes seed : Int} (h1 : 1 ≤ bits) {n : Nat} (hn : n = (bits.toNat + 7) / 8) (vs : List (Int × Int)) : ¬ topBad bits (addAll (List.replicate n 0) bits probes seed vs) := by
  refine not_top h1 (by rw [addAll_len, List.length_replicate]; exact hn) fun m hm => ?_
  rw [addAll_bits h1 hn, List.any_eq_true] at hm
  obtain ⟨v, _, hi⟩ := hm
  exact inV_lt h1 hi
theorem addAll_has {bits probes seed : Int} (h1 : 1 ≤ bits) {n : Nat} (hn : n = (bits.toNat + 7) / 8) (vs : List (Int × Int)) (v : Int × Int) (hv : v ∈ vs) (hr : verR v.1 v.2 = true) : hasV (addAll (List.replicate n 0) bits probes seed vs) bits probes seed v.1 v.2 = true := by
  unfold hasV bhP
  rw [hr, Bool.true_and, List.all_eq_true]
  intro i hi
  rw [addAll_bits h1 hn, List.any_eq_true]
  refine ⟨v, hv, ?_⟩
  unfold inV
  rw [hr, Bool.true_and, List.any_eq_true]
  exact ⟨i, hi, by simp⟩
theorem bloomB_len {bits probes : Int} {row : List UInt8} (h1 : 1 ≤ bits) (h2 : bits ≤ 4096) (h3 : 1 ≤ probes) (h4 : probes ≤ 8) (hl : row.length ≤ 4096) : (bloomB bits probes row).length ≤ 5000 := by
  have ob : okNum bits := by unfold okNum; omega
  have op : okNum probes := by unfold okNum; omega
  have := numI_le _ ob
  have := numI_le _ op
  have := numB_len9 (ByteArray.mk row.toArray).size (by show row.toArray.size ≤ _; simp; omega)
  unfold bloomB textB
  simp; omega
def rhasP (bs : List Bool) (bits seed : Int) (l : List UInt8) (k : Nat) : Bool := (List.range k).all (fun (i : Nat) => bs.getD (probeN bits seed l (i : Int)) false)
theorem rhasP_succ (bs : List Bool) (bits seed : Int) (l : List UInt8) (k : Nat) : rhasP bs bits seed l (k + 1) = (rhasP bs bits seed l k && bs.getD (probeN bits seed l (k : Int)) false) := by
  simp [rhasP, List.range_succ]
theorem rhasP_stop {bs : List Bool} {bits seed : Int} {l : List UInt8} {k q : Nat} (hk : k < q) (h : bs.getD (probeN bits seed l (k : Int)) false = false) : rhasP bs bits seed l q = false := by
  unfold rhasP
  rw [List.all_eq_false]
  exact ⟨k, by simp [hk], by simpa using h⟩
def rhasV (bs : List Bool) (bits probes seed : Int) (r c : Int) : Bool := verR r c && rhasP bs bits seed (verB r c) probes.toNat
end Go.Proofs.Ytbpmafpmlapekaa
