/- Ranges and filters as bytes: the program's way and the references'. -/
import Derived.Test.YtbpmafpmlapekaaRgL
import Derived.Test.YtbpmafpmlapekaaIcL
namespace Go.Proofs.Ytbpmafpmlapekaa
open Go.RowKit
def rgB (r : Rg) : List UInt8 := textB r.lo ++ (if r.op = true then numI 1 else numI 0 ++ textB r.hi)
def rgsBy (l : List Rg) : List UInt8 := numI (l.length : Nat) ++ l.flatMap rgB
def ndB (n : Nd) : List UInt8 := numI n.op ++ (if n.op = 3 ∨ n.op = 5 then textB n.lo else if n.op = 4 then textB n.lo ++ textB n.hi else if n.op = 7 ∨ n.op = 8 then numI n.kids else [])
def ndsBy (l : List Nd) : List UInt8 := numI (l.length : Nat) ++ l.flatMap ndB
theorem numI_one {n : Int} (h0 : 0 ≤ n) (h : n < 128) : (numI n).length = 1 := by
  unfold numI; rw [numB_lt (by omega)]; rfl
theorem rgB_len {r : Rg} (h : rgR r = true) : (rgB r).length ≤ 40 := by
  obtain ⟨h1, h2, _⟩ := (rgR_iff r).1 h
  have q1 := textB_len r.lo (by omega)
  have q2 := textB_len r.hi (by omega)
  have q3 := numI_one (n := 0) (by omega) (by omega)
  have q4 := numI_one (n := 1) (by omega) (by omega)
  unfold rgB
  split <;> simp <;> omega
theorem rgsOk_R {l : List Rg} (h : rgsOk l) {i : Nat} (hi : i < l.length) : rgR l[i] = true := (h i hi).1
theorem ndR_sizes {n : Nd} (h : ndR n = true) : 1 ≤ n.op ∧ n.op ≤ 8 ∧ n.lo.size ≤ 17 ∧ n.hi.size ≤ 17 := by
  rw [ndR_iff] at h
  have h0 : e0.size = 0 := by decide
  rcases h with ⟨a, _, b, c⟩ | ⟨a, _, b, c⟩ | ⟨a, _, b⟩ | ⟨a, _, b, c⟩ | ⟨a, _, b, c⟩ | ⟨a, _, _, b, c⟩
  · rw [b, c, h0]; omega
  · rw [c, h0]; omega
  · have := (rgR_iff _).1 b; simp only at this; omega
  · rw [c, h0]; omega
  · rw [b, c, h0]; omega
  · rw [b, c, h0]; omega
theorem ndB_len {n : Nd} (h : ndR n = true) : (ndB n).length ≤ 40 := by
  obtain ⟨h1, h2, h3, h4⟩ := ndR_sizes h
  have hk := ndR_kids h
  have q1 := textB_len n.lo (by omega)
  have q2 := textB_len n.hi (by omega)
  have q3 := numI_one (n := n.op) (by omega) (by omega)
  have q4 := numI_one (n := n.kids) (by omega) (by omega)
  unfold ndB
  rw [List.length_append]
  split
  · omega
  · split
    · simp; omega
    · split
      · omega
      · simp; omega
theorem goN_R : ∀ (l : List Nd) (o m : Nat), goN o l = some m → ∀ x ∈ l, ndR x = true := by
  intro l
  induction l with
  | nil => intro o m _ x hx; simp at hx
  | cons n l ih =>
    intro o m h x hx
    unfold goN at h
    split at h
    · rename_i hc
      rcases List.mem_cons.1 hx with e | e
      · subst e; exact hc.1
      · exact ih _ _ h x e
    · cases h
section
set_option maxRecDepth 10000
set_option maxHeartbeats 8000000
theorem numI_0 : (numI 0).map byteP = [[rawP (.int .u8 0)]] := by unfold numI; rw [numB_lt (by decide)]; rfl
theorem numI_1 : (numI 1).map byteP = [[rawP (.int .u8 1)]] := by unfold numI; rw [numB_lt (by decide)]; rfl
theorem ok_small {n : Int} (h0 : 0 ≤ n) (h : n ≤ 1000000) : ∀ m ∈ [n], okNum m := fun m hm => by simp at hm; subst hm; unfold okNum; omega
theorem byteI {n : Int} (h0 : 0 ≤ n) (h : n < 128) : [[rawP (.int .u8 (IntKind.u8.wrap n))]] = (numI n).map byteP := by
  obtain ⟨m, rfl⟩ := Int.eq_ofNat_of_zero_le h0
  exact byte_one (by omega)
end
end Go.Proofs.Ytbpmafpmlapekaa
