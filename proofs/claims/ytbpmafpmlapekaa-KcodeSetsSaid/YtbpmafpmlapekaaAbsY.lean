/- The nil slice in a box, as a row of the call's own. No program in sight. -/
import Derived.Test.YtbpmafpmlapekaaAbsX
namespace Go.Proofs.Ytbpmafpmlapekaa
open Go.RowKit
section
variable {n : Nat} {S : St}
theorem ub_two {id v id' v' : Nat} {B B' : Blk} {i v0 : Nat} {B0 : Blk} (h : ub [(id, v, B), (id', v', B')] i = some (v0, B0)) : (i = id ∧ v0 = v ∧ B0 = B) ∨ (i = id' ∧ v0 = v' ∧ B0 = B') := by
  unfold ub at h
  cases hb : Nat.beq i id with
  | true => rw [hb] at h; cases h; exact .inl ⟨nbeq_true.1 hb, rfl, rfl⟩
  | false =>
    rw [hb] at h
    have h' : ub [(id', v', B')] i = some (v0, B0) := h
    rw [ub_one] at h'
    split at h'
    · rename_i e; cases h'; exact .inr ⟨e, rfl, rfl⟩
    · cases h'
/-- the nil slice in the cell off of the box id, as the row idr -/
theorem Le_nilB (id off idr e er k : Nat) {cells : List Cnt} (hb : S.blk id = .box e cells) (hc : cells[off]? = some (.per (rawP (.slice none 0 0)))) (hne : Nat.beq idr id = false := by rfl) (hfx : isFix idr = false := by rfl) :
    Le n S (S.app none .any [(id, S.ver id, .box e (cells.set off (.row idr (S.ver idr + 1)))), (idr, S.ver idr + 1, .row er k [])]) := by
  rintro C a w ⟨g, hR⟩
  have hne' : idr ≠ id := fun e => by rw [nbeq_true.2 e] at hne; cases hne
  have hvr : ∀ i, (S.app none .any [(id, S.ver id, .box e (cells.set off (.row idr (S.ver idr + 1)))), (idr, S.ver idr + 1, .row er k [])]).ver i = if i = idr then S.ver idr + 1 else S.ver i := by
    intro i
    rw [St.app_ver]
    unfold ub
    cases h1 : Nat.beq i id with
    | true =>
      have := nbeq_true.1 h1
      subst this
      rw [if_neg (Ne.symm hne')]; rfl
    | false =>
      show ((ub [(idr, S.ver idr + 1, Blk.row er k [])] i).map (·.1)).getD (S.ver i) = _
      rw [ub_one]
      split <;> rfl
  have hst := stp_mkN (v := .slice none 0 0) (t := idr) hR (Ext.refl w) hvr hfx
  have hrh : (g.mkN idr (.slice none 0 0)).rh idr = .slice none 0 0 := if_pos rfl
  have hid : hst = hst := rfl
  refine ⟨g.mkN idr (.slice none 0 0), ?_⟩
  have key := hR.appL (g' := g.mkN idr (.slice none 0 0)) (bs := [(id, S.ver id, .box e (cells.set off (.row idr (S.ver idr + 1)))), (idr, S.ver idr + 1, .row er k [])]) (d := none) (fun t h => by cases h) (c := .any) (v := undef)
    (hst.cong (fun i hi => by
      subst hi
      unfold ub
      rw [hne]
      show ub [(i, S.ver i + 1, Blk.row er k [])] i ≠ none
      rw [ub_one, if_pos rfl]; simp)) trivial ?_
  · exact key
  · intro i v B hu
    rcases ub_two hu with ⟨rfl, rfl, rfl⟩ | ⟨rfl, rfl, rfl⟩
    · have h0 := hst.brep (fun b id e => (hR.dom b id e).1) (id := i) (fun h => hne' h.symm) (hR.blks i)
      rw [hb] at h0
      obtain ⟨cs, q1, q2, q3, q4⟩ := h0
      refine ⟨cs, q1, q2, by rw [q3]; simp, fun j c hj => ?_⟩
      rw [List.getElem?_set] at hj
      split at hj
      · rename_i e1
        subst e1
        split at hj
        · cases hj
          obtain ⟨y, r1, r2, r3⟩ := q4 off _ hc
          refine ⟨y, r1, r2, by rw [hvr, if_pos rfl]; exact Nat.le_refl _, fun _ => ?_⟩
          rw [hrh]; exact r3
        · cases hj
      · exact q4 j c hj
    · exact .inl ⟨hrh, rfl⟩
end
end Go.Proofs.Ytbpmafpmlapekaa
