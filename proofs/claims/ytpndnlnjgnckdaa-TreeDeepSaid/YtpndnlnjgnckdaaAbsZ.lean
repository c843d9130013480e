/- A struct within a struct, loaded out of lent or lasting memory. No program in sight. -/
import Derived.Test.YtpndnlnjgnckdaaAbsX
namespace Go.Proofs.Ytpndnlnjgnckdaa
open Go.RowKit
section
variable {P : Program} {n : Nat} {ops : Array Oper} {o : Oper} {S : St} {t : Nat}
theorem take_cells {cs : List PV} {k : Nat} {N : BP} {w : World} {f : Nat → Option Value} (h : ∀ (j : Nat) (A : PV), cs[j]? = some A → ∃ y, f j = some y ∧ y.oneCell' = true ∧ A.p N w y) :
    ∀ (j : Nat) (A : PV), (cs.take k)[j]? = some A → ∃ y, f j = some y ∧ y.oneCell' = true ∧ A.p N w y := fun j A hj => by
  rw [List.getElem?_take] at hj
  split at hj
  · exact h j A hj
  · cases hj
theorem u_load_bpT {ty : TypeId} {x : Operand} {cs As : List PV} {k : Nat} (hp : Pl n o t) (ho : o.op = .load ty x) (hT : AggC P ty true) (hk : Siz P ty k) (h0 : Nat.blt 0 k = true) (hx : S.opd x = .bpt cs) (hl : Nat.ble k cs.length = true) (hc : cs.take k = As) :
    OpOk n P ops o (opdN x) (.per (aggP As)) [] S :=
  op_val hp fun C T g a w hAg hR => by
    obtain ⟨d, hT, hd⟩ := hT.h
    have h := opd_rep (x := x) hAg (fun k h => h) hR
    rw [hx] at h
    obtain ⟨b, of, hv, hb, hn, hcs⟩ := h
    obtain ⟨vs, g1, g2, g3⟩ := list_of_cells (cs.take k) (take_cells hcs)
    subst hc
    have hkl := Nat.le_of_ble_eq_true hl
    have h0 := Nat.le_of_ble_eq_true h0
    have hlen : (cs.take k).length = k := by rw [List.length_take]; omega
    refine ⟨.agg vs.toArray, ?_, ⟨vs.toArray, rfl, g3⟩⟩
    simp only [execOp, ho, hv, Sem.run_bind, loadAt_agg hT hd (by rw [hk.h, g1, hlen]) (by omega) g2]; rfl
theorem u_load_rpT {ty : TypeId} {x : Operand} {cs As : List PV} {k : Nat} (hp : Pl n o t) (ho : o.op = .load ty x) (hT : AggC P ty true) (hk : Siz P ty k) (h0 : Nat.blt 0 k = true) (hx : S.opd x = .per (rptrP cs)) (hl : Nat.ble k cs.length = true) (hc : cs.take k = As) :
    OpOk n P ops o (opdN x) (.per (aggP As)) [] S :=
  op_val hp fun C T g a w hAg hR => by
    obtain ⟨d, hT, hd⟩ := hT.h
    have h := opd_rep (x := x) hAg (fun k h => h) hR
    rw [hx] at h
    obtain ⟨b, of, hv, hb, hn, hcs⟩ := h
    obtain ⟨vs, g1, g2, g3⟩ := list_of_cells (cs.take k) (take_cells hcs)
    subst hc
    have hkl := Nat.le_of_ble_eq_true hl
    have h0 := Nat.le_of_ble_eq_true h0
    have hlen : (cs.take k).length = k := by rw [List.length_take]; omega
    refine ⟨.agg vs.toArray, ?_, ⟨vs.toArray, rfl, g3⟩⟩
    simp only [execOp, ho, hv, Sem.run_bind, loadAt_agg hT hd (by rw [hk.h, g1, hlen]) (by omega) g2]; rfl
end
/-- a new row that a method hands back, as one that stays as it is -/
theorem FnM.frz3 {P : Program} {f : FuncId} {As : List Cnt} {pre : List (Nat × Blk)} {B : Blk} {e k : Nat} {es : List (List PV)} (h : FnM P f As pre (.row 3000 0) [(1000, B), (3000, .row e k es)]) :
    FnM P f As pre (.per (lstP k es)) [(1000, B)] := by
  refine ⟨h.ent, fun C w vs hw hN hd hl ha hp => (h.run C w vs hw hN hd hl ha hp).mono ?_⟩
  rintro ex w' ⟨v, g', he, hF, hv, hB⟩
  subst hw
  let g'' : Gh := ⟨fun b => if g'.ow b = some 3000 then none else g'.ow b, g'.ph, g'.rh⟩
  have hg : ∀ b, g''.ow b = if g'.ow b = some 3000 then none else g'.ow b := fun _ => rfl
  have hst : Stp C (fun i => i = 3000) z0 z0 g' g'' w' w' := by
    refine ⟨Nat.le_refl _, fun _ _ _ => rfl, fun b _ hn => by rw [hg, if_neg (hn 3000 rfl)], fun b _ hn => ?_, fun b i e => ?_, fun _ => .inl rfl, fun _ _ => ⟨rfl, rfl⟩, fun _ _ => ⟨rfl, rfl⟩, rfl, rfl, rfl⟩
    · rw [hg] at hn
      by_cases q : g'.ow b = some 3000
      · rw [q]; simp
      · rwa [if_neg q] at hn
    · rw [hg] at e
      by_cases q : g'.ow b = some 3000
      · rw [if_pos q] at e; cases e
      · rw [if_neg q] at e; exact hF.dom b i e
  refine ⟨v, g'', he, ⟨hF.os, hF.tape, hF.output, hF.size, hF.old, fun b id e => hst.dom b id e, hF.keep⟩, ?_, fun id => ?_⟩
  · have hrow := hB 3000
    have hval : v = g'.rh 3000 := hv.2 rfl
    rw [hval]
    show lstAt (g''.N C) (g''.N C) k es w' (g'.rh 3000)
    rcases (show brep C z0 g' w' 3000 (.row e k es) from hrow) with ⟨q1, rfl⟩ | ⟨cap, cs, q1, q2, q3, q4, q5, q6, q7⟩
    · exact ⟨none, 0, 0, 0, by rw [q1]; rfl, by simp, by decide, fun _ => rfl, by simp, fun i cs hi => by simp at hi⟩
    · have hdm := hF.dom _ _ q3
      refine ⟨_, cap, g'.ph 3000, 0, q1, q4, q5, by simp, fun _ => ⟨rfl, hdm.1, fun hn => ?_⟩, fun i ps hi => ?_⟩
      · rcases hn with hn | hn
        · have h1 := hN _ hn
          rcases hdm.2 with q | q
          · omega
          · exact h1.2 q
        · rw [hg, if_pos q3] at hn; exact hn rfl
      · obtain ⟨r1, r2⟩ := q7 i ps hi
        refine ⟨r1, fun j A hj => ?_⟩
        obtain ⟨y, s1, s2, s3⟩ := r2 j A hj
        exact ⟨y, by rw [Nat.zero_add, cell_at q2]; exact s1, s2, A.mono (Nat.le_refl _) (fun _ _ _ => rfl) hst.n s3⟩
  · have hid := hB id
    unfold lookB
    cases hb : Nat.beq id 1000 with
    | false => trivial
    | true =>
      obtain rfl := nbeq_true.1 hb
      exact hst.brep (fun b i e => (hF.dom b i e).1) (fun h => by cases h) (show brep C z0 g' w' 1000 B from hid)
end Go.Proofs.Ytpndnlnjgnckdaa
