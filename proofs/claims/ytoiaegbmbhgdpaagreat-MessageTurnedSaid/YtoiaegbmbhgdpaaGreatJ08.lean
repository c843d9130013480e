/- Texts joined: AbsY. -/
import Derived.Test.YtoiaegbmbhgdpaaGreatJ07
import Derived.WalkSpells
namespace Go.Proofs.YtoiaegbmbhgdpaaGreat
open Go.RowKit
section
variable {n : Nat} {S : St}
theorem ub_two {id v id' v' : Nat} {B B' : Blk} {i v0 : Nat} {B0 : Blk} (h : ub [(id, v, B), (id', v', B')] i = some (v0, B0)) : (i = id ∧ v0 = v ∧ B0 = B) ∨ (i = id' ∧ v0 = v' ∧ B0 = B') := by
  unfold ub at h
  cases hb : Nat.beq i id with
  | true => rw [hb] at h; cases h; exact .inl ⟨nbeq_true.1 hb, rfl, rfl⟩
  | false =>
    rw [hb] at h
    have h' : ub [(id', v', B')] i = some (v0, B0) := h
    rw [ub_one] at h'
    split at h'
    · rename_i e; cases h'; exact .inr ⟨e, rfl, rfl⟩
    · cases h'
/-- the nil slice in the cell off of the box id, as the row idr -/
theorem Le_nilB (id off idr e er k : Nat) {cells : List Cnt} (hb : S.blk id = .box e cells) (hc : cells[off]? = some (.per (rawP (.slice none 0 0)))) (hne : Nat.beq idr id = false := by rfl) (hfx : isFix idr = false := by rfl) :
    Le n S (S.app none .any [(id, S.ver id, .box e (cells.set off (.row idr (S.ver idr + 1)))), (idr, S.ver idr + 1, .row er k [])]) := by
  rintro C a w ⟨g, hR⟩
  have hne' : idr ≠ id := fun e => by rw [nbeq_true.2 e] at hne; cases hne
  have hvr : ∀ i, (S.app none .any [(id, S.ver id, .box e (cells.set off (.row idr (S.ver idr + 1)))), (idr, S.ver idr + 1, .row er k [])]).ver i = if i = idr then S.ver idr + 1 else S.ver i := by
    intro i
    rw [St.app_ver]
    unfold ub
    cases h1 : Nat.beq i id with
    | true =>
      have := nbeq_true.1 h1
      subst this
      rw [if_neg (Ne.symm hne')]; rfl
    | false =>
      show ((ub [(idr, S.ver idr + 1, Blk.row er k [])] i).map (·.1)).getD (S.ver i) = _
      rw [ub_one]
      split <;> rfl
  have hst := stp_mkN (v := .slice none 0 0) (t := idr) hR (Ext.refl w) hvr hfx
  have hrh : (g.mkN idr (.slice none 0 0)).rh idr = .slice none 0 0 := if_pos rfl
  have hid : hst = hst := rfl
  refine ⟨g.mkN idr (.slice none 0 0), ?_⟩
  have key := hR.appL (g' := g.mkN idr (.slice none 0 0)) (bs := [(id, S.ver id, .box e (cells.set off (.row idr (S.ver idr + 1)))), (idr, S.ver idr + 1, .row er k [])]) (d := none) (fun t h => by cases h) (c := .any) (v := undef)
    (hst.cong (fun i hi => by
      subst hi
      unfold ub
      rw [hne]
      show ub [(i, S.ver i + 1, Blk.row er k [])] i ≠ none
      rw [ub_one, if_pos rfl]; simp)) trivial ?_
  · exact key
  · intro i v B hu
    rcases ub_two hu with ⟨rfl, rfl, rfl⟩ | ⟨rfl, rfl, rfl⟩
    · have h0 := hst.brep (fun b id e => (hR.dom b id e).1) (id := i) (fun h => hne' h.symm) (hR.blks i)
      rw [hb] at h0
      obtain ⟨cs, q1, q2, q3, q4⟩ := h0
      refine ⟨cs, q1, q2, by rw [q3]; simp, fun j c hj => ?_⟩
      rw [List.getElem?_set] at hj
      split at hj
      · rename_i e1
        subst e1
        split at hj
        · cases hj
          obtain ⟨y, r1, r2, r3⟩ := q4 off _ hc
          refine ⟨y, r1, r2, by rw [hvr, if_pos rfl]; exact Nat.le_refl _, fun _ => ?_⟩
          rw [hrh]; exact r3
        · cases hj
      · exact q4 j c hj
    · exact .inl ⟨hrh, rfl⟩
end
/-! ### slices compared with nil -/
def nilQ (es : List (List PV)) : PV := ⟨fun _ _ u => ∃ b, u = .bool b ∧ (b = true → es = []), fun _ _ _ h => h⟩
section
variable {P : Program} {n : Nat} {ops : Array Oper} {o : Oper} {S : St} {t : Nat}
theorem eqs_run {ty e : TypeId} {x y : Operand} {a : Option Addr} {l c : Nat} (hT : P.underlying ty = some (.slice e)) (w : World) : (do eqGuard .eql ty x y (.slice a l c) (.slice none 0 0); binOp .eql ty (.slice a l c) (.slice none 0 0)).run P w = .ok (.bool a.isNone) w := by
  rw [show eqGuard .eql ty x y (.slice a l c) (.slice none 0 0) = pure () from rfl]
  exact Lib.run_eql_slice_nil w _ _ a l c 0 0 hT
theorem u_eqS {ty ty' e : TypeId} {x : Operand} {k : Nat} {es : List (List PV)} (hp : Pl n o t) (ho : o.op = .binOp .eql ty x (.const (.slice none 0 0)) ty') (hT : Und P ty (.slice e)) (hx : Src (srcN S x) S x k es) :
    OpOk n P ops o (srcN S x) (.per (nilQ es)) [] S :=
  op_val hp fun C T g a w hA hR => by
    obtain ⟨ad, c, b, of, hv, _, _, _, h5, _⟩ := hx n C T g a w hA hR
    refine ⟨.bool ad.isNone, exec_bin ho hv rfl (eqs_run hT.h w), _, rfl, fun hn => ?_⟩
    rcases Nat.eq_zero_or_pos es.length with q | q
    · exact List.eq_nil_of_length_eq_zero q
    · rw [(h5 q).1] at hn; cases hn
theorem u_eqS1 {ty ty' e : TypeId} {x : Operand} {k : Nat} {es : List (List PV)} (hp : Pl n o t) (ho : o.op = .binOp .eql ty x (.const (.slice none 0 0)) ty') (hT : Und P ty (.slice e)) (hx : Src (srcN S x) S x k es) (h0 : 0 < es.length) :
    OpOk n P ops o (srcN S x) (bC false) [] S :=
  op_val hp fun C T g a w hA hR => by
    obtain ⟨ad, c, b, of, hv, _, _, _, h5, _⟩ := hx n C T g a w hA hR
    exact ⟨.bool false, exec_bin ho hv rfl ((eqs_run hT.h w).trans (by rw [(h5 h0).1]; rfl)), rfl⟩
theorem AW_cond_nil {Q : Exit → St → Prop} {c : Operand} {x y : Code} {es : List (List PV)} (hc : c = .tmp t) (hb : S.get t = .per (nilQ es))
    (h1 : es = [] → AW P n x Q S) (h2 : AW P n y Q S) : AW P n (.cond c x y) Q S := ⟨fun C a w hr => by
  obtain ⟨g, hg⟩ := hr
  have := hg.slots t
  rw [hb] at this
  obtain ⟨b, hv, hn⟩ := this
  subst hc
  exact wp_cond_split (t := b) hv (fun h => (h1 (hn h)).run C a w ⟨g, hg⟩) (fun _ => h2.run C a w ⟨g, hg⟩)⟩
/-! ### arrays -/
theorem indexAtA_run {w : World} {ty e : TypeId} {k len i : Nat} {kk : IntKind} {b of : Nat} (hT : P.underlying ty = some (.array len e)) (hk : P.cellsOf e = k) (h0 : 0 < k) (hi : i < len) :
    (Instr.indexAt ty (.pointer (some ⟨b, of, none⟩)) (.int kk (i : Int))).run P w = .ok (.pointer (some ⟨b, of + i * k, none⟩)) w := by
  have hel : P.elem ty = e := by unfold Program.elem; rw [hT]
  have hal : P.arrayLen ty = len := by unfold Program.arrayLen; rw [hT]
  rw [run_indexAt_array (h := by rw [hel, hal]; exact hT), hal, if_pos ⟨by omega, by omega⟩, hel, sizeOf_run hk h0]
  simp [Result.andThen, Addr.add_lit]
theorem u_indexA {ty e : TypeId} {x ix : Operand} {id vr off k i len : Nat} {kk : IntKind} {z : Int} (hp : Pl n o t) (ho : o.op = .indexAddr ty x ix) (hT : Und P ty (.array len e)) (hk : Siz P e k) (h0 : Nat.blt 0 k = true)
    (hx : S.opd x = .ptr id vr off) (hv : S.ver id = vr) (hi : S.opd ix = iC kk z) (hz : z = (i : Int)) (hlt : i < len) : OpOk n P ops o ((2 * id + 1) :: (opdN x ++ opdN ix)) (.ptr id vr (off + i * k)) [] S :=
  op_val hp fun C T g a w hA hR => by
    have h := opd_rep (x := x) hA (fun k h => by simp [h]) hR
    rw [hx] at h
    have h3 := raw_opd (x := ix) hA (fun k h => by simp [h]) hR hi
    have hv' := (hA.2 id (by simp)).2
    have hev := h.2 (by omega)
    refine ⟨.pointer (some ⟨g.ph id, off + i * k, none⟩), ?_, ⟨by omega, fun _ => rfl⟩⟩
    subst hz
    simp only [execOp, ho, hev, h3, Sem.run_bind, indexAtA_run hT.h hk.h (Nat.le_of_ble_eq_true h0) hlt]; rfl
theorem u_idxAgg {ty e : TypeId} {x ix : Operand} {i len : Nat} {kk : IntKind} {z : Int} {As : List PV} {A : PV} (hp : Pl n o t) (ho : o.op = .index ty x ix) (hT : Und P ty (.array len e)) (hk : Siz P e 1) (hE : AggC P e false)
    (hx : S.opd x = .per (aggP As)) (hi : S.opd ix = iC kk z) (hz : z = (i : Int)) (hlt : i < len) (hA0 : As[i]? = some A) : OpOk n P ops o (opdN x ++ opdN ix) (.per A) [] S :=
  op_val hp fun C T g a w hA hR => by
    have h := opd_rep (x := x) hA (fun k h => by simp [h]) hR
    rw [hx] at h
    obtain ⟨vs, hev, _, q⟩ := h
    obtain ⟨y, q1, _, q3⟩ := q i A hA0
    have h3 := raw_opd (x := ix) hA (fun k h => by simp [h]) hR hi
    obtain ⟨d, hd, hd'⟩ := hE.h
    refine ⟨y, ?_, q3⟩
    subst hz
    simp only [execOp, ho, hev, h3, Instr.index, asIntOf, Sem.run_bind, Sem.run_pure, Result.andThen_ok, run_underlying hT.h]
    rw [if_pos ⟨by omega, by omega⟩]
    simp only [Sem.run_bind, sizeOf_run hk.h (by decide), Result.andThen_ok, part, isAgg_run hd, hd']
    simp [q1]
end
theorem setL_set (l : List Cnt) (j : Nat) (c : Cnt) (h : j < l.length) : setL l j [c] = l.set j c := by
  unfold setL
  rw [List.set_eq_take_append_cons_drop, if_pos h]
  rfl
/-! ### contents said in weaker words -/
def ImpC (c c' : Cnt) : Prop := ∀ (C : Ctx) (vr : Nat → Nat) (g : Gh) (w : World) (v : Value), crep C vr g w v c → crep C vr g w v c'
theorem imp_nil {k : Nat} : ImpC (.per (rawP (.slice none 0 0))) (.per (lstP k [])) := fun C vr g w v h => by
  have h : v = .slice none 0 0 := h
  rw [h]
  exact ⟨none, 0, 0, 0, rfl, by simp, by decide, fun _ => rfl, by simp, fun i cs hi => by simp at hi⟩
theorem Le_cells {n : Nat} {S : St} (id e : Nat) {cells cells' : List Cnt} (hb : S.blk id = .box e cells) (hl : cells'.length = cells.length) (h : ∀ (j : Nat) (c c' : Cnt), cells[j]? = some c → cells'[j]? = some c' → ImpC c c') :
    Le n S (S.app none .any [(id, S.ver id, .box e cells')]) := by
  rintro C a w ⟨g, hR⟩
  have hvr : ∀ i, (S.app none .any [(id, S.ver id, .box e cells')]).ver i = S.ver i := fun i => by
    rw [St.app_some_ver]; split
    · rename_i e; rw [e]
    · rfl
  refine ⟨g, hR.defers, hR.tsz, hR.nle, hR.keep, hR.os, hR.tape, hR.output, hR.size, hR.old, hR.n0, hR.n0l, hR.dom, fun t => ?_, fun i => ?_⟩
  · rw [show (S.app none .any [(id, S.ver id, .box e cells')]).ver = S.ver from funext hvr, St.app_get]
    exact hR.slots t
  · rw [show (S.app none .any [(id, S.ver id, .box e cells')]).ver = S.ver from funext hvr, St.app_some_blk]
    split
    · rename_i hi
      subst hi
      have h0 := hR.blks i
      rw [hb] at h0
      obtain ⟨cs, q1, q2, q3, q4⟩ := h0
      refine ⟨cs, q1, q2, by rw [q3, hl], fun j c' hj => ?_⟩
      have hjl : j < cells.length := by have := (List.getElem?_eq_some_iff.1 hj).1; omega
      obtain ⟨y, r1, r2, r3⟩ := q4 j _ (List.getElem?_eq_getElem hjl)
      exact ⟨y, r1, r2, h j _ c' (List.getElem?_eq_getElem hjl) hj C _ g w y r3⟩
    · exact hR.blks i
end Go.Proofs.YtoiaegbmbhgdpaaGreat
