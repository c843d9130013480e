/- Single operations over abstract states: new blocks, loads and stores in them, indices, calls, results. No program in sight. -/
import Derived.Test.YtnpognmpgddncaaAbsOps
import Derived.Laws.CopyRow
namespace Go.Proofs.Ytnpognmpgddncaa
open Go.RowKit

def Gh.mk1 (g : Gh) (t q : Nat) (v : Value) : Gh := ⟨fun b => if b = q then some t else g.ow b, fun i => if i = t then q else g.ph i, fun i => if i = t then v else g.rh i⟩

section
variable {P : Program} {n : Nat} {ops : Array Oper} {o : Oper} {F : List Nat} {S T : St} {C : Ctx} {g : Gh} {a : Act} {w w' : World} {t : Nat}

theorem stp_mk {vr : Nat → Nat} {q : Nat} {v : Value} (hR : RG C n T g a w) (hx : Ext w w') (h1 : w.heap.size ≤ q) (h2 : q < w'.heap.size) {vr' : Nat → Nat} (hvr : T.ver = vr) (h : ∀ i, vr' i = if i = t then vr t + 1 else vr i) (hfx : isFix t = false) :
    Stp C (fun i => i = t) vr vr' g (g.mk1 t q v) w w' := by
  subst hvr
  refine ⟨hx.size, fun b hb _ => hx.block b hb, fun b hb _ => ?_, fun b hb hn => ?_, fun b id e => ?_, fun i => ?_, fun i hi => ?_, fun i hi => ?_, hx.os, hx.tape, hx.output⟩
  · show (if b = q then some t else g.ow b) = _
    rw [if_neg (by omega)]
  · change (if b = q then some t else g.ow b) ≠ none at hn
    rwa [if_neg (by omega)] at hn
  · change (if b = q then some t else g.ow b) = some id at e
    by_cases hb : b = q
    · subst hb; exact ⟨h2, .inl (Nat.le_trans hR.size h1)⟩
    · rw [if_neg hb] at e
      exact ⟨Nat.lt_of_lt_of_le (hR.dom b id e).1 hx.size, (hR.dom b id e).2⟩
  · rw [h]
    by_cases hi : i = t
    · subst hi; exact .inr ⟨rfl, by rw [if_pos rfl]; omega⟩
    · rw [if_neg hi]; exact .inl rfl
  · rw [h] at hi
    by_cases hit : i = t
    · subst hit; rw [if_pos rfl] at hi; omega
    · exact ⟨if_neg hit, if_neg hit⟩
  · have hit : i ≠ t := fun e => by subst e; rw [hfx] at hi; cases hi
    exact ⟨if_neg hit, if_neg hit⟩
theorem Pl.nofix (h : Pl n o t) (hR : RG C n T g a w) : isFix t = false := isFix_lt (by have := Nat.le_of_ble_eq_true h.2.2; have := hR.nle; omega)

/-- an operation that makes a block -/
theorem op_mk (hp : Pl n o t) {c : Cnt} {B : Blk} (hF : 2 * t + 1 ∈ F) (h : ∀ C T g a w, Agree F T S → RG C n T g a w → ∃ v w' q, (execOp a.eval o).run P w = .ok (.value v) w' ∧ Ext w w' ∧ w.heap.size ≤ q ∧ q < w'.heap.size ∧
      ∀ vr', (∀ i, vr' i = if i = t then S.ver t + 1 else T.ver i) → Stp C (fun i => i = t) T.ver vr' g (g.mk1 t q v) w w' → crep C vr' (g.mk1 t q v) w' v c ∧ brep C vr' (g.mk1 t q v) w' t B) :
    OpOk n P ops o F c [(t, S.ver t + 1, B)] S := by
  refine ⟨?_⟩
  intro C T hA a w ⟨g, hR⟩
  obtain ⟨v, w', q, h1, h2, h3, h4, h5⟩ := h C T g a w hA hR
  unfold Exec
  rw [if_pos (hp.wanted a)]
  unfold Oper.wp
  rw [h1, Oper.upon_value]
  have hv := (hA.2 t hF).2
  have hvr : ∀ i, (T.app o.dst c [(t, S.ver t + 1, B)]).ver i = if i = t then S.ver t + 1 else T.ver i := fun i => St.app_some_ver _ _ _ _ _ _ _
  have hst := stp_mk (v := v) hR h2 h3 h4 rfl (t := t) (vr' := (T.app o.dst c [(t, S.ver t + 1, B)]).ver) (by intro i; rw [hvr i, hv]) (hp.nofix hR)
  obtain ⟨h6, h7⟩ := h5 _ hvr hst
  exact ⟨g.mk1 t q v, hR.app1 hp.dOk hst h6 h7⟩

theorem alloc_lt (w : World) (ob : Obj) : w.heap.size < (w.alloc ob).heap.size := by
  rw [show (w.alloc ob).heap.size = w.heap.size + 1 by simp]; omega

/-- boxes made of what a value's cells read as -/
theorem brep_new {vs : Array Value} {e : TypeId} {cells : List Cnt} {vr' : Nat → Nat} {v : Value} (hsz : vs.size = cells.length)
    (h : ∀ (j : Nat) (c : Cnt), cells[j]? = some c → ∃ y, vs[j]? = some y ∧ y.oneCell' = true ∧ crep C vr' (g.mk1 t w.heap.size v) (w.alloc (.cells vs e)) y c) :
    brep C vr' (g.mk1 t w.heap.size v) (w.alloc (.cells vs e)) t (.box e cells) :=
  ⟨vs, by show (w.alloc (.cells vs e)).heap[if t = t then w.heap.size else g.ph t]? = _; rw [if_pos rfl]; exact heap_alloc_new w _,
   by show (if (if t = t then w.heap.size else g.ph t) = w.heap.size then some t else _) = some t; rw [if_pos rfl, if_pos rfl], hsz, h⟩
theorem crep_ptr_new {vr' : Nat → Nat} {q r : Nat} {v : Value} (h : vr' t = r) (hv : v = .pointer (some ⟨q, 0, none⟩)) : crep C vr' (g.mk1 t q v) w v (.ptr t r 0) :=
  ⟨by omega, fun _ => by rw [hv]; show _ = Value.pointer (some ⟨if t = t then q else g.ph t, 0, none⟩); rw [if_pos rfl]⟩

theorem op_box_agg {e : TypeId} {x : Operand} {cs : List PV} (hp : Pl n o t) (ho : o.op = .box e x) (hx : S.opd x = .per (aggP cs)) :
    OpOk n P ops o ((2 * t + 1) :: opdN x) (.ptr t (S.ver t + 1) 0) [(t, S.ver t + 1, .box e (cs.map .per))] S :=
  op_mk hp (by simp) fun C T g a w hA hR => by
    have h := opd_rep (x := x) hA (fun k h => by simp [h]) hR
    rw [hx] at h
    obtain ⟨vs, hv, h1, h2⟩ := h
    refine ⟨.pointer (some ⟨w.heap.size, 0, none⟩), w.alloc (.cells vs e), w.heap.size, ?_, (Ext.refl w).alloc _, Nat.le_refl _, alloc_lt _ _, fun vr' hvr hst => ⟨?_, ?_⟩⟩
    · simp only [execOp, ho, hv, Instr.box, newVar, newRow, Value.cells, newObj, Sem.run_bind, Sem.run_pure]
      rfl
    · exact crep_ptr_new (by rw [hvr, if_pos rfl]) rfl
    · refine brep_new (by simp [h1]) (fun j c hj => ?_)
      rw [List.getElem?_map] at hj
      cases hA : cs[j]? with
      | none => rw [hA] at hj; cases hj
      | some A =>
        rw [hA] at hj; cases hj
        obtain ⟨y, g1, g2, g3⟩ := h2 j A hA
        exact ⟨y, g1, g2, hst.crep (c := .per A) g3⟩
/-- values of one cell -/
def OneP (A : PV) : Prop := ∀ N w v, A.p N w v → v.oneCell' = true ∧ v.cells = #[v]
theorem oneP_raw {v : Value} (h : v.oneCell' = true) (h' : v.cells = #[v]) : OneP (rawP v) := fun _ _ _ e => by cases e; exact ⟨h, h'⟩
theorem oneP_lst {k : Nat} {es : List (List PV)} : OneP (lstP k es) := fun _ _ _ ⟨_, _, _, _, e, _⟩ => by subst e; exact ⟨rfl, rfl⟩
theorem oneP_rp {cs : List PV} : OneP (rptrP cs) := fun _ _ _ ⟨_, _, e, _⟩ => by subst e; exact ⟨rfl, rfl⟩
theorem op_box_one {e : TypeId} {x : Operand} {A : PV} (hp : Pl n o t) (ho : o.op = .box e x) (hx : S.opd x = .per A) (h1 : OneP A) :
    OpOk n P ops o ((2 * t + 1) :: opdN x) (.ptr t (S.ver t + 1) 0) [(t, S.ver t + 1, .box e [.per A])] S :=
  op_mk hp (by simp) fun C T g a w hA hR => by
    have h := opd_rep (x := x) hA (fun k h => by simp [h]) hR
    rw [hx] at h
    obtain ⟨g1, g2⟩ := h1 _ _ _ h
    refine ⟨.pointer (some ⟨w.heap.size, 0, none⟩), w.alloc (.cells #[a.eval x] e), w.heap.size, ?_, (Ext.refl w).alloc _, Nat.le_refl _, alloc_lt _ _, fun vr' hvr hst => ⟨?_, ?_⟩⟩
    · simp only [execOp, ho, Instr.box, newVar, newRow, g2, newObj, Sem.run_bind, Sem.run_pure]
      rfl
    · exact crep_ptr_new (by rw [hvr, if_pos rfl]) rfl
    · refine brep_new rfl (fun j c hj => ?_)
      cases j with
      | zero => simp at hj; subst hj; exact ⟨_, rfl, g1, hst.crep (c := .per A) h⟩
      | succ j => simp at hj
theorem op_alloc {e : TypeId} {z : Value} (hp : Pl n o t) (ho : o.op = .alloc e) (hz : (P.info? e).bind (·.zero) = some z) (h1 : z.cells.toList.all (·.oneCell') = true) :
    OpOk n P ops o [2 * t + 1] (.ptr t (S.ver t + 1) 0) [(t, S.ver t + 1, .box e (z.cells.toList.map rawC))] S :=
  op_mk hp (by simp) fun C T g a w hA hR => by
    have hzv : (zeroValue e).run P w = .ok z w := by
      cases hi : P.info? e with
      | none => rw [hi] at hz; cases hz
      | some i =>
        rw [hi] at hz
        simp only [Option.bind_some] at hz
        simp [zeroValue, typeInfo, program, Sem.run, hi, hz]
    refine ⟨.pointer (some ⟨w.heap.size, 0, none⟩), w.alloc (.cells z.cells e), w.heap.size, ?_, (Ext.refl w).alloc _, Nat.le_refl _, alloc_lt _ _, fun vr' hvr hst => ⟨?_, ?_⟩⟩
    · simp only [execOp, ho, Instr.alloc, newVar, newRow, newObj, Sem.run_bind, Sem.run_pure, hzv, Result.andThen_ok]
      rfl
    · exact crep_ptr_new (by rw [hvr, if_pos rfl]) rfl
    · refine brep_new (by simp) (fun j c hj => ?_)
      rw [List.getElem?_map] at hj
      cases hv : z.cells.toList[j]? with
      | none => rw [hv] at hj; cases hj
      | some y =>
        rw [hv] at hj; cases hj
        refine ⟨y, by simpa using hv, ?_, rfl⟩
        rw [List.all_eq_true] at h1
        exact h1 y (List.mem_of_getElem? hv)

/-- the cells of a box, known through its address -/
theorem box_at {x : Operand} {id vr off : Nat} {e : TypeId} {cells : List Cnt} (hA : Agree F T S) (hF : ∀ k ∈ opdN x, k ∈ F) (hF' : 2 * id + 1 ∈ F) (hR : RG C n T g a w) (hx : S.opd x = .ptr id vr off) (hv : S.ver id = vr) (hb : S.blk id = .box e cells) :
    a.eval x = .pointer (some ⟨g.ph id, off, none⟩) ∧ ∃ cs : Array Value, w.heap[g.ph id]? = some (.cells cs e (0, 0)) ∧ g.ow (g.ph id) = some id ∧ cs.size = cells.length ∧
      ∀ (j : Nat) (c : Cnt), cells[j]? = some c → ∃ y, cs[j]? = some y ∧ y.oneCell' = true ∧ crep C T.ver g w y c := by
  have h := opd_rep hA hF hR
  rw [hx] at h
  have h2 := hA.2 id hF'
  have h3 := hR.blks id
  rw [h2.1, hb] at h3
  exact ⟨h.2 (by rw [h2.2, hv]), h3⟩
theorem cell_at {w : World} {q : Nat} {cs : Array Value} {e : TypeId} {fz : Nat × Nat} (h : w.heap[q]? = some (.cells cs e fz)) (j : Nat) : w.cell? ⟨q, j, none⟩ = cs[j]? := cell_of_row w q j _ _ _ h

theorem op_load1 {ty : TypeId} {d : TypeDesc} {x : Operand} {id vr off : Nat} {e : TypeId} {cells : List Cnt} {c : Cnt} (hp : Pl n o t) (ho : o.op = .load ty x) (hT : P.underlying ty = some d) (hd : isAggD d = false)
    (hx : S.opd x = .ptr id vr off) (hv : S.ver id = vr) (hb : S.blk id = .box e cells) (hc : cells[off]? = some c) : OpOk n P ops o ((2 * id + 1) :: opdN x) c [] S :=
  op_val hp fun C T g a w hA hR => by
    obtain ⟨h1, cs, h2, _, _, h5⟩ := box_at hA (fun k h => by simp [h]) (by simp) hR hx hv hb
    obtain ⟨y, g1, g2, g3⟩ := h5 off c hc
    refine ⟨y, ?_, g3⟩
    simp only [execOp, ho, h1, Sem.run_bind, loadAt_one (b := g.ph id) (o := off) hT hd (by rw [cell_at h2]; exact g1)]; rfl
def perL : List Cnt → Option (List PV)
  | [] => some []
  | .per A :: l => match perL l with
    | some r => some (A :: r)
    | none => none
  | _ => none
theorem perL_spec : ∀ {l : List Cnt} {r : List PV}, perL l = some r → l = r.map .per := by
  intro l
  induction l with
  | nil => intro r h; cases h; rfl
  | cons c l ih =>
    intro r h
    unfold perL at h
    split at h
    · cases ‹_ :: _ = []›
    · rename_i A l' he
      cases he
      split at h
      · rename_i r' hr; cases h; rw [ih hr]; rfl
      · cases h
    · cases h
theorem op_loadA {ty : TypeId} {d : TypeDesc} {x : Operand} {id vr off k : Nat} {e : TypeId} {cells : List Cnt} {As : List PV} (hp : Pl n o t) (ho : o.op = .load ty x) (hT : P.underlying ty = some d) (hd : isAggD d = true) (hk : P.cellsOf ty = k) (h0 : Nat.blt 0 k = true)
    (hx : S.opd x = .ptr id vr off) (hv : S.ver id = vr) (hb : S.blk id = .box e cells) (hl : Nat.ble (off + k) cells.length = true) (hc : perL ((cells.drop off).take k) = some As) : OpOk n P ops o ((2 * id + 1) :: opdN x) (.per (aggP As)) [] S :=
  op_val hp fun C T g a w hA hR => by
    obtain ⟨h1, cs, h2, _, _, h5⟩ := box_at hA (fun k h => by simp [h]) (by simp) hR hx hv hb
    have h0 := Nat.le_of_ble_eq_true h0
    have hl := Nat.le_of_ble_eq_true hl
    have hm := perL_spec hc
    have hlen : As.length = k := by
      have := congrArg List.length hm
      simp at this; omega
    obtain ⟨vs, g1, g2, g3⟩ := list_of_cells (N := g.N C) (w := w) (f := fun j => w.cell? ⟨g.ph id, off + j, none⟩) As (fun j A hj => by
      have hcj : cells[off + j]? = some (.per A) := by
        have : ((cells.drop off).take k)[j]? = some (.per A) := by rw [hm, List.getElem?_map, hj]; rfl
        rw [List.getElem?_take] at this
        split at this
        · rw [List.getElem?_drop] at this; exact this
        · cases this
      obtain ⟨y, q1, q2, q3⟩ := h5 _ _ hcj
      exact ⟨y, by rw [cell_at h2]; exact q1, q2, q3⟩)
    refine ⟨.agg vs.toArray, ?_, ⟨vs.toArray, rfl, g3⟩⟩
    simp only [execOp, ho, h1, Sem.run_bind, loadAt_agg (b := g.ph id) (o := off) hT hd (by rw [hk, g1, hlen]) (by omega) g2]; rfl
theorem op_field {ty f fo : Nat} {x : Operand} {id vr off : Nat} (hp : Pl n o t) (ho : o.op = .fieldAddr ty x f) (hf : Fld P ty f fo) (hx : S.opd x = .ptr id vr off) (hv : S.ver id = vr) :
    OpOk n P ops o ((2 * id + 1) :: opdN x) (.ptr id vr (off + fo)) [] S :=
  op_val hp fun C T g a w hA hR => by
    obtain ⟨fs, fld, k, h1, h2, h3, h4, h5⟩ := hf.ex
    have h := opd_rep (x := x) hA (fun k h => by simp [h]) hR
    rw [hx] at h
    have hv' := (hA.2 id (by simp)).2
    have hev := h.2 (by omega)
    refine ⟨.pointer (some ⟨g.ph id, off + fo, none⟩), ?_, ⟨by omega, fun _ => rfl⟩⟩
    simp only [execOp, ho, hev, Sem.run_bind, fieldAt_run (b := g.ph id) (o := off) h1 h2 h3 h4 h5]; rfl

/-! stores -/
theorem stp_set {e : TypeId} {cs cs' : Array Value} {id : Nat} {q : Nat} (hR : RG C n T g a w) (hq : q = g.ph id) (hh : w.heap[q]? = some (.cells cs e (0, 0))) (how : g.ow q = some id) : Stp C (fun i => i = id) T.ver T.ver g g w (w.setRow q cs') := by
  subst hq
  have hlt := (hR.dom _ _ how).1
  refine ⟨by simp [World.setRow], fun b hb hn => ?_, fun b _ _ => rfl, fun b _ h => h, fun b i e => by have := hR.dom b i e; simpa [World.setRow] using this, fun _ => .inl rfl, fun _ _ => ⟨rfl, rfl⟩, fun _ _ => ⟨rfl, rfl⟩, rfl, rfl, rfl⟩
  have : b ≠ g.ph id := fun e => hn id rfl (by rw [e]; exact how)
  simp [World.setRow, Array.getElem?_modify, Ne.symm this]
end
end Go.Proofs.Ytnpognmpgddncaa
