/- More operations: references in boxes and structs, nil, function values, stores into rows, guards parted. No program in sight. -/
import Derived.Test.YtnpognmpgddncaaAbsM
import Derived.Laws.Pointers
namespace Go.Proofs.Ytnpognmpgddncaa
open Go.RowKit

section
variable {P : Program} {n : Nat} {ops : Array Oper} {o : Oper} {F : List Nat} {S T : St} {C : Ctx} {g : Gh} {a : Act} {w w' : World} {t : Nat}

/-! ### structs with references in them -/
def aggOf : List Cnt → Cnt
  | [] => .aggN
  | c :: r => .aggK c (aggOf r)
/-- a struct's cells -/
def cellsL : Cnt → Option (List Cnt)
  | .aggN => some []
  | .aggK c r => (cellsL r).map (c :: ·)
  | _ => none
theorem cellsL_spec : ∀ {c : Cnt} {l : List Cnt}, cellsL c = some l → c = aggOf l := by
  intro c
  induction c with
  | aggN => intro l h; cases h; rfl
  | aggK c r _ ih2 =>
    intro l h
    simp only [cellsL] at h
    cases hr : cellsL r with
    | none => rw [hr] at h; cases h
    | some l' => rw [hr] at h; cases h; rw [ih2 hr]; rfl
  | _ => intro l h; cases h
/-- what cells read as -/
def cellsQ (C : Ctx) (vr : Nat → Nat) (g : Gh) (w : World) (vs : List Value) (cs : List Cnt) : Prop :=
  vs.length = cs.length ∧ ∀ (j : Nat) (c : Cnt), cs[j]? = some c → ∃ y, vs[j]? = some y ∧ y.oneCell' = true ∧ crep C vr g w y c
theorem crep_agg {vr : Nat → Nat} : ∀ {cs : List Cnt} {v : Value}, crep C vr g w v (aggOf cs) ↔ ∃ vs : List Value, v = .agg vs.toArray ∧ cellsQ C vr g w vs cs := by
  intro cs
  induction cs with
  | nil =>
    intro v
    constructor
    · intro h; exact ⟨[], h, rfl, fun j c hj => by simp at hj⟩
    · rintro ⟨vs, h, h1, _⟩
      obtain rfl : vs = [] := List.eq_nil_of_length_eq_zero (by simpa using h1)
      exact h
  | cons c cs ih =>
    intro v
    constructor
    · rintro ⟨x, vs, h, h1, h2, h3⟩
      obtain ⟨vs', e, q1, q2⟩ := ih.1 h3
      have : vs = vs' := by simpa using e
      subst this
      refine ⟨x :: vs, h, by simp [q1], fun j c' hj => ?_⟩
      cases j with
      | zero => simp at hj; subst hj; exact ⟨x, rfl, h1, h2⟩
      | succ j => exact q2 j c' (by simpa using hj)
    · rintro ⟨vs, h, q1, q2⟩
      cases vs with
      | nil => simp at q1
      | cons x vs =>
        obtain ⟨y, r1, r2, r3⟩ := q2 0 c rfl
        simp at r1; subst r1
        exact ⟨x, vs, h, r2, r3, ih.2 ⟨vs, rfl, by simpa using q1, fun j c' hj => q2 (j + 1) c' (by simpa using hj)⟩⟩

/-! ### contents of one cell -/
def OneC (F : List Nat) (S : St) (c : Cnt) : Prop := ∀ (n : Nat) (C : Ctx) (T : St) (g : Gh) (a : Act) (w : World) (v : Value), Agree F T S → RG C n T g a w → crep C T.ver g w v c → v.oneCell' = true ∧ v.cells = #[v]
theorem oneC_per {A : PV} (h : OneP A) : OneC F S (.per A) := fun _ _ _ _ _ _ _ _ _ hc => h _ _ _ hc
theorem oneC_ptr {id vr off : Nat} (hv : S.ver id = vr) (hF : 2 * id + 1 ∈ F) : OneC F S (.ptr id vr off) := fun n C T g a w v hA hR hc => by
  rw [hc.2 (by rw [(hA.2 id hF).2, hv])]; exact ⟨rfl, rfl⟩
theorem oneC_row {id vr e k : Nat} {es : List (List PV)} (hv : S.ver id = vr) (hb : S.blk id = .row e k es) (hF : 2 * id + 1 ∈ F) : OneC F S (.row id vr) := fun n C T g a w v hA hR hc => by
  rw [hc.2 (by rw [(hA.2 id hF).2, hv])]
  have h := hR.blks id
  rw [(hA.2 id hF).1, hb] at h
  rcases h with ⟨h1, _⟩ | ⟨cap, cs, h1, _⟩ <;> (rw [h1]; exact ⟨rfl, rfl⟩)
theorem oneC_obj {id vr : Nat} {A : OV} (hv : S.ver id = vr) (hb : S.blk id = .obj A) (hF : 2 * id + 1 ∈ F) : OneC F S (.row id vr) := fun n C T g a w v hA hR hc => by
  rw [hc.2 (by rw [(hA.2 id hF).2, hv])]
  have h := hR.blks id
  rw [(hA.2 id hF).1, hb] at h
  exact A.one h
theorem oneC_clo1 {f : FuncId} {c : Cnt} : OneC F S (.clo1 f c) := fun n C T g a w v hA hR hc => by obtain ⟨x, e, _⟩ := hc; rw [e]; exact ⟨rfl, rfl⟩
theorem oneC_clo2 {f : FuncId} {c d : Cnt} : OneC F S (.clo2 f c d) := fun n C T g a w v hA hR hc => by obtain ⟨x, y, e, _⟩ := hc; rw [e]; exact ⟨rfl, rfl⟩
theorem oneC_clo3 {f : FuncId} {c d e : Cnt} : OneC F S (.clo3 f c d e) := fun n C T g a w v hA hR hc => by obtain ⟨x, y, z, e, _⟩ := hc; rw [e]; exact ⟨rfl, rfl⟩

theorem op_box_c {e : TypeId} {x : Operand} {c : Cnt} (hp : Pl n o t) (ho : o.op = .box e x) (hx : S.opd x = c) (hF : ∀ k ∈ opdN x, k ∈ F) (hFt : 2 * t + 1 ∈ F) (h1 : OneC F S c) :
    OpOk n P ops o F (.ptr t (S.ver t + 1) 0) [(t, S.ver t + 1, .box e [c])] S :=
  op_mk hp hFt fun C T g a w hA hR => by
    have h := opd_rep (x := x) hA hF hR
    rw [hx] at h
    obtain ⟨g1, g2⟩ := h1 _ _ _ _ _ _ _ hA hR h
    refine ⟨.pointer (some ⟨w.heap.size, 0, none⟩), w.alloc (.cells #[a.eval x] e), w.heap.size, ?_, (Ext.refl w).alloc _, Nat.le_refl _, alloc_lt _ _, fun vr' hvr hst => ⟨?_, ?_⟩⟩
    · simp only [execOp, ho, Instr.box, newVar, newRow, g2, newObj, Sem.run_bind, Sem.run_pure]
      rfl
    · exact crep_ptr_new (by rw [hvr, if_pos rfl]) rfl
    · refine brep_new rfl (fun j c' hj => ?_)
      cases j with
      | zero => simp at hj; subst hj; exact ⟨_, rfl, g1, hst.crep h⟩
      | succ j => simp at hj
theorem op_box_aggC {e : TypeId} {x : Operand} {cs : List Cnt} (hp : Pl n o t) (ho : o.op = .box e x) (hx : cellsL (S.opd x) = some cs) :
    OpOk n P ops o ((2 * t + 1) :: opdN x) (.ptr t (S.ver t + 1) 0) [(t, S.ver t + 1, .box e cs)] S :=
  op_mk hp (by simp) fun C T g a w hA hR => by
    have h := opd_rep (x := x) hA (fun k h => by simp [h]) hR
    rw [cellsL_spec hx] at h
    obtain ⟨vs, hv, h1, h2⟩ := crep_agg.1 h
    refine ⟨.pointer (some ⟨w.heap.size, 0, none⟩), w.alloc (.cells vs.toArray e), w.heap.size, ?_, (Ext.refl w).alloc _, Nat.le_refl _, alloc_lt _ _, fun vr' hvr hst => ⟨?_, ?_⟩⟩
    · simp only [execOp, ho, hv, Instr.box, newVar, newRow, Value.cells, newObj, Sem.run_bind, Sem.run_pure]
      rfl
    · exact crep_ptr_new (by rw [hvr, if_pos rfl]) rfl
    · refine brep_new (by simp [h1]) (fun j c hj => ?_)
      obtain ⟨y, g1, g2, g3⟩ := h2 j c hj
      exact ⟨y, by simpa using g1, g2, hst.crep g3⟩
/-! stores and loads of references -/
theorem op_store_genF {ty : TypeId} {x y : Operand} {id vr off k : Nat} {e : TypeId} {cells new : List Cnt} (hp : Pl0 o) (ho : o.op = .store ty x y) (hk : P.cellsOf ty = k) (h0 : Nat.blt 0 k = true)
    (hx : S.opd x = .ptr id vr off) (hv : S.ver id = vr) (hb : S.blk id = .box e cells) (hl : Nat.ble (off + k) cells.length = true) (hnl : new.length = k) (hF0 : 2 * id + 1 ∈ F) (hFx : ∀ k ∈ opdN x, k ∈ F)
    (hy : ∀ C T g a w, Agree F T S → RG C n T g a w → (a.eval y).cells.size = k ∧ ∀ (j : Nat) (c : Cnt), new[j]? = some c → ∃ u, (a.eval y).cells[j]? = some u ∧ u.oneCell' = true ∧ crep C T.ver g w u c) :
    OpOk n P ops o F .any [(id, vr, .box e (setL cells off new))] S := by
  refine ⟨?_⟩
  intro C T hA a w ⟨g, hR⟩
  obtain ⟨h1, cs, h2, h3, h4, h5⟩ := box_at hA hFx hF0 hR hx hv hb
  obtain ⟨hys, hyc⟩ := hy C T g a w hA hR
  have h0 := Nat.le_of_ble_eq_true h0
  have hl := Nat.le_of_ble_eq_true hl
  have hvt := (hA.2 id hF0).2
  unfold Exec
  rw [if_pos (by simp [Region.wanted, hp.1])]
  unfold Oper.wp
  have hone : ∀ u ∈ (a.eval y).cells.toList, u.oneCell' = true := by
    intro u hu
    obtain ⟨j, hj, rfl⟩ := List.getElem_of_mem hu
    have hj' : j < new.length := by rw [hnl, ← hys]; simpa using hj
    obtain ⟨u', g1, g2, _⟩ := hyc j new[j] (by simp [hj'])
    have : (a.eval y).cells.toList[j] = u' := by
      have := g1; simp at hj; rw [Array.getElem?_eq_getElem hj] at this; simpa using this
    rw [this]; exact g2
  have hrun := storeAt_run (P := P) (ty := ty) (off := off) h2 (by rw [hk, hys]) (by omega) (by omega) hone
  have hex : (execOp a.eval o).run P w = .ok .skip (w.setRow (g.ph id) (cs.toList.take off ++ (a.eval y).cells.toList ++ cs.toList.drop (off + (a.eval y).cells.size)).toArray) := by
    simp only [execOp, ho, h1, Sem.run_bind, hrun]; rfl
  rw [hex, Oper.upon_skip]
  have hst := stp_set (cs' := (cs.toList.take off ++ (a.eval y).cells.toList ++ cs.toList.drop (off + (a.eval y).cells.size)).toArray) hR rfl h2 h3
  have hver : (T.app o.dst .any [(id, vr, .box e (setL cells off new))]).ver = T.ver := by
    funext i
    rw [St.app_some_ver]
    split
    · rename_i h; subst h; rw [hvt, hv]
    · rfl
  refine ⟨g, hR.app1 (c := .any) (fun t h => by rw [hp.2] at h; cases h) (by rw [hver]; exact hst) trivial ?_⟩
  rw [hver]
  refine ⟨_, setRow_heap _ _ _ _ _ _ h2, h3, ?_, fun j c hj => ?_⟩
  · simp [setL]; omega
  · unfold setL at hj
    have hta : (cells.take off).length = off := by simp; omega
    have htb : (cs.toList.take off).length = off := by simp; omega
    rcases Nat.lt_or_ge j off with hlt | hge
    · rw [List.getElem?_append_left (by omega), List.getElem?_take, if_pos hlt] at hj
      obtain ⟨u, q1, q2, q3⟩ := h5 j c hj
      refine ⟨u, ?_, q2, hst.crep q3⟩
      rw [List.getElem?_toArray, List.append_assoc, List.getElem?_append_left (by omega), List.getElem?_take, if_pos hlt]
      simpa using q1
    · rw [List.getElem?_append_right (by omega), hta] at hj
      rcases Nat.lt_or_ge j (off + k) with hlt | hge2
      · rw [List.getElem?_append_left (by omega)] at hj
        obtain ⟨u, q1, q2, q3⟩ := hyc _ c hj
        refine ⟨u, ?_, q2, hst.crep q3⟩
        rw [List.getElem?_toArray, List.append_assoc, List.getElem?_append_right (by omega), htb, List.getElem?_append_left (by simp; omega)]
        simpa using q1
      · rw [List.getElem?_append_right (by omega), hnl, List.getElem?_drop] at hj
        obtain ⟨u, q1, q2, q3⟩ := h5 _ c hj
        refine ⟨u, ?_, q2, hst.crep q3⟩
        rw [List.getElem?_toArray, List.append_assoc, List.getElem?_append_right (by omega), htb, List.getElem?_append_right (by simp; omega), List.getElem?_drop]
        simp only [Array.length_toList, hys, Array.getElem?_toList]
        rw [← q1]
theorem op_store_c {ty : TypeId} {x y : Operand} {id vr off : Nat} {e : TypeId} {cells : List Cnt} {c : Cnt} (hp : Pl0 o) (ho : o.op = .store ty x y) (hk : P.cellsOf ty = 1)
    (hx : S.opd x = .ptr id vr off) (hv : S.ver id = vr) (hb : S.blk id = .box e cells) (hl : Nat.ble (off + 1) cells.length = true) (hy : S.opd y = c) (hF0 : 2 * id + 1 ∈ F) (hFx : ∀ k ∈ opdN x, k ∈ F) (hFy : ∀ k ∈ opdN y, k ∈ F) (h1 : OneC F S c) :
    OpOk n P ops o F .any [(id, vr, .box e (setL cells off [c]))] S :=
  op_store_genF hp ho hk rfl hx hv hb hl rfl hF0 hFx fun C T g a w hA hR => by
    have h := opd_rep (x := y) hA hFy hR
    rw [hy] at h
    obtain ⟨g1, g2⟩ := h1 _ _ _ _ _ _ _ hA hR h
    rw [g2]
    refine ⟨rfl, fun j c' hj => ?_⟩
    cases j with
    | zero => simp at hj; subst hj; exact ⟨_, rfl, g1, h⟩
    | succ j => simp at hj
theorem op_store_aggC {ty : TypeId} {x y : Operand} {id vr off k : Nat} {e : TypeId} {cells cs : List Cnt} (hp : Pl0 o) (ho : o.op = .store ty x y) (hk : P.cellsOf ty = k) (h0 : Nat.blt 0 k = true)
    (hx : S.opd x = .ptr id vr off) (hv : S.ver id = vr) (hb : S.blk id = .box e cells) (hl : Nat.ble (off + k) cells.length = true) (hy : cellsL (S.opd y) = some cs) (hn : Nat.beq cs.length k = true) :
    OpOk n P ops o ((2 * id + 1) :: (opdN x ++ opdN y)) .any [(id, vr, .box e (setL cells off cs))] S :=
  op_store_genF hp ho hk h0 hx hv hb hl (nbeq_true.1 hn) (by simp) (fun k h => by simp [h]) fun C T g a w hA hR => by
    have h := opd_rep (x := y) hA (fun k h => by simp [h]) hR
    rw [cellsL_spec hy] at h
    obtain ⟨vs, hv, q1, q2⟩ := crep_agg.1 h
    rw [hv]
    refine ⟨by show vs.toArray.size = k; have := nbeq_true.1 hn; simp; omega, fun j c hj => ?_⟩
    obtain ⟨y', s1, s2, s3⟩ := q2 j c hj
    exact ⟨y', by show vs.toArray[j]? = _; simpa using s1, s2, s3⟩
theorem op_loadC {ty : TypeId} {d : TypeDesc} {x : Operand} {id vr off k : Nat} {e : TypeId} {cells : List Cnt} (hp : Pl n o t) (ho : o.op = .load ty x) (hT : P.underlying ty = some d) (hd : isAggD d = true) (hk : P.cellsOf ty = k) (h0 : Nat.blt 0 k = true)
    (hx : S.opd x = .ptr id vr off) (hv : S.ver id = vr) (hb : S.blk id = .box e cells) (hl : Nat.ble (off + k) cells.length = true) : OpOk n P ops o ((2 * id + 1) :: opdN x) (aggOf ((cells.drop off).take k)) [] S :=
  op_val hp fun C T g a w hA hR => by
    obtain ⟨h1, cs, h2, _, h4, h5⟩ := box_at hA (fun k h => by simp [h]) (by simp) hR hx hv hb
    have h0 := Nat.le_of_ble_eq_true h0
    have hl := Nat.le_of_ble_eq_true hl
    have hcell : ∀ (j : Nat) (u : Value), ((cs.toList.drop off).take k)[j]? = some u → w.cell? ⟨g.ph id, off + j, none⟩ = some u := by
      intro j u hj
      rw [List.getElem?_take] at hj
      split at hj
      · rw [List.getElem?_drop] at hj
        rw [cell_at h2]; simpa using hj
      · cases hj
    have hlen : ((cs.toList.drop off).take k).length = k := by simp; omega
    refine ⟨.agg ((cs.toList.drop off).take k).toArray, ?_, crep_agg.2 ⟨_, rfl, by simp; omega, fun j c hj => ?_⟩⟩
    · simp only [execOp, ho, h1, Sem.run_bind, loadAt_agg (b := g.ph id) (o := off) hT hd (by rw [hk, hlen]) (by omega) hcell]; rfl
    · rw [List.getElem?_take] at hj
      split at hj
      · rename_i hjk
        rw [List.getElem?_drop] at hj
        obtain ⟨y, q1, q2, q3⟩ := h5 _ _ hj
        exact ⟨y, by rw [List.getElem?_take, if_pos hjk, List.getElem?_drop]; simpa using q1, q2, q3⟩
      · cases hj
/-! struct literals with references -/
def setC (zs : List Cnt) (off : Nat) (ps : List Cnt) : List Cnt := zs.take off ++ (ps ++ zs.drop (off + ps.length))
def fillC (place : Nat → Option (Nat × Nat)) (zs : List Cnt) : List (Nat × List Cnt) → Option (List Cnt)
  | [] => some zs
  | (i, ps) :: rest => match place i with
    | none => none
    | some (off, size) => bif Nat.beq ps.length size && Nat.ble (off + size) zs.length then fillC place (setC zs off ps) rest else none
theorem cellsQ_set {vr : Nat → Nat} {cs : Array Value} {zs ps : List Cnt} {off : Nat} {vs : Array Value} (h : cellsQ C vr g w cs.toList zs) (hv : cellsQ C vr g w vs.toList ps) (hl : off + ps.length ≤ zs.length) :
    cellsQ C vr g w (vs.zipIdx.foldl (fun cs (c, j) => cs.setIfInBounds (off + j) c) cs).toList (setC zs off ps) := by
  have hvs : vs.size = ps.length := by simpa using hv.1
  have hcs : cs.size = zs.length := by simpa using h.1
  have hz : vs.zipIdx.foldl (fun cs (c, j) => cs.setIfInBounds (off + j) c) cs = (vs.toList.zipIdx 0).foldl (fun cs (c, j) => cs.setIfInBounds (off + j) c) cs := by
    rw [← Array.foldl_toList, Array.toList_zipIdx]
  rw [hz]
  have hf := fun i => foldl_set vs.toList 0 off cs i (by simp; omega)
  refine ⟨by rw [Array.length_toList, (hf 0).1]; simp [setC]; omega, fun j A hj => ?_⟩
  rw [Array.getElem?_toList, (hf j).2]
  unfold setC at hj
  have hta : (zs.take off).length = off := by simp; omega
  simp only [Nat.add_zero, Array.length_toList]
  rcases Nat.lt_or_ge j off with hlt | hge
  · rw [List.getElem?_append_left (by omega), List.getElem?_take, if_pos hlt] at hj
    rw [if_neg (by omega)]
    have := h.2 j A hj
    simpa using this
  · rw [List.getElem?_append_right (by omega), hta] at hj
    rcases Nat.lt_or_ge j (off + ps.length) with hlt | hge2
    · rw [List.getElem?_append_left (by omega)] at hj
      rw [if_pos ⟨by omega, by omega⟩]
      exact hv.2 _ A hj
    · rw [List.getElem?_append_right (by omega), List.getElem?_drop] at hj
      rw [if_neg (by omega)]
      have := h.2 _ A hj
      rw [show off + ps.length + (j - off - ps.length) = j by omega] at this
      simpa using this
def PartC (F : List Nat) (S : St) (x : Operand) (ps : List Cnt) : Prop := (∃ As, S.opd x = .per (aggP As) ∧ ps = As.map .per) ∨ (∃ c, S.opd x = c ∧ OneC F S c ∧ ps = [c]) ∨ cellsL (S.opd x) = some ps
theorem partC_agg {x : Operand} {As : List PV} (h : S.opd x = .per (aggP As)) : PartC F S x (As.map .per) := .inl ⟨As, h, rfl⟩
theorem partC_one {x : Operand} {c : Cnt} (h : S.opd x = c) (h1 : OneC F S c) : PartC F S x [c] := .inr (.inl ⟨c, h, h1, rfl⟩)
theorem partC_l {x : Operand} {ps : List Cnt} (h : cellsL (S.opd x) = some ps) : PartC F S x ps := .inr (.inr h)
inductive PartsC (F : List Nat) (S : St) : List (Nat × Operand) → List (Nat × List Cnt) → Prop
  | nil : PartsC F S [] []
  | cons {i : Nat} {x : Operand} {ps : List Cnt} {l : List (Nat × Operand)} {l' : List (Nat × List Cnt)} (h : PartC F S x ps) (k : PartsC F S l l') : PartsC F S ((i, x) :: l) ((i, ps) :: l')
theorem PartC.rep {x : Operand} {ps : List Cnt} (h : PartC F S x ps) (hA : Agree F T S) (hF : ∀ k ∈ opdN x, k ∈ F) (hR : RG C n T g a w) : cellsQ C T.ver g w (a.eval x).cells.toList ps := by
  have hr := opd_rep (x := x) hA hF hR
  rcases h with ⟨As, h, rfl⟩ | ⟨c, h, h1, rfl⟩ | h
  · rw [h] at hr
    obtain ⟨vs, hv, hc⟩ := hr
    rw [hv]
    refine ⟨by show vs.toList.length = _; simpa using hc.1, fun j c hj => ?_⟩
    rw [List.getElem?_map] at hj
    cases hA' : As[j]? with
    | none => rw [hA'] at hj; cases hj
    | some A =>
      rw [hA'] at hj; cases hj
      obtain ⟨y, q1, q2, q3⟩ := hc.2 j A hA'
      exact ⟨y, by show vs.toList[j]? = _; simpa using q1, q2, q3⟩
  · rw [h] at hr
    obtain ⟨q1, q2⟩ := h1 _ _ _ _ _ _ _ hA hR hr
    rw [q2]
    refine ⟨rfl, fun j c' hj => ?_⟩
    cases j with
    | zero => simp at hj; subst hj; exact ⟨_, rfl, q1, hr⟩
    | succ j => simp at hj
  · rw [cellsL_spec h] at hr
    obtain ⟨vs, hv, hc⟩ := crep_agg.1 hr
    rw [hv]; exact hc
theorem fillC_rep {place : Nat → Option (Nat × Nat)} {parts : List (Nat × Operand)} {pps : List (Nat × List Cnt)} (h : PartsC F S parts pps) (hA : Agree F T S) (hF : ∀ k ∈ partsN parts, k ∈ F) (hR : RG C n T g a w) :
    ∀ {cells : Array Value} {zs cs : List Cnt}, cellsQ C T.ver g w cells.toList zs → fillC place zs pps = some cs → ∃ out, Instr.fill place cells (parts.map fun (i, x) => (i, a.eval x)) = some out ∧ cellsQ C T.ver g w out.toList cs := by
  induction h with
  | nil => intro cells zs cs hc hf; cases hf; exact ⟨cells, rfl, hc⟩
  | @cons i x ps l l' h k ih =>
    intro cells zs cs hc hf
    have hx := h.rep hA (fun k hk => hF k (by simp [partsN, hk])) hR
    unfold fillC at hf
    cases hp : place i with
    | none => simp only [hp] at hf; cases hf
    | some p =>
      obtain ⟨off, size⟩ := p
      simp only [hp] at hf
      cases hb : (Nat.beq ps.length size && Nat.ble (off + size) zs.length) with
      | false => rw [hb] at hf; cases hf
      | true =>
        rw [hb] at hf
        simp only [cond_true] at hf
        rw [Bool.and_eq_true] at hb
        have h1 := nbeq_true.1 hb.1
        have h2 := Nat.le_of_ble_eq_true hb.2
        have hcs : cells.size = zs.length := by simpa using hc.1
        have hxs : (a.eval x).cells.size = ps.length := by simpa using hx.1
        obtain ⟨out, q1, q2⟩ := ih (fun k hk => hF k (by simp only [partsN, List.flatMap_cons, List.mem_append]; exact .inr hk)) (cellsQ_set (off := off) hc hx (by omega)) hf
        refine ⟨out, ?_, q2⟩
        simp only [List.map_cons, Instr.fill, hp]
        rw [if_neg (by simp only [ne_eq, gt_iff_lt, Bool.or_eq_true, decide_eq_true_eq, not_or, Decidable.not_not]; exact ⟨by omega, by omega⟩)]
        exact q1
theorem cellsQ_raws {vr : Nat → Nat} {vs : List Value} (h : vs.all (·.oneCell') = true) : cellsQ C vr g w vs (vs.map rawC) := by
  refine ⟨by simp, fun j c hj => ?_⟩
  rw [List.getElem?_map] at hj
  cases hv : vs[j]? with
  | none => rw [hv] at hj; cases hj
  | some y =>
    rw [hv] at hj; cases hj
    rw [List.all_eq_true] at h
    exact ⟨y, rfl, h y (List.mem_of_getElem? hv), rfl⟩
theorem op_buildC {ty : TypeId} {z : Value} {ls : List (Nat × Nat)} {parts : List (Nat × Operand)} {pps : List (Nat × List Cnt)} {cs : List Cnt} (hp : Pl n o t) (ho : o.op = .build ty parts.toArray) (hl : plsOf P ty = some ls) (hz : (P.info? ty).bind (·.zero) = some z)
    (h1 : z.cells.toList.all (·.oneCell') = true) (hF : ∀ k ∈ partsN parts, k ∈ F) (hpt : PartsC F S parts pps) (hf : fillC (fun i => ls[i]?) (z.cells.toList.map rawC) pps = some cs) : OpOk n P ops o F (aggOf cs) [] S :=
  op_val hp fun C T g a w hA hR => by
    obtain ⟨out, r1, r2⟩ := fillC_rep hpt hA hF hR (cellsQ_raws h1) hf
    refine ⟨.agg out, ?_, crep_agg.2 ⟨out.toList, by simp, r2⟩⟩
    simp only [execOp, ho, Sem.run_bind]
    rw [run_build w ty _ out (by rw [show ((parts.toArray.map fun (x : Nat × Operand) => (x.1, a.eval x.2)).toList) = parts.map fun (i, x) => (i, a.eval x) by simp]; exact built_of hl hz r1)]
    rfl

/-! ### nil -/
theorem op_nilc {x : Operand} {id vr off : Nat} (hp : Pl n o t) (ho : o.op = .nilCheck x) (hx : S.opd x = .ptr id vr off) (hv : S.ver id = vr) : OpOk n P ops o ((2 * id + 1) :: opdN x) (.ptr id vr off) [] S :=
  op_val hp fun C T g a w hA hR => by
    have h := opd_rep (x := x) hA (fun k h => by simp [h]) hR
    rw [hx] at h
    have hv' := (hA.2 id (by simp)).2
    have hev := h.2 (by omega)
    exact ⟨a.eval x, by simp only [execOp, ho, hev]; rfl, h⟩
theorem op_nilc_rp {x : Operand} {cs : List PV} (hp : Pl n o t) (ho : o.op = .nilCheck x) (hx : S.opd x = .per (rptrP cs)) : OpOk n P ops o (opdN x) (.per (rptrP cs)) [] S :=
  op_val hp fun C T g a w hA hR => by
    have h := opd_rep (x := x) hA (fun k h => by simp [h]) hR
    rw [hx] at h
    obtain ⟨b, q, hev, _⟩ := h
    exact ⟨a.eval x, by simp only [execOp, ho, hev]; rfl, by rw [← hx]; exact opd_rep (x := x) hA (fun k h => by simp [h]) hR⟩
/-- what is surely an address -/
def SurePtr (F : List Nat) (S : St) (x : Operand) : Prop := ∀ (n : Nat) (C : Ctx) (T : St) (g : Gh) (a : Act) (w : World), Agree F T S → RG C n T g a w → ∃ ad, a.eval x = .pointer (some ad)
theorem sp_ptr {x : Operand} {id vr off : Nat} (hx : S.opd x = .ptr id vr off) (hv : S.ver id = vr) : SurePtr ((2 * id + 1) :: opdN x) S x := fun n C T g a w hA hR => by
  have h := opd_rep (x := x) hA (fun k h => by simp [h]) hR
  rw [hx] at h
  have hv' := (hA.2 id (by simp)).2
  exact ⟨_, h.2 (by omega)⟩
theorem sp_rp {x : Operand} {cs : List PV} (hx : S.opd x = .per (rptrP cs)) : SurePtr (opdN x) S x := fun n C T g a w hA hR => by
  have h := opd_rep (x := x) hA (fun k h => by simp [h]) hR
  rw [hx] at h
  obtain ⟨b, q, hev, _⟩ := h
  exact ⟨_, hev⟩
theorem eqn_run {ty e : TypeId} {x y : Operand} {p : Option Addr} (hT : P.underlying ty = some (.pointer e)) (w : World) : (do eqGuard .eql ty x y (.pointer p) (.pointer none); binOp .eql ty (.pointer p) (.pointer none)).run P w = .ok (.bool p.isNone) w := by
  have h : P.underlying ty = some (.pointer (P.pointee ty)) := by unfold Program.pointee; rw [hT]
  rw [show eqGuard .eql ty x y (.pointer p) (.pointer none) = pure () from rfl]
  exact run_eql_pointer_nil w ty p h
theorem nen_run {ty e : TypeId} {x y : Operand} {p : Option Addr} (hT : P.underlying ty = some (.pointer e)) (w : World) : (do eqGuard .neq ty x y (.pointer p) (.pointer none); binOp .neq ty (.pointer p) (.pointer none)).run P w = .ok (.bool (!p.isNone)) w := by
  have h : P.underlying ty = some (.pointer (P.pointee ty)) := by unfold Program.pointee; rw [hT]
  rw [show eqGuard .neq ty x y (.pointer p) (.pointer none) = pure () from rfl]
  exact run_neq_pointer_nil w ty p h
theorem exec_bin {op : BinOp} {ty ty' : TypeId} {x y : Operand} {u v r : Value} (ho : o.op = .binOp op ty x y ty') (hx : a.eval x = u) (hy : a.eval y = v) (h : (do eqGuard op ty x y u v; binOp op ty u v).run P w = .ok r w) : (execOp a.eval o).run P w = .ok (.value r) w := by
  simp only [execOp, ho, hx, hy, Sem.run_bind] at h ⊢
  rw [h]; rfl
theorem op_eqnil {ty ty' e : TypeId} {x : Operand} (hp : Pl n o t) (ho : o.op = .binOp .eql ty x (.const (.pointer none)) ty') (hT : P.underlying ty = some (.pointer e)) (hx : SurePtr F S x) : OpOk n P ops o F (bC false) [] S :=
  op_val hp fun C T g a w hA hR => by
    obtain ⟨ad, hev⟩ := hx n C T g a w hA hR
    exact ⟨.bool false, exec_bin ho hev rfl (eqn_run hT w), rfl⟩
theorem op_nenil {ty ty' e : TypeId} {x : Operand} (hp : Pl n o t) (ho : o.op = .binOp .neq ty x (.const (.pointer none)) ty') (hT : P.underlying ty = some (.pointer e)) (hx : SurePtr F S x) : OpOk n P ops o F (bC true) [] S :=
  op_val hp fun C T g a w hA hR => by
    obtain ⟨ad, hev⟩ := hx n C T g a w hA hR
    exact ⟨.bool true, exec_bin ho hev rfl (nen_run hT w), rfl⟩
theorem op_eqnil0 {ty ty' e : TypeId} {x : Operand} (hp : Pl n o t) (ho : o.op = .binOp .eql ty x (.const (.pointer none)) ty') (hT : P.underlying ty = some (.pointer e)) (hx : S.opd x = .per (rawP (.pointer none))) : OpOk n P ops o (opdN x) (bC true) [] S :=
  op_val hp fun C T g a w hA hR => by
    have hev := raw_opd (x := x) hA (fun k h => by simp [h]) hR hx
    exact ⟨.bool true, exec_bin ho hev rfl (eqn_run hT w), rfl⟩
theorem op_nenil0 {ty ty' e : TypeId} {x : Operand} (hp : Pl n o t) (ho : o.op = .binOp .neq ty x (.const (.pointer none)) ty') (hT : P.underlying ty = some (.pointer e)) (hx : S.opd x = .per (rawP (.pointer none))) : OpOk n P ops o (opdN x) (bC false) [] S :=
  op_val hp fun C T g a w hA hR => by
    have hev := raw_opd (x := x) hA (fun k h => by simp [h]) hR hx
    exact ⟨.bool false, exec_bin ho hev rfl (nen_run hT w), rfl⟩

/-! ### function values -/
theorem op_mkf0 {f : FuncId} (hp : Pl n o t) (ho : o.op = .makeFunc (.func f) #[] #[]) : OpOk n P ops o [] (.per (rawP (.func (.func f) #[] #[]))) [] S :=
  op_val hp fun C T g a w hA hR => ⟨_, by simp [execOp, ho, Instr.makeFunc], rfl⟩
theorem op_mkf1 {f : FuncId} {x : Operand} (hp : Pl n o t) (ho : o.op = .makeFunc (.func f) #[] #[x]) : OpOk n P ops o (opdN x) (.clo1 f (S.opd x)) [] S :=
  op_val hp fun C T g a w hA hR => ⟨.func (.func f) #[] #[a.eval x], by simp [execOp, ho, Instr.makeFunc], _, rfl, opd_rep hA (fun k h => by simp [h]) hR⟩
theorem op_mkf2 {f : FuncId} {x y : Operand} (hp : Pl n o t) (ho : o.op = .makeFunc (.func f) #[] #[x, y]) : OpOk n P ops o (opdN x ++ opdN y) (.clo2 f (S.opd x) (S.opd y)) [] S :=
  op_val hp fun C T g a w hA hR => ⟨.func (.func f) #[] #[a.eval x, a.eval y], by simp [execOp, ho, Instr.makeFunc], _, _, rfl, opd_rep hA (fun k h => by simp [h]) hR, opd_rep hA (fun k h => by simp [h]) hR⟩
theorem op_mkf3 {f : FuncId} {x y z : Operand} (hp : Pl n o t) (ho : o.op = .makeFunc (.func f) #[] #[x, y, z]) : OpOk n P ops o (opdN x ++ opdN y ++ opdN z) (.clo3 f (S.opd x) (S.opd y) (S.opd z)) [] S :=
  op_val hp fun C T g a w hA hR => ⟨.func (.func f) #[] #[a.eval x, a.eval y, a.eval z], by simp [execOp, ho, Instr.makeFunc], _, _, _, rfl, opd_rep hA (fun k h => by simp [h]) hR, opd_rep hA (fun k h => by simp [h]) hR, opd_rep hA (fun k h => by simp [h]) hR⟩

/-! ### stores into rows -/
theorem op_store_r {ty : TypeId} {x y : Operand} {id vr e k i j m : Nat} {es es' : List (List PV)} {ps As : List PV} (hp : Pl0 o) (ho : o.op = .store ty x y) (hk : P.cellsOf ty = m) (h0 : Nat.blt 0 m = true)
    (hx : S.opd x = .ept id vr k i j) (hv : S.ver id = vr) (hb : S.blk id = .row e k es) (hi : es[i]? = some ps) (hl : Nat.ble (j + m) k = true)
    (hy : (S.opd y = .per (aggP As)) ∨ ∃ A, S.opd y = .per A ∧ OneP A ∧ As = [A]) (hn : As.length = m) (he : es.set i (setP ps j As) = es') :
    OpOk n P ops o ((2 * id + 1) :: (opdN x ++ opdN y)) .any [(id, vr, .row e k es')] S := by
  subst he
  refine ⟨?_⟩
  intro C T hA a w ⟨g, hR⟩
  have hxe := opd_rep (x := x) hA (fun k h => by simp [h]) hR
  rw [hx] at hxe
  have hvt := (hA.2 id (by simp)).2
  have hev := hxe.2 (by rw [hvt, hv])
  have hB := hR.blks id
  rw [(hA.2 id (by simp)).1, hb] at hB
  have hye : cellsP (g.N C) w (a.eval y).cells As := by
    have hr := opd_rep (x := y) hA (fun k h => by simp [h]) hR
    rcases hy with h | ⟨A, h, h1, rfl⟩
    · rw [h] at hr
      obtain ⟨vs, hv, hc⟩ := hr
      rw [hv]; exact hc
    · rw [h] at hr
      obtain ⟨q1, q2⟩ := h1 _ _ _ hr
      rw [q2]
      refine ⟨rfl, fun j A' hj => ?_⟩
      cases j with
      | zero => simp at hj; subst hj; exact ⟨_, rfl, q1, hr⟩
      | succ j => simp at hj
  rcases hB with ⟨_, rfl⟩ | ⟨cap, cs, q1, q2, q3, q4, q5, q6, q7⟩
  · simp at hi
  have h0 := Nat.le_of_ble_eq_true h0
  have hl := Nat.le_of_ble_eq_true hl
  have hil : i < es.length := (List.getElem?_eq_some_iff.1 hi).1
  have hpk : ps.length = k := (q7 i ps hi).1
  have hbound : i * k + k ≤ cs.size := by
    have := Nat.mul_le_mul_right k (show i + 1 ≤ cap by omega)
    rw [Nat.succ_mul] at this; omega
  have hys := hye.1
  have hone : ∀ u ∈ (a.eval y).cells.toList, u.oneCell' = true := by
    intro u hu
    obtain ⟨q, hq, rfl⟩ := List.getElem_of_mem hu
    have hq' : q < As.length := by rw [← hys]; simpa using hq
    obtain ⟨u', g1, g2, _⟩ := hye.2 q As[q] (by simp [hq'])
    have : (a.eval y).cells.toList[q] = u' := by
      simp at hq; rw [Array.getElem?_eq_getElem hq] at g1; simpa using g1
    rw [this]; exact g2
  unfold Exec
  rw [if_pos (by simp [Region.wanted, hp.1])]
  unfold Oper.wp
  have hrun := storeAt_run (P := P) (ty := ty) (off := i * k + j) q2 (by rw [hk, hys, hn]) (by omega) (by omega) hone
  have hex : (execOp a.eval o).run P w = .ok .skip (w.setRow (g.ph id) (cs.toList.take (i * k + j) ++ (a.eval y).cells.toList ++ cs.toList.drop (i * k + j + (a.eval y).cells.size)).toArray) := by
    simp only [execOp, ho, hev, Sem.run_bind, hrun]; rfl
  rw [hex, Oper.upon_skip]
  have hst := stp_set (cs' := (cs.toList.take (i * k + j) ++ (a.eval y).cells.toList ++ cs.toList.drop (i * k + j + (a.eval y).cells.size)).toArray) hR rfl q2 q3
  have hver : (T.app o.dst .any [(id, vr, .row e k (es.set i (setP ps j As)))]).ver = T.ver := by
    funext i'
    rw [St.app_some_ver]
    split
    · rename_i h; subst h; rw [hvt, hv]
    · rfl
  refine ⟨g, hR.app1 (c := .any) (fun t h => by rw [hp.2] at h; cases h) (by rw [hver]; exact hst) trivial ?_⟩
  rw [hver]
  have hlen2 : (es.set i (setP ps j As)).length = es.length := by simp
  have hspl : (setP ps j As).length = k := by simp [setP]; omega
  refine .inr ⟨cap, _, by rw [hlen2]; exact q1, setRow_heap _ _ _ _ _ _ q2, q3, by rw [hlen2]; exact q4, q5, by simp; omega, fun i' ps' hi' => ?_⟩
  have hto : (cs.toList.take (i * k + j)).length = i * k + j := by simp; omega
  -- a cell behind the store
  have hcell : ∀ q, ((cs.toList.take (i * k + j) ++ (a.eval y).cells.toList ++ cs.toList.drop (i * k + j + (a.eval y).cells.size)).toArray)[q]? = if i * k + j ≤ q ∧ q < i * k + j + m then (a.eval y).cells[q - (i * k + j)]? else cs[q]? := by
    intro q
    rw [List.getElem?_toArray]
    rcases Nat.lt_or_ge q (i * k + j) with hlt | hge
    · rw [if_neg (by omega), List.append_assoc, List.getElem?_append_left (by omega), List.getElem?_take, if_pos hlt]; simp
    · rw [List.append_assoc, List.getElem?_append_right (by omega), hto]
      rcases Nat.lt_or_ge q (i * k + j + m) with hlt | hge2
      · rw [if_pos ⟨hge, hlt⟩, List.getElem?_append_left (by simp; omega)]; simp
      · rw [if_neg (by omega), List.getElem?_append_right (by simp; omega), List.getElem?_drop]
        simp only [Array.length_toList, hys, Array.getElem?_toList]
        congr 1; omega
  by_cases hii : i' = i
  · subst hii
    rw [List.getElem?_set_self (by omega)] at hi'
    cases hi'
    refine ⟨hspl, fun q A hq => ?_⟩
    have hqk : q < k := by
      have := (List.getElem?_eq_some_iff.1 hq).1; omega
    rw [hcell]
    unfold setP at hq
    have hta : (ps.take j).length = j := by simp; omega
    rcases Nat.lt_or_ge q j with hlt | hge
    · rw [List.getElem?_append_left (by omega), List.getElem?_take, if_pos hlt] at hq
      rw [if_neg (by omega)]
      obtain ⟨u, s1, s2, s3⟩ := (q7 _ ps hi).2 q A hq
      exact ⟨u, s1, s2, A.mono hst.sz hst.keepN hst.n s3⟩
    · rw [List.getElem?_append_right (by omega), hta] at hq
      rcases Nat.lt_or_ge q (j + m) with hlt | hge2
      · rw [List.getElem?_append_left (by omega)] at hq
        rw [if_pos (by omega)]
        obtain ⟨u, s1, s2, s3⟩ := hye.2 _ A hq
        exact ⟨u, by rw [← s1]; congr 1; omega, s2, A.mono hst.sz hst.keepN hst.n s3⟩
      · rw [List.getElem?_append_right (by omega), List.getElem?_drop] at hq
        rw [if_neg (by omega)]
        obtain ⟨u, s1, s2, s3⟩ := (q7 _ ps hi).2 _ A hq
        exact ⟨u, by rw [← s1]; congr 1; omega, s2, A.mono hst.sz hst.keepN hst.n s3⟩
  · rw [List.getElem?_set_ne (Ne.symm hii)] at hi'
    obtain ⟨r1, r2⟩ := q7 i' ps' hi'
    refine ⟨r1, fun q A hq => ?_⟩
    obtain ⟨u, s1, s2, s3⟩ := r2 q A hq
    have hqk : q < k := by
      have := (List.getElem?_eq_some_iff.1 hq).1; omega
    rw [hcell, if_neg ?_]
    · exact ⟨u, s1, s2, A.mono hst.sz hst.keepN hst.n s3⟩
    · rintro ⟨h1, h2⟩
      rcases Nat.lt_or_gt_of_ne hii with hlt | hgt
      · have := Nat.mul_le_mul_right k (show i' + 1 ≤ i by omega)
        rw [Nat.succ_mul] at this; omega
      · have := Nat.mul_le_mul_right k (show i + 1 ≤ i' by omega)
        rw [Nat.succ_mul] at this; omega

/-! ### guards parted -/
theorem put_same {t : Nat} {c c' : Cnt} (h0 : S.get t = c) (h : c = c') : S.put (some t) c' = S := by
  subst h0; subst h
  refine St.ext' (fun u => ?_) (fun _ => ⟨rfl, rfl⟩)
  rw [St.put_get]
  split
  · rename_i e; rw [e]
  · rfl
theorem AL_gsplit {l : List Oper} {Q : St → Prop} {j tg : Nat} {want b : Bool} (_ : o.guard = some (j, want)) (_ : (ops[j]?).bind (·.dst) = some tg) (hb : S.get tg = bC b)
    (h1 : b = true → AL P n ops Q (o :: l) (S.put (some tg) (bC true))) (h2 : b = false → AL P n ops Q (o :: l) (S.put (some tg) (bC false))) : AL P n ops Q (o :: l) S := by
  cases b with
  | true => have := h1 rfl; rwa [put_same hb rfl] at this
  | false => have := h2 rfl; rwa [put_same hb rfl] at this
theorem AD_gsplit {l : List Oper} {Q : St → Prop} {done : List (List Nat × List Nat)} {j tg : Nat} {want b : Bool} (_ : o.guard = some (j, want)) (_ : (ops[j]?).bind (·.dst) = some tg) (hb : S.get tg = bC b)
    (h1 : b = true → AD P n ops Q done (o :: l) (S.put (some tg) (bC true))) (h2 : b = false → AD P n ops Q done (o :: l) (S.put (some tg) (bC false))) : AD P n ops Q done (o :: l) S := by
  cases b with
  | true => have := h1 rfl; rwa [put_same hb rfl] at this
  | false => have := h2 rfl; rwa [put_same hb rfl] at this
theorem AL_m {l : List Oper} {Q : St → Prop} {c : Cnt} {b : Upd} (h : OpOk n P ops o F c b S) (k : AL P n ops Q l (S.app o.dst c b)) : AL P n ops Q (o :: l) S := AL_cons h k
end
end Go.Proofs.Ytnpognmpgddncaa
