/- Single operations over abstract states: stores, indices, lengths, calls, results. No program in sight. -/
import Derived.Test.YtnpognmpgddncaaAbsOps2
namespace Go.Proofs.Ytnpognmpgddncaa
open Go.RowKit

section
variable {P : Program} {n : Nat} {ops : Array Oper} {o : Oper} {F : List Nat} {S T : St} {C : Ctx} {g : Gh} {a : Act} {w w' : World} {t : Nat}

/-- an operation that turns a block, and gives no value -/
def Pl0 (o : Oper) : Prop := o.guard = none ∧ o.dst = none
theorem storeAt_run {w : World} {q off : Nat} {ty : TypeId} {e : TypeId} {v : Value} {cs : Array Value} (hh : w.heap[q]? = some (.cells cs e (0, 0))) (hk : P.cellsOf ty = v.cells.size) (h0 : 0 < v.cells.size) (hl : off + v.cells.size ≤ cs.size)
    (h1 : ∀ u ∈ v.cells.toList, u.oneCell' = true) :
    (Instr.storeAt ty (.pointer (some ⟨q, off, none⟩)) v).run P w = .ok () (w.setRow q (cs.toList.take off ++ v.cells.toList ++ cs.toList.drop (off + v.cells.size)).toArray) := by
  simp only [Instr.storeAt, Instr.sureAddr, Sem.run_bind, Sem.run_pure, Result.andThen_ok, storeVar, sizeOf_run hk h0]
  rw [if_neg (by simp)]
  have := run_storeCells_at (P := P) q off e v.cells.toList 0 cs w hh (by simpa using hl) h1
  simpa using this

def setL (cells : List Cnt) (off : Nat) (l : List Cnt) : List Cnt := cells.take off ++ (l ++ cells.drop (off + l.length))

theorem op_store_gen {ty : TypeId} {x y : Operand} {id vr off k : Nat} {e : TypeId} {cells new : List Cnt} (hp : Pl0 o) (ho : o.op = .store ty x y) (hk : P.cellsOf ty = k) (h0 : Nat.blt 0 k = true)
    (hx : S.opd x = .ptr id vr off) (hv : S.ver id = vr) (hb : S.blk id = .box e cells) (hl : Nat.ble (off + k) cells.length = true) (hnl : new.length = k)
    (hy : ∀ C T g a w, Agree ((2 * id + 1) :: (opdN x ++ opdN y)) T S → RG C n T g a w → (a.eval y).cells.size = k ∧ ∀ (j : Nat) (c : Cnt), new[j]? = some c → ∃ u, (a.eval y).cells[j]? = some u ∧ u.oneCell' = true ∧ crep C T.ver g w u c) :
    OpOk n P ops o ((2 * id + 1) :: (opdN x ++ opdN y)) .any [(id, vr, .box e (setL cells off new))] S := by
  refine ⟨?_⟩
  intro C T hA a w ⟨g, hR⟩
  obtain ⟨h1, cs, h2, h3, h4, h5⟩ := box_at hA (fun k h => by simp [h]) (by simp) hR hx hv hb
  obtain ⟨hys, hyc⟩ := hy C T g a w hA hR
  have h0 := Nat.le_of_ble_eq_true h0
  have hl := Nat.le_of_ble_eq_true hl
  have hvt := (hA.2 id (by simp)).2
  unfold Exec
  rw [if_pos (by simp [Region.wanted, hp.1])]
  unfold Oper.wp
  have hone : ∀ u ∈ (a.eval y).cells.toList, u.oneCell' = true := by
    intro u hu
    obtain ⟨j, hj, rfl⟩ := List.getElem_of_mem hu
    have hj' : j < new.length := by rw [hnl, ← hys]; simpa using hj
    obtain ⟨u', g1, g2, _⟩ := hyc j new[j] (by simp [hj'])
    have : (a.eval y).cells.toList[j] = u' := by
      have := g1; simp at hj; rw [Array.getElem?_eq_getElem hj] at this; simpa using this
    rw [this]; exact g2
  have hrun := storeAt_run (P := P) (ty := ty) (off := off) h2 (by rw [hk, hys]) (by omega) (by omega) hone
  have hex : (execOp a.eval o).run P w = .ok .skip (w.setRow (g.ph id) (cs.toList.take off ++ (a.eval y).cells.toList ++ cs.toList.drop (off + (a.eval y).cells.size)).toArray) := by
    simp only [execOp, ho, h1, Sem.run_bind, hrun]; rfl
  rw [hex, Oper.upon_skip]
  have hst := stp_set (cs' := (cs.toList.take off ++ (a.eval y).cells.toList ++ cs.toList.drop (off + (a.eval y).cells.size)).toArray) hR rfl h2 h3
  have hver : (T.app o.dst .any [(id, vr, .box e (setL cells off new))]).ver = T.ver := by
    funext i
    rw [St.app_some_ver]
    split
    · rename_i h; subst h; rw [hvt, hv]
    · rfl
  refine ⟨g, hR.app1 (c := .any) (fun t h => by rw [hp.2] at h; cases h) (by rw [hver]; exact hst) trivial ?_⟩
  rw [hver]
  refine ⟨_, setRow_heap _ _ _ _ _ _ h2, h3, ?_, fun j c hj => ?_⟩
  · simp [setL]; omega
  · unfold setL at hj
    have hta : (cells.take off).length = off := by simp; omega
    have htb : (cs.toList.take off).length = off := by simp; omega
    rcases Nat.lt_or_ge j off with hlt | hge
    · rw [List.getElem?_append_left (by omega), List.getElem?_take, if_pos hlt] at hj
      obtain ⟨u, q1, q2, q3⟩ := h5 j c hj
      refine ⟨u, ?_, q2, hst.crep q3⟩
      rw [List.getElem?_toArray, List.append_assoc, List.getElem?_append_left (by omega), List.getElem?_take, if_pos hlt]
      simpa using q1
    · rw [List.getElem?_append_right (by omega), hta] at hj
      rcases Nat.lt_or_ge j (off + k) with hlt | hge2
      · rw [List.getElem?_append_left (by omega)] at hj
        obtain ⟨u, q1, q2, q3⟩ := hyc _ c hj
        refine ⟨u, ?_, q2, hst.crep q3⟩
        rw [List.getElem?_toArray, List.append_assoc, List.getElem?_append_right (by omega), htb, List.getElem?_append_left (by simp; omega)]
        simpa using q1
      · rw [List.getElem?_append_right (by omega), hnl, List.getElem?_drop] at hj
        obtain ⟨u, q1, q2, q3⟩ := h5 _ c hj
        refine ⟨u, ?_, q2, hst.crep q3⟩
        rw [List.getElem?_toArray, List.append_assoc, List.getElem?_append_right (by omega), htb, List.getElem?_append_right (by simp; omega), List.getElem?_drop]
        simp only [Array.length_toList, hys, Array.getElem?_toList]
        rw [← q1]
theorem op_store1 {ty : TypeId} {x y : Operand} {id vr off : Nat} {e : TypeId} {cells : List Cnt} {A : PV} (hp : Pl0 o) (ho : o.op = .store ty x y) (hk : P.cellsOf ty = 1)
    (hx : S.opd x = .ptr id vr off) (hv : S.ver id = vr) (hb : S.blk id = .box e cells) (hl : Nat.ble (off + 1) cells.length = true) (hy : S.opd y = .per A) (h1 : OneP A) :
    OpOk n P ops o ((2 * id + 1) :: (opdN x ++ opdN y)) .any [(id, vr, .box e (setL cells off [.per A]))] S :=
  op_store_gen hp ho hk rfl hx hv hb hl rfl fun C T g a w hA hR => by
    have h := opd_rep (x := y) hA (fun k h => by simp [h]) hR
    rw [hy] at h
    obtain ⟨g1, g2⟩ := h1 _ _ _ h
    rw [g2]
    refine ⟨rfl, fun j c hj => ?_⟩
    cases j with
    | zero => simp at hj; subst hj; exact ⟨_, rfl, g1, h⟩
    | succ j => simp at hj
theorem op_storeA {ty : TypeId} {x y : Operand} {id vr off k : Nat} {e : TypeId} {cells : List Cnt} {As : List PV} (hp : Pl0 o) (ho : o.op = .store ty x y) (hk : P.cellsOf ty = k) (h0 : Nat.blt 0 k = true)
    (hx : S.opd x = .ptr id vr off) (hv : S.ver id = vr) (hb : S.blk id = .box e cells) (hl : Nat.ble (off + k) cells.length = true) (hy : S.opd y = .per (aggP As)) (hn : As.length = k) :
    OpOk n P ops o ((2 * id + 1) :: (opdN x ++ opdN y)) .any [(id, vr, .box e (setL cells off (As.map .per)))] S :=
  op_store_gen hp ho hk h0 hx hv hb hl (by simp [hn]) fun C T g a w hA hR => by
    have h := opd_rep (x := y) hA (fun k h => by simp [h]) hR
    rw [hy] at h
    obtain ⟨vs, hv, q1, q2⟩ := h
    rw [hv]
    refine ⟨by show vs.size = k; omega, fun j c hj => ?_⟩
    rw [List.getElem?_map] at hj
    cases hAj : As[j]? with
    | none => rw [hAj] at hj; cases hj
    | some A =>
      rw [hAj] at hj; cases hj
      exact q2 j A hAj

/-! ### indices, lengths -/
theorem indexAt_run {w : World} {ty e : TypeId} {k len cap i : Nat} {kk : IntKind} {b of : Nat} (hT : P.underlying ty = some (.slice e)) (hk : P.cellsOf e = k) (h0 : 0 < k) (hi : i < len) :
    (Instr.indexAt ty (.slice (some ⟨b, of, none⟩) len cap) (.int kk (i : Int))).run P w = .ok (.pointer (some ⟨b, of + i * k, none⟩)) w := by
  have hel : P.elem ty = e := by unfold Program.elem; rw [hT]
  rw [run_indexAt_slice (h := by rw [hel]; exact hT), if_pos ⟨by omega, by omega⟩, hel, sizeOf_run hk h0]
  simp [Result.andThen, Addr.add_lit]
theorem op_index {ty e : TypeId} {x ix : Operand} {k i : Nat} {kk : IntKind} {z : Int} {es : List (List PV)} {cs : List PV} (hp : Pl n o t) (ho : o.op = .indexAddr ty x ix) (hT : P.underlying ty = some (.slice e)) (hk : P.cellsOf e = k) (h0 : Nat.blt 0 k = true)
    (hx : S.opd x = .per (lstP k es)) (hi : S.opd ix = iC kk z) (hz : z = (i : Int)) (hc : es[i]? = some cs) : OpOk n P ops o (opdN x ++ opdN ix) (.per (rptrP cs)) [] S :=
  op_val hp fun C T g a w hA hR => by
    have h := opd_rep (x := x) hA (fun k h => by simp [h]) hR
    have h2 := raw_opd (x := ix) hA (fun k h => by simp [h]) hR hi
    rw [hx] at h
    obtain ⟨ad, c, b, of, hv, _, _, _, h5, h6⟩ := h
    have hlt : i < es.length := by
      rcases Nat.lt_or_ge i es.length with q | q
      · exact q
      · rw [List.getElem?_eq_none q] at hc; cases hc
    obtain ⟨rfl, q2, q3⟩ := h5 (by omega)
    obtain ⟨q4, q5⟩ := h6 i cs hc
    refine ⟨.pointer (some ⟨b, of + i * k, none⟩), ?_, b, of + i * k, rfl, q2, q3, q5⟩
    subst hz
    simp only [execOp, ho, hv, h2, Sem.run_bind, indexAt_run hT hk (Nat.le_of_ble_eq_true h0) hlt]; rfl
theorem op_index_b {ty e : TypeId} {x ix : Operand} {k i : Nat} {kk : IntKind} {z : Int} {es : List (List PV)} {cs : List PV} (hp : Pl n o t) (ho : o.op = .indexAddr ty x ix) (hT : P.underlying ty = some (.slice e)) (hk : P.cellsOf e = k) (h0 : Nat.blt 0 k = true)
    (hx : S.opd x = .bor k es) (hi : S.opd ix = iC kk z) (hz : z = (i : Int)) (hc : es[i]? = some cs) : OpOk n P ops o (opdN x ++ opdN ix) (.bpt cs) [] S :=
  op_val hp fun C T g a w hA hR => by
    have h := opd_rep (x := x) hA (fun k h => by simp [h]) hR
    have h2 := raw_opd (x := ix) hA (fun k h => by simp [h]) hR hi
    rw [hx] at h
    obtain ⟨ad, c, b, of, hv, _, _, _, h5, h6⟩ := h
    have hlt : i < es.length := by
      rcases Nat.lt_or_ge i es.length with q | q
      · exact q
      · rw [List.getElem?_eq_none q] at hc; cases hc
    obtain ⟨rfl, q2, q3⟩ := h5 (by omega)
    obtain ⟨q4, q5⟩ := h6 i cs hc
    refine ⟨.pointer (some ⟨b, of + i * k, none⟩), ?_, b, of + i * k, rfl, q2, q3, q5⟩
    subst hz
    simp only [execOp, ho, hv, h2, Sem.run_bind, indexAt_run hT hk (Nat.le_of_ble_eq_true h0) hlt]; rfl
/-- s[i], s a text -/
theorem op_sindex {ty : TypeId} {x ix : Operand} {i : Nat} {kk : IntKind} {z : Int} {s : ByteArray} {c : UInt8} (hp : Pl n o t) (ho : o.op = .index ty x ix) (hT : P.underlying ty = some .string)
    (hx : S.opd x = sC s) (hi : S.opd ix = iC kk z) (hz : z = (i : Int)) (hc : s.data.toList[i]? = some c) : OpOk n P ops o (opdN x ++ opdN ix) (iC .u8 (c.toNat : Int)) [] S :=
  op_val hp fun C T g a w hA hR => by
    have h1 := raw_opd (x := x) hA (fun k h => by simp [h]) hR hx
    have h2 := raw_opd (x := ix) hA (fun k h => by simp [h]) hR hi
    subst hz
    have hs : s[i]? = some c := by
      have : s[i]? = s.data[i]? := by
        by_cases h : i < s.size
        · rw [getElem?_pos s i h, Array.getElem?_eq_getElem (by exact h)]; rfl
        · rw [getElem?_neg s i h, Array.getElem?_eq_none (by simpa using h)]
      rw [this]; simpa using hc
    refine ⟨.int .u8 (c.toNat : Int), ?_, rfl⟩
    simp only [execOp, ho, h1, h2, Instr.index, asIntOf, Sem.run_bind, Sem.run_pure, Result.andThen_ok, run_underlying hT]
    simp [hs]
theorem lenRun {ty ty' : TypeId} {e : TypeId} {ad : Option Addr} {l c : Nat} (hT : P.underlying ty = some (.slice e)) (w : World) : (Builtin.len_ #[ty] ty' #[.slice ad l c]).run P w = .ok (.int .i64 (l : Int)) w := by
  simp [Builtin.len_, run_underlying hT, goInt]
def isLen (o : Oper) (ty : TypeId) (x : Operand) : Prop := o.op = .call { callee := .builtin .len, args := #[x], argTypes := #[ty] }
theorem execLen {ty : TypeId} {x : Operand} {v r : Value} (ho : isLen o ty x) (hx : a.eval x = v) (h : (Builtin.len_ #[ty] o.type #[v]).run P w = .ok r w) : (execOp a.eval o).run P w = .ok (.value r) w := by
  unfold isLen at ho
  simp only [execOp, ho, resolve, invoke, builtin, Sem.run_bind, Sem.run_pure, Result.andThen_ok, List.map_toArray, List.map_cons, List.map_nil, hx, h]
theorem op_len {ty e : TypeId} {x : Operand} {k : Nat} {es : List (List PV)} (hp : Pl n o t) (ho : isLen o ty x) (hT : P.underlying ty = some (.slice e)) (hx : S.opd x = .per (lstP k es)) : OpOk n P ops o (opdN x) (iC .i64 (es.length : Int)) [] S :=
  op_val hp fun C T g a w hA hR => by
    have h := opd_rep (x := x) hA (fun k h => by simp [h]) hR
    rw [hx] at h
    obtain ⟨ad, c, b, of, hv, _⟩ := h
    exact ⟨_, execLen ho hv (lenRun hT w), rfl⟩
theorem op_len_b {ty e : TypeId} {x : Operand} {k : Nat} {es : List (List PV)} (hp : Pl n o t) (ho : isLen o ty x) (hT : P.underlying ty = some (.slice e)) (hx : S.opd x = .bor k es) : OpOk n P ops o (opdN x) (iC .i64 (es.length : Int)) [] S :=
  op_val hp fun C T g a w hA hR => by
    have h := opd_rep (x := x) hA (fun k h => by simp [h]) hR
    rw [hx] at h
    obtain ⟨ad, c, b, of, hv, _⟩ := h
    exact ⟨_, execLen ho hv (lenRun hT w), rfl⟩
theorem op_len_s {ty : TypeId} {x : Operand} {s : ByteArray} (hp : Pl n o t) (ho : isLen o ty x) (hT : P.underlying ty = some .string) (hx : S.opd x = sC s) : OpOk n P ops o (opdN x) (iC .i64 (s.size : Int)) [] S :=
  op_val hp fun C T g a w hA hR => by
    have h1 := raw_opd (x := x) hA (fun k h => by simp [h]) hR hx
    exact ⟨_, execLen ho h1 (by simp [Builtin.len_, run_underlying hT, goInt]), rfl⟩
/-- a row, through a slot -/
theorem row_at {x : Operand} {id vr e k : Nat} {es : List (List PV)} (hA : Agree F T S) (hF : ∀ k ∈ opdN x, k ∈ F) (hF' : 2 * id + 1 ∈ F) (hR : RG C n T g a w) (hx : S.opd x = .row id vr) (hv : S.ver id = vr) (hb : S.blk id = .row e k es) :
    a.eval x = g.rh id ∧ brep C T.ver g w id (.row e k es) := by
  have h := opd_rep hA hF hR
  rw [hx] at h
  have h2 := hA.2 id hF'
  have h3 := hR.blks id
  rw [h2.1, hb] at h3
  exact ⟨h.2 (by rw [h2.2, hv]), h3⟩
/-- what a row reads as: a slice lent -/
theorem row_bor {id e k : Nat} {es : List (List PV)} {top : BP} (ht : ∀ b, b < w.heap.size → ¬ top b) (hR : RG C n T g a w) (h : brep C T.ver g w id (.row e k es)) : lstAt top (g.N C) k es w (g.rh id) := by
  rcases h with ⟨h1, rfl⟩ | ⟨cap, cs, h1, h2, h3, h4, h5, h6, h7⟩
  · exact ⟨none, 0, 0, 0, by rw [h1]; rfl, by simp, by decide, fun _ => rfl, by simp, fun i cs hi => by simp at hi⟩
  · have hlt := (hR.dom _ _ h3).1
    refine ⟨_, cap, g.ph id, 0, h1, h4, h5, by simp, fun _ => ⟨rfl, hlt, ht _ hlt⟩, fun i ps hi => ?_⟩
    obtain ⟨q1, q2⟩ := h7 i ps hi
    refine ⟨q1, fun j A hj => ?_⟩
    obtain ⟨y, r1, r2, r3⟩ := q2 j A hj
    exact ⟨y, by rw [Nat.zero_add, cell_at h2]; exact r1, r2, r3⟩
theorem op_len_r {ty e' : TypeId} {x : Operand} {id vr e k : Nat} {es : List (List PV)} (hp : Pl n o t) (ho : isLen o ty x) (hT : P.underlying ty = some (.slice e')) (hx : S.opd x = .row id vr) (hv : S.ver id = vr) (hb : S.blk id = .row e k es) :
    OpOk n P ops o ((2 * id + 1) :: opdN x) (iC .i64 (es.length : Int)) [] S :=
  op_val hp fun C T g a w hA hR => by
    obtain ⟨h1, h2⟩ := row_at hA (fun k h => by simp [h]) (by simp) hR hx hv hb
    obtain ⟨ad, c, b, of, hv, _⟩ := row_bor (top := fun _ => False) (fun _ _ h => h) hR h2
    exact ⟨_, execLen ho (h1.trans hv) (lenRun hT w), rfl⟩
theorem op_index_r {ty e' : TypeId} {x ix : Operand} {id vr e k i : Nat} {kk : IntKind} {z : Int} {es : List (List PV)} (hp : Pl n o t) (ho : o.op = .indexAddr ty x ix) (hT : P.underlying ty = some (.slice e')) (hk : P.cellsOf e' = k) (h0 : Nat.blt 0 k = true)
    (hx : S.opd x = .row id vr) (hv : S.ver id = vr) (hb : S.blk id = .row e k es) (hi : S.opd ix = iC kk z) (hz : z = (i : Int)) (hlt : i < es.length) : OpOk n P ops o ((2 * id + 1) :: (opdN x ++ opdN ix)) (.ept id vr k i 0) [] S :=
  op_val hp fun C T g a w hA hR => by
    obtain ⟨h1, h2⟩ := row_at (x := x) hA (fun k h => by simp [h]) (by simp) hR hx hv hb
    have h3 := raw_opd (x := ix) hA (fun k h => by simp [h]) hR hi
    have hvt := (hA.2 id (by simp)).2
    rcases h2 with ⟨_, rfl⟩ | ⟨cap, cs, q1, _⟩
    · simp at hlt
    · refine ⟨.pointer (some ⟨g.ph id, 0 + i * k, none⟩), ?_, ⟨by omega, fun _ => by simp⟩⟩
      subst hz
      simp only [execOp, ho, h1, q1, h3, Sem.run_bind, indexAt_run hT hk (Nat.le_of_ble_eq_true h0) hlt]; rfl
theorem op_field_r {ty f fo : Nat} {x : Operand} {id vr k i j : Nat} (hp : Pl n o t) (ho : o.op = .fieldAddr ty x f) (hf : Fld P ty f fo) (hx : S.opd x = .ept id vr k i j) (hv : S.ver id = vr) :
    OpOk n P ops o ((2 * id + 1) :: opdN x) (.ept id vr k i (j + fo)) [] S :=
  op_val hp fun C T g a w hA hR => by
    obtain ⟨fs, fld, k', h1, h2, h3, h4, h5⟩ := hf.ex
    have h := opd_rep (x := x) hA (fun k h => by simp [h]) hR
    rw [hx] at h
    have hv' := (hA.2 id (by simp)).2
    have hev := h.2 (by omega)
    refine ⟨.pointer (some ⟨g.ph id, i * k + j + fo, none⟩), ?_, ⟨by omega, fun _ => by rw [Nat.add_assoc]⟩⟩
    simp only [execOp, ho, hev, Sem.run_bind, fieldAt_run (b := g.ph id) (o := i * k + j) h1 h2 h3 h4 h5]; rfl
theorem row_cell {id vr e k i j : Nat} {x : Operand} {es : List (List PV)} {ps : List PV} (hA : Agree F T S) (hF : ∀ k ∈ opdN x, k ∈ F) (hF' : 2 * id + 1 ∈ F) (hR : RG C n T g a w) (hx : S.opd x = .ept id vr k i j) (hv : S.ver id = vr) (hb : S.blk id = .row e k es) (hi : es[i]? = some ps) :
    a.eval x = .pointer (some ⟨g.ph id, i * k + j, none⟩) ∧ ∀ (q : Nat) (A : PV), ps[q]? = some A → ∃ y, w.cell? ⟨g.ph id, i * k + q, none⟩ = some y ∧ y.oneCell' = true ∧ A.p (g.N C) w y := by
  have h := opd_rep hA hF hR
  rw [hx] at h
  have h2 := hA.2 id hF'
  have h3 := hR.blks id
  rw [h2.1, hb] at h3
  refine ⟨h.2 (by rw [h2.2, hv]), fun q A hq => ?_⟩
  rcases h3 with ⟨_, rfl⟩ | ⟨cap, cs, _, r2, _, _, _, _, r7⟩
  · simp at hi
  · obtain ⟨y, s1, s2, s3⟩ := (r7 i ps hi).2 q A hq
    exact ⟨y, by rw [cell_at r2]; exact s1, s2, s3⟩
theorem op_load_r1 {ty : TypeId} {d : TypeDesc} {x : Operand} {id vr e k i j : Nat} {es : List (List PV)} {ps : List PV} {A : PV} (hp : Pl n o t) (ho : o.op = .load ty x) (hT : P.underlying ty = some d) (hd : isAggD d = false)
    (hx : S.opd x = .ept id vr k i j) (hv : S.ver id = vr) (hb : S.blk id = .row e k es) (hi : es[i]? = some ps) (hj : ps[j]? = some A) : OpOk n P ops o ((2 * id + 1) :: opdN x) (.per A) [] S :=
  op_val hp fun C T g a w hA hR => by
    obtain ⟨h1, h2⟩ := row_cell hA (fun k h => by simp [h]) (by simp) hR hx hv hb hi
    obtain ⟨y, g1, g2, g3⟩ := h2 j A hj
    refine ⟨y, ?_, g3⟩
    simp only [execOp, ho, h1, Sem.run_bind, loadAt_one (b := g.ph id) (o := i * k + j) hT hd g1]; rfl
theorem op_load_rA {ty : TypeId} {d : TypeDesc} {x : Operand} {id vr e k i j m : Nat} {es : List (List PV)} {ps As : List PV} (hp : Pl n o t) (ho : o.op = .load ty x) (hT : P.underlying ty = some d) (hd : isAggD d = true) (hk : P.cellsOf ty = m) (h0 : Nat.blt 0 m = true)
    (hx : S.opd x = .ept id vr k i j) (hv : S.ver id = vr) (hb : S.blk id = .row e k es) (hi : es[i]? = some ps) (hj : (ps.drop j).take m = As) (hl : As.length = m) : OpOk n P ops o ((2 * id + 1) :: opdN x) (.per (aggP As)) [] S :=
  op_val hp fun C T g a w hA hR => by
    obtain ⟨h1, h2⟩ := row_cell hA (fun k h => by simp [h]) (by simp) hR hx hv hb hi
    have h0 := Nat.le_of_ble_eq_true h0
    obtain ⟨vs, g1, g2, g3⟩ := list_of_cells (N := g.N C) (w := w) (f := fun q => w.cell? ⟨g.ph id, i * k + j + q, none⟩) As (fun q A hq => by
      rw [← hj, List.getElem?_take] at hq
      split at hq
      · rw [List.getElem?_drop] at hq
        obtain ⟨y, r1, r2⟩ := h2 _ A hq
        exact ⟨y, by rw [Nat.add_assoc]; exact r1, r2⟩
      · cases hq)
    refine ⟨.agg vs.toArray, ?_, ⟨vs.toArray, rfl, g3⟩⟩
    simp only [execOp, ho, h1, Sem.run_bind, loadAt_agg (b := g.ph id) (o := i * k + j) hT hd (by rw [hk, g1, hl]) (by omega) g2]; rfl

/-! ### results of several -/
theorem op_ext2a {x : Operand} {c d : Cnt} (hp : Pl n o t) (ho : o.op = .extract x 0) (hx : S.opd x = .tup2 c d) : OpOk n P ops o (opdN x) c [] S :=
  op_val hp fun C T g a w hA hR => by
    have h := opd_rep (x := x) hA (fun k h => by simp [h]) hR
    rw [hx] at h
    obtain ⟨u, v, hv, h1, h2⟩ := h
    exact ⟨u, by simp [execOp, ho, hv, Instr.extract], h1⟩
theorem op_ext2b {x : Operand} {c d : Cnt} (hp : Pl n o t) (ho : o.op = .extract x 1) (hx : S.opd x = .tup2 c d) : OpOk n P ops o (opdN x) d [] S :=
  op_val hp fun C T g a w hA hR => by
    have h := opd_rep (x := x) hA (fun k h => by simp [h]) hR
    rw [hx] at h
    obtain ⟨u, v, hv, h1, h2⟩ := h
    exact ⟨v, by simp [execOp, ho, hv, Instr.extract], h2⟩
theorem op_ext3a {x : Operand} {c d e : Cnt} (hp : Pl n o t) (ho : o.op = .extract x 0) (hx : S.opd x = .tup3 c d e) : OpOk n P ops o (opdN x) c [] S :=
  op_val hp fun C T g a w hA hR => by
    have h := opd_rep (x := x) hA (fun k h => by simp [h]) hR
    rw [hx] at h
    obtain ⟨u, v, z, hv, h1, h2, h3⟩ := h
    exact ⟨u, by simp [execOp, ho, hv, Instr.extract], h1⟩
theorem op_ext3b {x : Operand} {c d e : Cnt} (hp : Pl n o t) (ho : o.op = .extract x 1) (hx : S.opd x = .tup3 c d e) : OpOk n P ops o (opdN x) d [] S :=
  op_val hp fun C T g a w hA hR => by
    have h := opd_rep (x := x) hA (fun k h => by simp [h]) hR
    rw [hx] at h
    obtain ⟨u, v, z, hv, h1, h2, h3⟩ := h
    exact ⟨v, by simp [execOp, ho, hv, Instr.extract], h2⟩
theorem op_ext3c {x : Operand} {c d e : Cnt} (hp : Pl n o t) (ho : o.op = .extract x 2) (hx : S.opd x = .tup3 c d e) : OpOk n P ops o (opdN x) e [] S :=
  op_val hp fun C T g a w hA hR => by
    have h := opd_rep (x := x) hA (fun k h => by simp [h]) hR
    rw [hx] at h
    obtain ⟨u, v, z, hv, h1, h2, h3⟩ := h
    exact ⟨z, by simp [execOp, ho, hv, Instr.extract], h3⟩

/-! ### calls -/
/-- what a caller's slot gives a callee -/
def Gives (F : List Nat) (S : St) (x : Operand) (c : Cnt) : Prop := ∀ (n : Nat) (C : Ctx) (T : St) (g : Gh) (a : Act) (w : World), Agree F T S → RG C n T g a w →
  crep ⟨w, fun b => b < w.heap.size ∧ g.N C b, fun _ => False, g0⟩ (fun _ => 0) g0 w (a.eval x) c
theorem nn0 {b : Nat} (h : (g0.N ⟨w, fun b => b < w.heap.size ∧ g.N C b, fun _ => False, g0⟩) b) : g.N C b := by
  rcases h with h | h
  · exact h.2
  · exact absurd rfl h
theorem gives_per {x : Operand} {A : PV} (hx : S.opd x = .per A) (hF : ∀ k ∈ opdN x, k ∈ F) : Gives F S x (.per A) := fun n C T g a w hA hR => by
  have h := opd_rep (x := x) hA hF hR
  rw [hx] at h
  exact A.mono (Nat.le_refl _) (fun _ _ _ => rfl) (fun b _ hb => nn0 hb) h
theorem lst_bor {top N N' : BP} {k : Nat} {es : List (List PV)} {v : Value} (hn : ∀ b, N' b → N b) (h : lstAt top N k es w v) : lstAt g0.M N' k es w v := by
  obtain ⟨ad, c, b, of, h1, h2, h3, h4, h5, h6⟩ := h
  refine ⟨ad, c, b, of, h1, h2, h3, h4, fun h0 => ⟨(h5 h0).1, (h5 h0).2.1, fun h => h rfl⟩, fun i cs hi => ⟨(h6 i cs hi).1, fun j A hj => ?_⟩⟩
  obtain ⟨y, q1, q2, q3⟩ := (h6 i cs hi).2 j A hj
  exact ⟨y, q1, q2, A.mono (Nat.le_refl _) (fun _ _ _ => rfl) (fun b _ hb => hn b hb) q3⟩
theorem gives_lst {x : Operand} {k : Nat} {es : List (List PV)} (hx : S.opd x = .per (lstP k es)) (hF : ∀ k ∈ opdN x, k ∈ F) : Gives F S x (.bor k es) := fun n C T g a w hA hR => by
  have h := opd_rep (x := x) hA hF hR
  rw [hx] at h
  exact lst_bor (fun b hb => nn0 hb) h
theorem gives_bor {x : Operand} {k : Nat} {es : List (List PV)} (hx : S.opd x = .bor k es) (hF : ∀ k ∈ opdN x, k ∈ F) : Gives F S x (.bor k es) := fun n C T g a w hA hR => by
  have h := opd_rep (x := x) hA hF hR
  rw [hx] at h
  exact lst_bor (fun b hb => nn0 hb) h
theorem gives_row {x : Operand} {id vr e k : Nat} {es : List (List PV)} (hx : S.opd x = .row id vr) (hv : S.ver id = vr) (hb : S.blk id = .row e k es) (hF : ∀ k ∈ opdN x, k ∈ F) (hF' : 2 * id + 1 ∈ F) : Gives F S x (.bor k es) := fun n C T g a w hA hR => by
  obtain ⟨h1, h2⟩ := row_at (x := x) hA hF hF' hR hx hv hb
  rw [h1]
  exact lst_bor (fun b hb => nn0 hb) (row_bor (top := fun _ => False) (fun _ _ h => h) hR h2)
/-- the nil slice -/
theorem gives_nil {x : Operand} {k : Nat} (hx : S.opd x = .per (rawP (.slice none 0 0))) (hF : ∀ k ∈ opdN x, k ∈ F) : Gives F S x (.bor k []) := fun n C T g a w hA hR => by
  have h := raw_opd (x := x) hA hF hR hx
  rw [h]
  exact ⟨none, 0, 0, 0, rfl, by simp, by decide, fun _ => rfl, by simp, fun i cs hi => by simp at hi⟩
theorem gives_nil' {x : Operand} {k : Nat} (hx : S.opd x = .per (rawP (.slice none 0 0))) (hF : ∀ k ∈ opdN x, k ∈ F) : Gives F S x (.per (lstP k [])) := fun n C T g a w hA hR => by
  have h := raw_opd (x := x) hA hF hR hx
  rw [h]
  exact ⟨none, 0, 0, 0, rfl, by simp, by decide, fun _ => rfl, by simp, fun i cs hi => by simp at hi⟩
inductive GivesL (F : List Nat) (S : St) : List Operand → List Cnt → Prop
  | nil : GivesL F S [] []
  | cons {x : Operand} {c : Cnt} {xs : List Operand} {cs : List Cnt} (h : Gives F S x c) (t : GivesL F S xs cs) : GivesL F S (x :: xs) (c :: cs)
theorem GivesL.rep {xs : List Operand} {cs : List Cnt} (h : GivesL F S xs cs) (hA : Agree F T S) (hR : RG C n T g a w) : argsRep (fun b => b < w.heap.size ∧ g.N C b) w (xs.map a.eval) cs := by
  induction h with
  | nil => exact ⟨rfl, fun i v c hi => by simp at hi⟩
  | cons h t ih =>
    refine ⟨by simp [ih.1], fun i v c hi hc => ?_⟩
    cases i with
    | zero =>
      simp at hi hc; subst hi; subst hc
      exact h n C T g a w hA hR
    | succ i => exact ih.2 i v c (by simpa using hi) (by simpa using hc)

/-- what a call's answer is to the caller -/
def ansC (t v : Nat) : Ret → Cnt
  | .per A => .per A
  | .own _ _ _ => .row t v
  | .tup2 c d => .tup2 (ansC t v c) (ansC t v d)
  | .tup3 c d e => .tup3 (ansC t v c) (ansC t v d) (ansC t v e)
def isCall (o : Oper) (f : FuncId) (xs : List Operand) : Prop := ∃ tys, o.op = .call { callee := .value (.func f), args := xs.toArray, argTypes := tys }
theorem callWp {f : FuncId} {xs : List Operand} {K : Act → World → Prop} {R : Value → World → Prop} (hE : Ent P f) (ho : isCall o f xs) (h : Calls P f (xs.map a.eval).toArray w (fun e w' => ∃ v, e = .returned v ∧ R v w')) (hk : ∀ v w', R v w' → K (a.put o.dst v) w') :
    o.wp P a w K (fun _ _ _ => False) := by
  obtain ⟨fn, h1, h2, h3⟩ := hE
  obtain ⟨tys, ho⟩ := ho
  unfold Oper.wp
  have : (execOp a.eval o).run P w = .ok (.enter f (xs.map a.eval).toArray) w := by
    simp only [execOp, ho, resolve, Act.eval, Deferred.ofValue, Sem.run_bind, Sem.run_pure, Result.andThen_ok, invoke, callFunc, List.map_toArray]
    simp only [program, Sem.run, Result.andThen_ok, h1, h2, h3, Bool.false_eq_true, if_false]
    simp
  rw [this, Oper.upon_enter]
  refine Calls.mono h ?_
  rintro e w' ⟨v, rfl, hv⟩
  exact hk v w' hv
theorem per_back {A : PV} {v : Value} {g' : Gh} (hg : ∀ b, b < w.heap.size → g'.ow b ≠ none → g.ow b ≠ none) (hn : ∀ b, w.heap.size ≤ b → ¬ C.N0 b)
    (hfr : ∀ b, w.heap.size ≤ b → b < w'.heap.size → g'.ow b = none) (h : A.p (fun b => b < w.heap.size ∧ g.N C b) w' v) : A.p (g'.N C) w' v :=
  A.mono (Nat.le_refl _) (fun _ _ _ => rfl) (fun b hb hbn => by
    rcases Nat.lt_or_ge b w.heap.size with hlt | hge
    · refine ⟨hlt, ?_⟩
      rcases hbn with q | q
      · exact .inl q
      · exact .inr (hg b hlt q)
    · rcases hbn with q | q
      · exact absurd q (hn b hge)
      · exact absurd (hfr b hge hb) q) h
/-- a call whose answer needs no block: values, persistent things -/
def Ret.plain : Ret → Bool
  | .per _ => true
  | .own _ _ _ => false
  | .tup2 c d => c.plain && d.plain
  | .tup3 c d e => c.plain && d.plain && e.plain
theorem n0_lt (hR : RG C n T g a w) : ∀ b, w.heap.size ≤ b → ¬ C.N0 b := fun b hb h => by
  have := hR.n0 b h; have := hR.size; omega
theorem ow_none (hR : RG C n T g a w) : ∀ b, w.heap.size ≤ b → g.ow b = none := fun b hb => by
  cases h : g.ow b with
  | none => rfl
  | some id => have := (hR.dom b id h).1; omega
theorem ans_plain (hR : RG C n T g a w) : ∀ {r : Ret} {v : Value}, r.plain = true → r.rep (fun b => b < w.heap.size ∧ g.N C b) w w' v → crep C T.ver g w' v (ansC t 0 r) := by
  intro r
  induction r with
  | per A => intro v _ h; exact per_back (fun _ _ h => h) (n0_lt hR) (fun b hb _ => ow_none hR b hb) h
  | own e k es => intro v h; cases h
  | tup2 c d ih1 ih2 =>
    rintro v hp ⟨x, y, rfl, h1, h2⟩
    simp only [Ret.plain, Bool.and_eq_true] at hp
    exact ⟨x, y, rfl, ih1 hp.1 h1, ih2 hp.2 h2⟩
  | tup3 c d e ih1 ih2 ih3 =>
    rintro v hp ⟨x, y, z, rfl, h1, h2, h3⟩
    simp only [Ret.plain, Bool.and_eq_true] at hp
    exact ⟨x, y, z, rfl, ih1 hp.1.1 h1, ih2 hp.1.2 h2, ih3 hp.2 h3⟩
theorem op_call {f : FuncId} {xs : List Operand} {As : List Cnt} {r : Ret} (hp : Pl n o t) (ho : isCall o f xs) (hf : Fn P f As r) (hpl : r.plain = true) (hg : GivesL F S xs As) : OpOk n P ops o F (ansC t 0 r) [] S := by
  refine ⟨?_⟩
  intro C T hA a w ⟨g, hR⟩
  unfold Exec
  rw [if_pos (hp.wanted a)]
  refine callWp hf.ent ho (hf.run _ w (xs.map a.eval) (fun b h => h.1) (hg.rep hA hR)) ?_
  rintro v w' ⟨hx, hr⟩
  exact ⟨g, hR.app0 hx hp.dOk (ans_plain hR hpl hr)⟩
/-- a call that answers with a row of its own (and perhaps with plain things beside it) -/
def Ret.row1 : Ret → Option (Nat × Nat × List (List PV))
  | .own e k es => some (e, k, es)
  | .tup2 (.own e k es) d => if d.plain then some (e, k, es) else none
  | .tup3 (.own e k es) c d => if c.plain && d.plain then some (e, k, es) else none
  | _ => none
end
end Go.Proofs.Ytnpognmpgddncaa
