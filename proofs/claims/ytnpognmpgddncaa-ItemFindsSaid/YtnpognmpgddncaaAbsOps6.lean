/- Operations over abstract states: literals of slices and structs, parts of slices and texts. No program in sight. -/
import Derived.Test.YtnpognmpgddncaaAbsOps5
namespace Go.Proofs.Ytnpognmpgddncaa
open Go.RowKit

section
variable {P : Program} {n : Nat} {ops : Array Oper} {o : Oper} {F : List Nat} {S T : St} {C : Ctx} {g : Gh} {a : Act} {w w' : World} {t : Nat}

/-! ### filling -/
def setP (zs : List PV) (off : Nat) (ps : List PV) : List PV := zs.take off ++ (ps ++ zs.drop (off + ps.length))
def fillP (place : Nat → Option (Nat × Nat)) (zs : List PV) : List (Nat × List PV) → Option (List PV)
  | [] => some zs
  | (i, ps) :: rest => match place i with
    | none => none
    | some (off, size) => bif Nat.beq ps.length size && Nat.ble (off + size) zs.length then fillP place (setP zs off ps) rest else none
theorem foldl_set (vs : List Value) : ∀ (k off : Nat) (cs : Array Value) (i : Nat), off + k + vs.length ≤ cs.size →
    ((vs.zipIdx k).foldl (fun cs (c, j) => cs.setIfInBounds (off + j) c) cs).size = cs.size ∧
    ((vs.zipIdx k).foldl (fun cs (c, j) => cs.setIfInBounds (off + j) c) cs)[i]? = if off + k ≤ i ∧ i < off + k + vs.length then vs[i - (off + k)]? else cs[i]? := by
  induction vs with
  | nil =>
    intro k off cs i _
    refine ⟨rfl, ?_⟩
    rw [if_neg (by simp)]; rfl
  | cons v vs ih =>
    intro k off cs i h
    simp only [List.length_cons] at h
    simp only [List.zipIdx_cons, List.foldl_cons]
    obtain ⟨h1, h2⟩ := ih (k + 1) off (cs.setIfInBounds (off + k) v) i (by rw [Array.size_setIfInBounds]; omega)
    refine ⟨by rw [h1]; simp, ?_⟩
    rw [h2]
    by_cases hi : i = off + k
    · subst hi
      rw [if_neg (by omega), if_pos ⟨Nat.le_refl _, by simp⟩, Array.getElem?_setIfInBounds_self_of_lt (by omega)]
      simp
    · by_cases hin : off + k ≤ i ∧ i < off + k + (vs.length + 1)
      · rw [if_pos (by omega), if_pos (by simpa using hin), show i - (off + k) = (i - (off + (k + 1))) + 1 by omega]
        simp
      · rw [if_neg (by omega), if_neg (by simpa using hin), Array.getElem?_setIfInBounds_ne (Ne.symm hi)]
theorem cells_set {N : BP} {cs : Array Value} {zs ps : List PV} {off : Nat} {vs : Array Value} (h : cellsP N w cs zs) (hv : cellsP N w vs ps) (hl : off + ps.length ≤ zs.length) :
    cellsP N w (vs.zipIdx.foldl (fun cs (c, j) => cs.setIfInBounds (off + j) c) cs) (setP zs off ps) := by
  have hvs := hv.1
  have hcs := h.1
  have hz : vs.zipIdx.foldl (fun cs (c, j) => cs.setIfInBounds (off + j) c) cs = (vs.toList.zipIdx 0).foldl (fun cs (c, j) => cs.setIfInBounds (off + j) c) cs := by
    rw [← Array.foldl_toList, Array.toList_zipIdx]
  rw [hz]
  have hf := fun i => foldl_set vs.toList 0 off cs i (by simp; omega)
  refine ⟨by rw [(hf 0).1]; simp [setP]; omega, fun j A hj => ?_⟩
  rw [(hf j).2]
  unfold setP at hj
  have hta : (zs.take off).length = off := by simp; omega
  simp only [Nat.add_zero, Array.length_toList, Array.getElem?_toList]
  rcases Nat.lt_or_ge j off with hlt | hge
  · rw [List.getElem?_append_left (by omega), List.getElem?_take, if_pos hlt] at hj
    rw [if_neg (by omega)]
    exact h.2 j A hj
  · rw [List.getElem?_append_right (by omega), hta] at hj
    rcases Nat.lt_or_ge j (off + ps.length) with hlt | hge2
    · rw [List.getElem?_append_left (by omega)] at hj
      rw [if_pos ⟨by omega, by omega⟩]
      exact hv.2 _ A hj
    · rw [List.getElem?_append_right (by omega), List.getElem?_drop] at hj
      rw [if_neg (by omega)]
      have := h.2 _ A hj
      rw [show off + ps.length + (j - off - ps.length) = j by omega] at this
      exact this
/-- a part's cells -/
def PartOk (S : St) (x : Operand) (ps : List PV) : Prop := S.opd x = .per (aggP ps) ∨ ∃ A, S.opd x = .per A ∧ OneP A ∧ ps = [A]
theorem part_agg {x : Operand} {ps : List PV} (h : S.opd x = .per (aggP ps)) : PartOk S x ps := .inl h
theorem part_one {x : Operand} {A : PV} (h : S.opd x = .per A) (h1 : OneP A) : PartOk S x [A] := .inr ⟨A, h, h1, rfl⟩
theorem part_raw {x : Operand} {v : Value} (h : S.opd x = .per (rawP v)) (h1 : v.oneCell' = true) (h2 : v.cells = #[v]) : PartOk S x [rawP v] := part_one h (oneP_raw h1 h2)
theorem part_lst {x : Operand} {k : Nat} {es : List (List PV)} (h : S.opd x = .per (lstP k es)) : PartOk S x [lstP k es] := part_one h oneP_lst
inductive PartsL (S : St) : List (Nat × Operand) → List (Nat × List PV) → Prop
  | nil : PartsL S [] []
  | cons {i : Nat} {x : Operand} {ps : List PV} {l : List (Nat × Operand)} {l' : List (Nat × List PV)} (h : PartOk S x ps) (k : PartsL S l l') : PartsL S ((i, x) :: l) ((i, ps) :: l')
theorem PartOk.rep {x : Operand} {ps : List PV} (h : PartOk S x ps) (hA : Agree F T S) (hF : ∀ k ∈ opdN x, k ∈ F) (hR : RG C n T g a w) : cellsP (g.N C) w (a.eval x).cells ps := by
  have hr := opd_rep (x := x) hA hF hR
  rcases h with h | ⟨A, h, h1, rfl⟩
  · rw [h] at hr
    obtain ⟨vs, hv, hc⟩ := hr
    rw [hv]; exact hc
  · rw [h] at hr
    obtain ⟨q1, q2⟩ := h1 _ _ _ hr
    rw [q2]
    refine ⟨rfl, fun j A' hj => ?_⟩
    cases j with
    | zero => simp at hj; subst hj; exact ⟨_, rfl, q1, hr⟩
    | succ j => simp at hj
def partsN (l : List (Nat × Operand)) : List Nat := l.flatMap fun x => opdN x.2
theorem fill_rep {place : Nat → Option (Nat × Nat)} {parts : List (Nat × Operand)} {pps : List (Nat × List PV)} (h : PartsL S parts pps) (hA : Agree F T S) (hF : ∀ k ∈ partsN parts, k ∈ F) (hR : RG C n T g a w) :
    ∀ {cells : Array Value} {zs cs : List PV}, cellsP (g.N C) w cells zs → fillP place zs pps = some cs → ∃ out, Instr.fill place cells (parts.map fun (i, x) => (i, a.eval x)) = some out ∧ cellsP (g.N C) w out cs := by
  induction h with
  | nil => intro cells zs cs hc hf; cases hf; exact ⟨cells, rfl, hc⟩
  | @cons i x ps l l' h k ih =>
    intro cells zs cs hc hf
    have hx := h.rep hA (fun k hk => hF k (by simp [partsN, hk])) hR
    unfold fillP at hf
    cases hp : place i with
    | none => simp only [hp] at hf; cases hf
    | some p =>
      obtain ⟨off, size⟩ := p
      simp only [hp] at hf
      cases hb : (Nat.beq ps.length size && Nat.ble (off + size) zs.length) with
      | false => rw [hb] at hf; cases hf
      | true =>
        rw [hb] at hf
        simp only [cond_true] at hf
        rw [Bool.and_eq_true] at hb
        have h1 := nbeq_true.1 hb.1
        have h2 := Nat.le_of_ble_eq_true hb.2
        have hcs := hc.1
        have hxs := hx.1
        obtain ⟨out, q1, q2⟩ := ih (fun k hk => hF k (by simp only [partsN, List.flatMap_cons, List.mem_append]; exact .inr hk)) (cells_set (off := off) hc hx (by omega)) hf
        refine ⟨out, ?_, q2⟩
        simp only [List.map_cons, Instr.fill, hp]
        rw [if_neg (by simp only [ne_eq, gt_iff_lt, Bool.or_eq_true, decide_eq_true_eq, not_or, Decidable.not_not]; exact ⟨by omega, by omega⟩)]
        exact q1

/-! ### struct literals -/
def rawsP (vs : List Value) : List PV := vs.map rawP
theorem cellsP_raws {N : BP} {vs : Array Value} (h : vs.toList.all (·.oneCell') = true) : cellsP N w vs (rawsP vs.toList) := by
  refine ⟨by simp [rawsP], fun j A hj => ?_⟩
  unfold rawsP at hj
  rw [List.getElem?_map] at hj
  cases hv : vs.toList[j]? with
  | none => rw [hv] at hj; cases hj
  | some y =>
    rw [hv] at hj; cases hj
    rw [List.all_eq_true] at h
    exact ⟨y, by simpa using hv, h y (List.mem_of_getElem? hv), rfl⟩
theorem zero_run {ty : TypeId} {z : Value} (hz : (P.info? ty).bind (·.zero) = some z) : (zeroValue ty).run P w = .ok z w := by
  cases hi : P.info? ty with
  | none => rw [hi] at hz; cases hz
  | some i =>
    rw [hi] at hz
    simp only [Option.bind_some] at hz
    simp [zeroValue, typeInfo, program, Sem.run, hi, hz]
/-- a struct type's places -/
def plsOf (P : Program) (ty : TypeId) : Option (List (Nat × Nat)) := match P.underlying ty with
  | some (.struct fs) => fs.toList.mapM (fun f => (P.info? f.type).map fun i => (f.offset, i.size))
  | _ => none
theorem built_of {ty : TypeId} {z : Value} {ls : List (Nat × Nat)} {parts : List (Nat × Value)} {out : Array Value} (hl : plsOf P ty = some ls) (hz : (P.info? ty).bind (·.zero) = some z)
    (h : Instr.fill (fun i => ls[i]?) z.cells parts = some out) : P.built ty parts = some out := by
  unfold plsOf at hl
  unfold Program.built
  cases hi : P.info? ty with
  | none => rw [hi] at hz; cases hz
  | some it =>
    rw [hi] at hz
    simp only [Option.bind_some] at hz
    split at hl
    · rename_i fs hu
      simp only [hu, hz, hl]
      simpa using h
    · cases hl
theorem op_build {ty : TypeId} {z : Value} {ls : List (Nat × Nat)} {parts : List (Nat × Operand)} {pps : List (Nat × List PV)} {cs : List PV} (hp : Pl n o t) (ho : o.op = .build ty parts.toArray) (hl : plsOf P ty = some ls) (hz : (P.info? ty).bind (·.zero) = some z)
    (h1 : z.cells.toList.all (·.oneCell') = true) (hpt : PartsL S parts pps) (hf : fillP (fun i => ls[i]?) (rawsP z.cells.toList) pps = some cs) : OpOk n P ops o (partsN parts) (.per (aggP cs)) [] S :=
  op_val hp fun C T g a w hA hR => by
    obtain ⟨out, r1, r2⟩ := fill_rep hpt hA (fun k h => h) hR (cellsP_raws h1) hf
    refine ⟨.agg out, ?_, out, rfl, r2⟩
    simp only [execOp, ho, Sem.run_bind]
    rw [run_build w ty _ out (by rw [show ((parts.toArray.map fun (x : Nat × Operand) => (x.1, a.eval x.2)).toList) = parts.map fun (i, x) => (i, a.eval x) by simp]; exact built_of hl hz r1)]
    rfl

/-! ### slice literals -/
def chunk (k : Nat) : Nat → List PV → List (List PV)
  | 0, _ => []
  | m + 1, l => l.take k :: chunk k m (l.drop k)
theorem chunk_len (k : Nat) : ∀ (m : Nat) (l : List PV), (chunk k m l).length = m := by
  intro m
  induction m with
  | zero => intro l; rfl
  | succ m ih => intro l; simp [chunk, ih]
theorem chunk_get (k : Nat) : ∀ (m : Nat) (l : List PV) (i : Nat) (ps : List PV), (chunk k m l)[i]? = some ps → ps = (l.drop (i * k)).take k ∧ i < m := by
  intro m
  induction m with
  | zero => intro l i ps h; simp [chunk] at h
  | succ m ih =>
    intro l i ps h
    cases i with
    | zero => simp [chunk] at h; subst h; simp
    | succ i =>
      simp only [chunk, List.getElem?_cons_succ] at h
      obtain ⟨h1, h2⟩ := ih _ _ _ h
      refine ⟨?_, by omega⟩
      rw [h1, List.drop_drop, Nat.succ_mul, Nat.add_comm]
def zrep (k len : Nat) (zs : List Value) : List PV := (List.range (len * k)).map fun i => rawP (zs.getD (i % zs.length) default)
theorem bslice_gen {ty e k bytes len : Nat} {z : Value} {parts : List (Nat × Operand)} {pps : List (Nat × List PV)} {cs : List PV} (hT : TI P ty e k bytes) (hk : 0 < k) (hlen : 0 < len) (hz : (P.info? e).bind (·.zero) = some z)
    (h1 : z.cells.toList.all (·.oneCell') = true) (hzk : z.cells.size = k) (hsm : len * k ≤ 16777216) (hA : Agree F T S) (hF : ∀ k ∈ partsN parts, k ∈ F) (hR : RG C n T g a w) (hpt : PartsL S parts pps)
    (hf : fillP (fun i => some (i * k, k)) (zrep k len z.cells.toList) pps = some cs) :
    ∃ out : Array Value, (Instr.buildSlice ty len (parts.toArray.map fun (i, x) => (i, a.eval x))).run P w = .ok (.slice (some ⟨w.heap.size, 0, none⟩) len len) (w.alloc (.cells out e)) ∧ cellsP (g.N C) w out cs := by
  obtain ⟨i, z', hi, hz', hs1, hs2, hs3⟩ := hT.info
  rw [hi] at hz
  simp only [Option.bind_some] at hz
  rw [hz'] at hz; cases hz
  have hpos : 0 < len * k := Nat.mul_pos hlen hk
  have hbase : cellsP (g.N C) w ((Array.range (len * k)).map (z.cells[· % z.cells.size]!)) (zrep k len z.cells.toList) := by
    refine ⟨by simp [zrep], fun j A hj => ?_⟩
    unfold zrep at hj
    rw [List.getElem?_map] at hj
    cases hr : (List.range (len * k))[j]? with
    | none => rw [hr] at hj; cases hj
    | some q =>
      rw [hr] at hj; cases hj
      have hjl : j < len * k := by
        rcases Nat.lt_or_ge j (len * k) with h | h
        · exact h
        · rw [List.getElem?_eq_none (by simpa using h)] at hr; cases hr
      have hq : q = j := by simpa [hjl] using hr.symm
      subst hq
      have hm : q % z.cells.size < z.cells.size := Nat.mod_lt _ (by omega)
      refine ⟨z.cells[q % z.cells.size]!, by simp [hjl], ?_, ?_⟩
      · rw [List.all_eq_true] at h1
        rw [getElem!_pos z.cells _ hm]
        exact h1 _ (by simp)
      · show _ = _
        simp [List.getD_eq_getElem?_getD, hm]
  obtain ⟨out, q1, q2⟩ := fill_rep hpt hA hF hR hbase hf
  refine ⟨out, ?_, q2⟩
  refine run_buildSlice w ty e len _ out i z hT.und hi hz' (by rw [hs1]; omega) (by rw [hs1]; omega) ?_
  rw [hs1]
  simpa using q1
theorem fill_len {place : Nat → Option (Nat × Nat)} : ∀ {pps : List (Nat × List PV)} {zs cs : List PV}, fillP place zs pps = some cs → cs.length = zs.length := by
  intro pps
  induction pps with
  | nil => intro zs cs h; cases h; rfl
  | cons p l ih =>
    obtain ⟨i, ps⟩ := p
    intro zs cs h
    unfold fillP at h
    cases hp : place i with
    | none => simp only [hp] at h; cases h
    | some q =>
      obtain ⟨off, size⟩ := q
      simp only [hp] at h
      cases hb : (Nat.beq ps.length size && Nat.ble (off + size) zs.length) with
      | false => rw [hb] at h; cases h
      | true =>
        rw [hb] at h
        rw [Bool.and_eq_true] at hb
        have h1 := nbeq_true.1 hb.1
        have h2 := Nat.le_of_ble_eq_true hb.2
        rw [ih h]; simp [setP]; omega
/-- a slice of what nobody turns -/
theorem op_bslice {ty e k bytes len : Nat} {z : Value} {parts : List (Nat × Operand)} {pps : List (Nat × List PV)} {cs : List PV} (hp : Pl n o t) (ho : o.op = .buildSlice ty len parts.toArray) (hT : TI P ty e k bytes) (hk : Nat.blt 0 k = true) (hlen : Nat.blt 0 len = true) (hz : (P.info? e).bind (·.zero) = some z)
    (h1 : z.cells.toList.all (·.oneCell') = true) (hzk : z.cells.size = k) (hsm : Nat.ble (len * k) 16777216 = true) (hpt : PartsL S parts pps) (hf : fillP (fun i => some (i * k, k)) (zrep k len z.cells.toList) pps = some cs) :
    OpOk n P ops o (partsN parts) (.per (lstP k (chunk k len cs))) [] S := by
  refine ⟨?_⟩
  intro C T hA a w ⟨g, hR⟩
  have hk := Nat.le_of_ble_eq_true hk
  have hlen := Nat.le_of_ble_eq_true hlen
  obtain ⟨out, r1, r2⟩ := bslice_gen (P := P) hT hk hlen hz h1 hzk (Nat.le_of_ble_eq_true hsm) hA (fun k h => h) hR hpt hf
  unfold Exec
  rw [if_pos (hp.wanted a)]
  unfold Oper.wp
  have hex : (execOp a.eval o).run P w = .ok (.value (.slice (some ⟨w.heap.size, 0, none⟩) len len)) (w.alloc (.cells out e)) := by
    simp only [execOp, ho, Sem.run_bind]
    rw [r1]; rfl
  rw [hex, Oper.upon_value]
  have hcl : cs.length = len * k := by rw [fill_len hf]; simp [zrep]
  refine ⟨g, hR.app0 ((Ext.refl w).alloc _) hp.dOk ?_⟩
  show lstAt (g.N C) (g.N C) k (chunk k len cs) _ _
  have hcl2 := chunk_len k len cs
  refine ⟨_, len, w.heap.size, 0, by rw [hcl2], by omega, by have := Nat.le_of_ble_eq_true hsm; have : len ≤ len * k := Nat.le_mul_of_pos_right _ hk; unfold maxLen; omega, by simp, fun _ => ⟨rfl, alloc_lt _ _, fun hn => ?_⟩, fun i ps hi => ?_⟩
  · rcases hn with hn | hn
    · exact n0_lt hR _ (Nat.le_refl _) hn
    · exact hn (ow_none hR _ (Nat.le_refl _))
  · obtain ⟨q1, q2⟩ := chunk_get k len cs i ps hi
    have hik : i * k + k ≤ len * k := by have := Nat.mul_le_mul_right k (show i + 1 ≤ len from q2); rw [Nat.succ_mul] at this; exact this
    refine ⟨by rw [q1]; simp; omega, fun j A hj => ?_⟩
    rw [q1, List.getElem?_take] at hj
    split at hj
    · rw [List.getElem?_drop] at hj
      obtain ⟨y, s1, s2, s3⟩ := r2.2 _ A hj
      refine ⟨y, ?_, s2, A.mono (by simp) (fun b hb _ => Below.heap_alloc _ _ _ hb) (fun _ _ h => h) s3⟩
      rw [Nat.zero_add, cell_at (heap_alloc_new w _)]; exact s1
    · cases hj
/-- a slice that the call will go on with: a row -/
theorem op_bslice_row {ty e k bytes len : Nat} {z : Value} {parts : List (Nat × Operand)} {pps : List (Nat × List PV)} {cs : List PV} (hp : Pl n o t) (ho : o.op = .buildSlice ty len parts.toArray) (hT : TI P ty e k bytes) (hk : Nat.blt 0 k = true) (hlen : Nat.blt 0 len = true) (hz : (P.info? e).bind (·.zero) = some z)
    (h1 : z.cells.toList.all (·.oneCell') = true) (hzk : z.cells.size = k) (hsm : Nat.ble (len * k) 16777216 = true) (hpt : PartsL S parts pps) (hf : fillP (fun i => some (i * k, k)) (zrep k len z.cells.toList) pps = some cs) :
    OpOk n P ops o ((2 * t + 1) :: partsN parts) (.row t (S.ver t + 1)) [(t, S.ver t + 1, .row e k (chunk k len cs))] S :=
  op_mk hp (by simp) fun C T g a w hA hR => by
    have hk := Nat.le_of_ble_eq_true hk
    have hlen := Nat.le_of_ble_eq_true hlen
    obtain ⟨out, r1, r2⟩ := bslice_gen (P := P) hT hk hlen hz h1 hzk (Nat.le_of_ble_eq_true hsm) hA (fun k h => by simp [h]) hR hpt hf
    have hcl : cs.length = len * k := by rw [fill_len hf]; simp [zrep]
    have hcl2 := chunk_len k len cs
    refine ⟨.slice (some ⟨w.heap.size, 0, none⟩) len len, w.alloc (.cells out e), w.heap.size, ?_, (Ext.refl w).alloc _, Nat.le_refl _, alloc_lt _ _, fun vr' hvr hst => ⟨?_, ?_⟩⟩
    · simp only [execOp, ho, Sem.run_bind]
      rw [r1]; rfl
    · exact ⟨by rw [hvr, if_pos rfl]; exact Nat.le_refl _, fun _ => (if_pos rfl).symm⟩
    · have hph : (g.mk1 t w.heap.size (.slice (some ⟨w.heap.size, 0, none⟩) len len)).ph t = w.heap.size := if_pos rfl
      have hrh : (g.mk1 t w.heap.size (.slice (some ⟨w.heap.size, 0, none⟩) len len)).rh t = .slice (some ⟨w.heap.size, 0, none⟩) len len := if_pos rfl
      refine .inr ⟨len, out, by rw [hrh, hph, hcl2], by rw [hph]; exact heap_alloc_new w _, by rw [hph]; exact if_pos rfl, by omega, by have := Nat.le_of_ble_eq_true hsm; have : len ≤ len * k := Nat.le_mul_of_pos_right _ hk; unfold maxLen; omega, by rw [r2.1, hcl], fun i ps hi => ?_⟩
      obtain ⟨q1, q2⟩ := chunk_get k len cs i ps hi
      have hik : i * k + k ≤ len * k := by have := Nat.mul_le_mul_right k (show i + 1 ≤ len from q2); rw [Nat.succ_mul] at this; exact this
      refine ⟨by rw [q1]; simp; omega, fun j A hj => ?_⟩
      rw [q1, List.getElem?_take] at hj
      split at hj
      · rw [List.getElem?_drop] at hj
        obtain ⟨y, s1, s2, s3⟩ := r2.2 _ A hj
        exact ⟨y, s1, s2, A.mono hst.sz hst.keepN hst.n s3⟩
      · cases hj
/-- '[]T{}' -/
theorem op_bslice0 {ty e k bytes : Nat} (hp : Pl n o t) (ho : o.op = .buildSlice ty 0 #[]) (hT : TI P ty e k bytes) :
    OpOk n P ops o [2 * t + 1] (.row t (S.ver t + 1)) [(t, S.ver t + 1, .row e k [])] S :=
  op_mk hp (by simp) fun C T g a w hA hR => by
    obtain ⟨i, z', hi, hz', hs1, hs2, hs3⟩ := hT.info
    refine ⟨.slice (some ⟨w.heap.size, 0, none⟩) 0 0, w.alloc (.cells #[] e), w.heap.size, ?_, (Ext.refl w).alloc _, Nat.le_refl _, alloc_lt _ _, fun vr' hvr hst => ⟨?_, ?_⟩⟩
    · simp only [execOp, ho, Sem.run_bind, Instr.buildSlice, run_underlying hT.und, Result.andThen_ok]
      simp [sizeOf, typeInfo, program, Sem.run, hi, Instr.fill, newRow, newObj, Array.range_zero']
    · exact ⟨by rw [hvr, if_pos rfl]; exact Nat.le_refl _, fun _ => (if_pos rfl).symm⟩
    · have hph : (g.mk1 t w.heap.size (.slice (some ⟨w.heap.size, 0, none⟩) 0 0)).ph t = w.heap.size := if_pos rfl
      have hrh : (g.mk1 t w.heap.size (.slice (some ⟨w.heap.size, 0, none⟩) 0 0)).rh t = .slice (some ⟨w.heap.size, 0, none⟩) 0 0 := if_pos rfl
      exact .inr ⟨0, #[], by rw [hrh, hph]; rfl, by rw [hph]; exact heap_alloc_new w _, by rw [hph]; exact if_pos rfl, by simp, by decide, by simp, fun i ps hi => by simp at hi⟩
end
end Go.Proofs.Ytnpognmpgddncaa
