/- The rules of references and of lent things, as a walk uses them. No program in sight. -/
import Derived.Test.YtnpognmpgddncaaAbsN
namespace Go.Proofs.Ytnpognmpgddncaa
open Go.RowKit
theorem rem_pos {p q : Int} (h : 0 ≤ p) : p.tmod q = p % q := Int.tmod_eq_emod_of_nonneg h
theorem quo_pos {p q : Int} (h : 0 ≤ p) (h1 : -9223372036854775808 ≤ p / q) (h2 : p / q ≤ 9223372036854775807) : IntKind.i64.wrap (p.tdiv q) = p / q := by
  rw [Int.tdiv_eq_ediv_of_nonneg h]; exact wrap_id64 h1 h2
theorem sub_one {n : Nat} (h : n ≤ 9223372036854775806) : IntKind.i64.wrap (((n + 1 : Nat) : Int) - 1) = (n : Int) := by
  rw [wrap_id64 (by omega) (by omega)]; omega
theorem sub_one' {n : Nat} (h : n ≤ 9223372036854775806) : IntKind.i64.wrap ((n : Int) + 1 - 1) = (n : Int) := by
  rw [wrap_id64 (by omega) (by omega)]; omega
theorem wrap_byte (c : UInt8) : IntKind.i64.wrap (c.toNat : Int) = (c.toNat : Int) := wrap_id64 (by omega) (by have := c.toNat_lt; omega)
/-- the blocks that a content speaks of -/
def idsC : Cnt → List Nat
  | .row id _ => [2 * id + 1]
  | .ptr id _ _ => [2 * id + 1]
  | .ept id _ _ _ _ => [2 * id + 1]
  | _ => []
section
variable {P : Program} {n : Nat} {ops : Array Oper} {o : Oper} {F F' : List Nat} {S : St} {t : Nat} {c : Cnt}
theorem OneC.mono (h : OneC F S c) (hF : ∀ k ∈ F, k ∈ F') : OneC F' S c := fun n C T g a w v hA hR hc => h n C T g a w v ⟨fun t ht => hA.1 t (hF _ ht), fun i hi => hA.2 i (hF _ hi)⟩ hR hc
def OneQ (S : St) (c : Cnt) : Prop := OneC (idsC c) S c
theorem oneQ_per {A : PV} (h : OneP A) : OneQ S (.per A) := oneC_per h
theorem oneQ_ptr {id vr off : Nat} (hv : S.ver id = vr) : OneQ S (.ptr id vr off) := oneC_ptr hv (by simp [idsC])
theorem oneQ_row {id vr e k : Nat} {es : List (List PV)} (hv : S.ver id = vr) (hb : S.blk id = .row e k es) : OneQ S (.row id vr) := oneC_row hv hb (by simp [idsC])
theorem oneQ_obj {id vr : Nat} {A : OV} (hv : S.ver id = vr) (hb : S.blk id = .obj A) : OneQ S (.row id vr) := oneC_obj hv hb (by simp [idsC])
theorem oneQ_clo1 {f : FuncId} {c : Cnt} : OneQ S (.clo1 f c) := oneC_clo1
theorem oneQ_clo2 {f : FuncId} {c d : Cnt} : OneQ S (.clo2 f c d) := oneC_clo2
theorem oneQ_clo3 {f : FuncId} {c d e : Cnt} : OneQ S (.clo3 f c d e) := oneC_clo3
theorem u_box_c {e : TypeId} {x : Operand} (hp : Pl n o t) (ho : o.op = .box e x) (hx : S.opd x = c) (h1 : OneQ S c) :
    OpOk n P ops o ((2 * t + 1) :: (opdN x ++ idsC c)) (.ptr t (S.ver t + 1) 0) [(t, S.ver t + 1, .box e [c])] S := op_box_c hp ho hx (fun k h => by simp [h]) (by simp) (OneC.mono h1 fun k h => by simp [h])
theorem u_store_c {ty : TypeId} {x y : Operand} {id vr off : Nat} {e : TypeId} {cells : List Cnt} (hp : Pl0 o) (ho : o.op = .store ty x y) (hk : Siz P ty 1)
    (hx : S.opd x = .ptr id vr off) (hv : S.ver id = vr) (hb : S.blk id = .box e cells) (hl : Nat.ble (off + 1) cells.length = true) (hy : S.opd y = c) (h1 : OneQ S c) :
    OpOk n P ops o ((2 * id + 1) :: (opdN x ++ opdN y ++ idsC c)) .any [(id, vr, .box e (setL cells off [c]))] S :=
  op_store_c hp ho hk.h hx hv hb hl hy (by simp) (fun k h => by simp [h]) (fun k h => by simp [h]) (OneC.mono h1 fun k h => by simp [h])
theorem u_store_aggC {ty : TypeId} {x y : Operand} {id vr off k : Nat} {e : TypeId} {cells cs : List Cnt} (hp : Pl0 o) (ho : o.op = .store ty x y) (hk : Siz P ty k) (h0 : Nat.blt 0 k = true)
    (hx : S.opd x = .ptr id vr off) (hv : S.ver id = vr) (hb : S.blk id = .box e cells) (hl : Nat.ble (off + k) cells.length = true) (hy : cellsL (S.opd y) = some cs) (hn : Nat.beq cs.length k = true) :
    OpOk n P ops o ((2 * id + 1) :: (opdN x ++ opdN y)) .any [(id, vr, .box e (setL cells off cs))] S := op_store_aggC hp ho hk.h h0 hx hv hb hl hy hn
theorem u_loadC {ty : TypeId} {x : Operand} {id vr off k : Nat} {e : TypeId} {cells : List Cnt} (hp : Pl n o t) (ho : o.op = .load ty x) (hT : AggC P ty true) (hk : Siz P ty k) (h0 : Nat.blt 0 k = true)
    (hx : S.opd x = .ptr id vr off) (hv : S.ver id = vr) (hb : S.blk id = .box e cells) (hl : Nat.ble (off + k) cells.length = true) (hc : aggOf ((cells.drop off).take k) = c) : OpOk n P ops o ((2 * id + 1) :: opdN x) c [] S := by
  obtain ⟨d, h1, h2⟩ := hT.h; subst hc; exact op_loadC hp ho h1 h2 hk.h h0 hx hv hb hl
def PartQ (S : St) (x : Operand) (ps : List Cnt) : Prop := (∃ As, S.opd x = .per (aggP As) ∧ ps = As.map .per) ∨ (∃ c, S.opd x = c ∧ OneQ S c ∧ ps = [c]) ∨ cellsL (S.opd x) = some ps
theorem partQ_agg {x : Operand} {As : List PV} (h : S.opd x = .per (aggP As)) : PartQ S x (As.map .per) := .inl ⟨As, h, rfl⟩
theorem partQ_one {x : Operand} {c : Cnt} (h : S.opd x = c) (h1 : OneQ S c) : PartQ S x [c] := .inr (.inl ⟨c, h, h1, rfl⟩)
theorem partQ_l {x : Operand} {ps : List Cnt} (h : cellsL (S.opd x) = some ps) : PartQ S x ps := .inr (.inr h)
inductive PartsQ (S : St) : List (Nat × Operand) → List (Nat × List Cnt) → Prop
  | nil : PartsQ S [] []
  | cons {i : Nat} {x : Operand} {ps : List Cnt} {l : List (Nat × Operand)} {l' : List (Nat × List Cnt)} (h : PartQ S x ps) (k : PartsQ S l l') : PartsQ S ((i, x) :: l) ((i, ps) :: l')
def partsI (S : St) (l : List (Nat × Operand)) : List Nat := l.flatMap fun x => opdN x.2 ++ idsC (S.opd x.2)
theorem PartsQ.toC {l : List (Nat × Operand)} {l' : List (Nat × List Cnt)} (h : PartsQ S l l') {F : List Nat} (hF : ∀ k ∈ partsI S l, k ∈ F) : PartsC F S l l' := by
  induction h with
  | nil => exact .nil
  | @cons i x ps l l' h k ih =>
    refine .cons ?_ (ih fun k hk => hF k (by simp only [partsI, List.flatMap_cons, List.mem_append]; exact .inr hk))
    rcases h with h | ⟨c, h, h1, rfl⟩ | h
    · exact .inl h
    · exact .inr (.inl ⟨c, h, OneC.mono h1 (fun k hk => hF k (by simp only [partsI, List.flatMap_cons, List.mem_append]; exact .inl (.inr (by rw [h]; exact hk)))), rfl⟩)
    · exact .inr (.inr h)
theorem u_buildC {ty : TypeId} {z : Value} {ls : List (Nat × Nat)} {parts : List (Nat × Operand)} {pps : List (Nat × List Cnt)} {cs : List Cnt} (hp : Pl n o t) (ho : o.op = .build ty parts.toArray) (hl : PlsC P ty ls) (hz : Zro P ty z)
    (h1 : z.cells.toList.all (·.oneCell') = true) (hpt : PartsQ S parts pps) (hf : fillC (fun i => ls[i]?) (z.cells.toList.map rawC) pps = some cs) (hc : aggOf cs = c) : OpOk n P ops o (partsI S parts) c [] S := by
  subst hc
  exact op_buildC hp ho hl.h hz.h h1 (fun k hk => by
    simp only [partsN, List.mem_flatMap] at hk
    obtain ⟨x, q1, q2⟩ := hk
    simp only [partsI, List.mem_flatMap, List.mem_append]
    exact ⟨x, q1, .inl q2⟩) (hpt.toC fun _ h => h) hf
theorem u_store_r {ty : TypeId} {x y : Operand} {id vr e k i j m : Nat} {es es' : List (List PV)} {ps As : List PV} (hp : Pl0 o) (ho : o.op = .store ty x y) (hk : Siz P ty m) (h0 : Nat.blt 0 m = true)
    (hx : S.opd x = .ept id vr k i j) (hv : S.ver id = vr) (hb : S.blk id = .row e k es) (hi : es[i]? = some ps) (hl : Nat.ble (j + m) k = true)
    (hy : PartOk S y As) (hn : As.length = m) (he : es.set i (setP ps j As) = es') : OpOk n P ops o ((2 * id + 1) :: (opdN x ++ opdN y)) .any [(id, vr, .row e k es')] S :=
  op_store_r hp ho hk.h h0 hx hv hb hi hl hy hn he
theorem u_indexZ {α : Type} {ty e : TypeId} {x ix : Operand} {k : Nat} {kk : IntKind} {z : Int} {l : List α} {f : α → List PV} (hp : Pl n o t) (ho : o.op = .indexAddr ty x ix) (hT : Und P ty (.slice e)) (hk : Siz P e k) (h0 : Nat.blt 0 k = true) (hx : S.opd x = .per (lstP k (l.map f))) (hi : S.opd ix = iC kk z) (hz : 0 ≤ z) (hlt : z.toNat < l.length) :
    OpOk n P ops o (opdN x ++ opdN ix) (.per (rptrP (f (l[z.toNat]'hlt)))) [] S := u_index hp ho hT hk h0 hx hi (i := z.toNat) (by omega) (map_get hlt)
theorem u_indexZ_b {α : Type} {ty e : TypeId} {x ix : Operand} {k : Nat} {kk : IntKind} {z : Int} {l : List α} {f : α → List PV} (hp : Pl n o t) (ho : o.op = .indexAddr ty x ix) (hT : Und P ty (.slice e)) (hk : Siz P e k) (h0 : Nat.blt 0 k = true) (hx : S.opd x = .bor k (l.map f)) (hi : S.opd ix = iC kk z) (hz : 0 ≤ z) (hlt : z.toNat < l.length) :
    OpOk n P ops o (opdN x ++ opdN ix) (.bpt (f (l[z.toNat]'hlt))) [] S := u_index_b hp ho hT hk h0 hx hi (i := z.toNat) (by omega) (map_get hlt)
theorem u_indexZ_r {ty e' : TypeId} {x ix : Operand} {id vr e k : Nat} {kk : IntKind} {z : Int} {es : List (List PV)} (hp : Pl n o t) (ho : o.op = .indexAddr ty x ix) (hT : Und P ty (.slice e')) (hk : Siz P e' k) (h0 : Nat.blt 0 k = true) (hx : S.opd x = .row id vr) (hv : S.ver id = vr) (hb : S.blk id = .row e k es) (hi : S.opd ix = iC kk z) (hz : 0 ≤ z) (hlt : z.toNat < es.length) :
    OpOk n P ops o ((2 * id + 1) :: (opdN x ++ opdN ix)) (.ept id vr k z.toNat 0) [] S := u_index_r hp ho hT hk h0 hx hv hb hi (by omega) hlt
theorem u_sindexZ {ty : TypeId} {x ix : Operand} {kk : IntKind} {z : Int} {s : ByteArray} (hp : Pl n o t) (ho : o.op = .index ty x ix) (hT : Und P ty .string) (hx : S.opd x = sC s) (hi : S.opd ix = iC kk z) (hz : 0 ≤ z) (hlt : z.toNat < s.data.toList.length) :
    OpOk n P ops o (opdN x ++ opdN ix) (iC .u8 ((s.data.toList[z.toNat]'hlt).toNat : Int)) [] S := u_sindex hp ho hT hx hi (i := z.toNat) (by omega) (List.getElem?_eq_getElem hlt)
theorem op_scat {ty ty' : TypeId} {x y : Operand} {s u : ByteArray} (hp : Pl n o t) (ho : o.op = .binOp .add ty x y ty') (hx : S.opd x = sC s) (hy : S.opd y = sC u) (hb : s.size + u.size ≤ 9223372036854775807) : OpOk n P ops o (opdN x ++ opdN y) (sC (s ++ u)) [] S :=
  op_val hp fun C T g a w hA hR => by
    have h1 := raw_opd (x := x) hA (fun k h => by simp [h]) hR hx
    have h2 := raw_opd (x := y) hA (fun k h => by simp [h]) hR hy
    refine ⟨.string (s ++ u), exec_bin ho h1 h2 ?_, rfl⟩
    rw [show eqGuard .add ty x y (.string s) (.string u) = pure () from rfl]
    simp [binOp, Op.stringOp]
    omega
theorem u_eqnil {ty ty' e : TypeId} {x : Operand} (hp : Pl n o t) (ho : o.op = .binOp .eql ty x (.const (.pointer none)) ty') (hT : Und P ty (.pointer e)) (hx : SurePtr F S x) : OpOk n P ops o F (bC false) [] S := op_eqnil hp ho hT.h hx
theorem u_nenil {ty ty' e : TypeId} {x : Operand} (hp : Pl n o t) (ho : o.op = .binOp .neq ty x (.const (.pointer none)) ty') (hT : Und P ty (.pointer e)) (hx : SurePtr F S x) : OpOk n P ops o F (bC true) [] S := op_nenil hp ho hT.h hx
theorem u_eqnil0 {ty ty' e : TypeId} {x : Operand} (hp : Pl n o t) (ho : o.op = .binOp .eql ty x (.const (.pointer none)) ty') (hT : Und P ty (.pointer e)) (hx : S.opd x = .per (rawP (.pointer none))) : OpOk n P ops o (opdN x) (bC true) [] S := op_eqnil0 hp ho hT.h hx
theorem u_nenil0 {ty ty' e : TypeId} {x : Operand} (hp : Pl n o t) (ho : o.op = .binOp .neq ty x (.const (.pointer none)) ty') (hT : Und P ty (.pointer e)) (hx : S.opd x = .per (rawP (.pointer none))) : OpOk n P ops o (opdN x) (bC false) [] S := op_nenil0 hp ho hT.h hx

/-! ### calls with something lent -/
theorem GivesM.mono {sg : List (Nat × Nat)} {x : Operand} (h : GivesM F S sg x c) (hF : ∀ k ∈ F, k ∈ F') : GivesM F' S sg x c := fun n C T g a w hA hR => h n C T g a w ⟨fun t ht => hA.1 t (hF _ ht), fun i hi => hA.2 i (hF _ hi)⟩ hR
def sgN (sg : List (Nat × Nat)) : List Nat := sg.map fun p => 2 * p.2 + 1
inductive GMl (S : St) (sg : List (Nat × Nat)) : List Operand → List Cnt → Prop
  | nil : GMl S sg [] []
  | cons {x : Operand} {c : Cnt} {xs : List Operand} {cs : List Cnt} (h : GivesM (srcN S x ++ sgN sg) S sg x c) (t : GMl S sg xs cs) : GMl S sg (x :: xs) (c :: cs)
theorem GMl.gives {sg : List (Nat × Nat)} {xs : List Operand} {cs : List Cnt} (h : GMl S sg xs cs) {F : List Nat} (hF : ∀ k ∈ callN S xs, k ∈ F) (hS : ∀ k ∈ sgN sg, k ∈ F) : GivesML F S sg xs cs := by
  induction h with
  | nil => exact .nil
  | cons h t ih => exact .cons (h.mono (fun k hk => by
      rcases List.mem_append.1 hk with q | q
      · exact hF k (by simp [callN, q])
      · exact hS k q)) (ih (fun k hk => hF k (by simp only [callN, List.flatMap_cons, List.mem_append]; exact .inr hk)))
theorem GivesML.snoc0 {sg : List (Nat × Nat)} {x : Operand} {xs : List Operand} {cs : List Cnt} (h : GivesM F S sg x c) (t : GivesML F S sg xs cs) : GivesML F S sg (x :: xs) (c :: cs) := .cons h t
section
variable {sg : List (Nat × Nat)} {x : Operand}
theorem gq_per {A : PV} (hx : S.opd x = .per A) : GivesM (srcN S x ++ sgN sg) S sg x (.per A) := fun n C T g a w hA hR => by
  have h := opd_rep (x := x) hA (fun k h => by simp [srcN, h]) hR
  rw [hx] at h
  exact A.mono (Nat.le_refl _) (fun _ _ _ => rfl) (fun b _ h => sub_N b h) h
theorem gq_lst {k : Nat} {es : List (List PV)} (hx : S.opd x = .per (lstP k es)) : GivesM (srcN S x ++ sgN sg) S sg x (.bor k es) := gm_lst hx (fun k h => by simp [srcN, h])
theorem gq_bor {k : Nat} {es : List (List PV)} (hx : S.opd x = .bor k es) : GivesM (srcN S x ++ sgN sg) S sg x (.bor k es) := fun n C T g a w hA hR => by
  have h := opd_rep (x := x) hA (fun k h => by simp [srcN, h]) hR
  rw [hx] at h
  exact lstAt.mono (Nat.le_refl _) (fun _ _ _ => rfl) (fun _ _ _ => rfl) (fun b _ h => sub_M b h) (fun b _ h => sub_N b h) h
theorem gq_row {id vr e k : Nat} {es : List (List PV)} (hx : S.opd x = .row id vr) (hv : S.ver id = vr) (hb : S.blk id = .row e k es) (hid : lk2 sg id = none) : GivesM (srcN S x ++ sgN sg) S sg x (.bor k es) :=
  gm_row hx hv hb (fun k h => by simp [srcN, h]) (by simp [srcN, hx, rowN]) hid
theorem gq_nil {k : Nat} (hx : S.opd x = .per (rawP (.slice none 0 0))) : GivesM (srcN S x ++ sgN sg) S sg x (.bor k []) := gm_nil hx (fun k h => by simp [srcN, h])
theorem gq_nil' {k : Nat} (hx : S.opd x = .per (rawP (.slice none 0 0))) : GivesM (srcN S x ++ sgN sg) S sg x (.per (lstP k [])) := gm_nil' hx (fun k h => by simp [srcN, h])
theorem gq_ref (hok : ok1 sg = true) (h : (S.opd x).mp true (lk2 sg) S.ver z0 = c) : GivesM (srcN S x ++ sgN sg) S sg x c := gm_gen hok (fun k h => by simp [srcN, h]) (fun p hp => by simp only [sgN, List.mem_append, List.mem_map]; exact .inr ⟨p, hp, rfl⟩) h
end
theorem sg_mem {sg : List (Nat × Nat)} : ∀ p ∈ sg, 2 * p.2 + 1 ∈ sgN sg := fun p hp => List.mem_map.2 ⟨p, hp, rfl⟩
/-- a call of a known function -/
theorem c_M {f : FuncId} {xs : List Operand} {As : List Cnt} {pre post : List (Nat × Blk)} {r : Cnt} (sg : List (Nat × Nat)) (hf : FnM P f As pre r post) (hp : PlM n o := by exact ⟨rfl, rfl⟩) (ho : isCallV o (.func f) xs := by exact ⟨_, rfl⟩) (hok : okS sg = true := by rfl)
    (hg : GMl S sg xs As := by first | ((repeat (first | exact GMl.nil | (refine GMl.cons ?_ ?_; focus (first | exact gq_per rfl | exact gq_lst rfl | exact gq_row rfl rfl rfl rfl | exact gq_bor rfl | exact gq_nil rfl | exact gq_nil' rfl | exact gq_ref rfl rfl)))); done) | fail) (hpre : PreM S sg pre := by first | ((repeat (first | exact PreM.nil | (refine PreM.cons rfl rfl ?_))); done) | fail) : OpOk n P ops o (callN S xs ++ sgN sg) (r.mp false (lk1 sg) z0 (nvM S.ver sg)) (updM S post sg sg) S :=
  op_callM (cs := []) sg hp ho head_f (by simpa using hf) hok (fun p h => by simp [sg_mem p h]) (hg.gives (fun _ h => by simp [h]) (fun _ h => by simp [h])) hpre
/-- a method at a box that was lent, or is the call's own -/
theorem c_R {f : FuncId} {x : Operand} {xs : List Operand} {As : List Cnt} {B : Blk} {post : List (Nat × Blk)} {r : Cnt} {id vr : Nat} (hf : FnM P f (.ptr 1000 0 0 :: As) [(1000, B)] r post) (hp : PlM n o := by exact ⟨rfl, rfl⟩) (ho : isCallV o (.func f) (x :: xs) := by exact ⟨_, rfl⟩)
    (hx : S.opd x = .ptr id vr 0 := by rfl) (hv : S.ver id = vr := by rfl) (hb : (S.blk id).mp true (lk2 [(1000, id)]) S.ver z0 = B := by rfl) (hg : GMl S [(1000, id)] xs As := by first | ((repeat (first | exact GMl.nil | (refine GMl.cons ?_ ?_; focus (first | exact gq_per rfl | exact gq_lst rfl | exact gq_row rfl rfl rfl rfl | exact gq_bor rfl | exact gq_nil rfl | exact gq_nil' rfl | exact gq_ref rfl rfl)))); done) | fail) :
    OpOk n P ops o (callN S (x :: xs) ++ sgN [(1000, id)]) (r.mp false (lk1 [(1000, id)]) z0 (fun _ => vr)) [(id, vr, (lookB 1000 post).mp false (lk1 [(1000, id)]) z0 (fun _ => vr))] S := by
  have hok : okS [(1000, id)] = true := by
    simp [okS, ok1, lk1, lk2, obeq, isFix]
  have h := op_callM (n := n) (P := P) (ops := ops) (o := o) (F := callN S (x :: xs) ++ sgN [(1000, id)]) (S := S) (cs := []) (xs := x :: xs) (As := .ptr 1000 0 0 :: As) (pre := [(1000, B)]) (post := post) (r := r) [(1000, id)] hp ho head_f (by simpa using hf) hok (fun p h => by simp [sg_mem p h]) (.cons ?_ (hg.gives (fun _ h => ?_) (fun _ h => by simp [h]))) (.cons (j := id) (by simp [lk1]) hb .nil)
  · have hnv : ∀ i j, lk1 [(1000, id)] i = some j → nvM S.ver [(1000, id)] j = (fun _ => vr) j := fun i j e => by
      have e' := lk1_mem e
      simp at e'
      obtain ⟨rfl, rfl⟩ := e'
      simp [nvM, lk2, hv, show isFix 1000 = true from rfl]
    rw [mp_congr (old' := z0) (fun _ _ _ => rfl) hnv] at h
    have hu : updM S post [(1000, id)] [(1000, id)] = [(id, vr, (lookB 1000 post).mp false (lk1 [(1000, id)]) z0 (fun _ => vr))] := by
      show [(id, nvM S.ver [(1000, id)] id, (lookB 1000 post).mp false (lk1 [(1000, id)]) z0 (nvM S.ver [(1000, id)]))] = _
      rw [Bmp_congr (old' := z0) (fun _ _ _ => rfl) hnv, hnv 1000 id (by simp [lk1])]
    rw [hu] at h
    exact h
  · refine (gq_ref (x := x) (S := S) (sg := [(1000, id)]) (c := .ptr 1000 0 0) (by have := hok; unfold okS at this; rw [Bool.and_eq_true] at this; exact this.1) ?_).mono (fun k hk => ?_)
    · rw [hx]
      simp [Cnt.mp, mpId, lk2, hv]
    · rcases List.mem_append.1 hk with q | q
      · simp [callN, q]
      · simp [q]
  · simp only [callN, List.flatMap_cons, List.mem_append] at h ⊢; exact .inl (.inr h)
/-- a call that hands back a new thing -/
theorem c_N {f : FuncId} {xs : List Operand} {As : List Cnt} {post : List (Nat × Blk)} {r : Cnt} (hf : FnM P f As [] r post) (_ : o.dst = some t := by rfl) (hp : PlM n o := by exact ⟨rfl, rfl⟩) (ho : isCallV o (.func f) xs := by exact ⟨_, rfl⟩) (hfx : isFix t = false := by rfl)
    (hg : GMl S [(3000, t)] xs As := by first | ((repeat (first | exact GMl.nil | (refine GMl.cons ?_ ?_; focus (first | exact gq_per rfl | exact gq_lst rfl | exact gq_row rfl rfl rfl rfl | exact gq_bor rfl | exact gq_nil rfl | exact gq_nil' rfl | exact gq_ref rfl rfl)))); done) | fail) : OpOk n P ops o (callN S xs ++ sgN [(3000, t)]) (r.mp false (lk1 [(3000, t)]) z0 (nvM S.ver [(3000, t)])) (updM S post [(3000, t)] [(3000, t)]) S := by
  have hok : okS [(3000, t)] = true := by simp [okS, ok1, lk1, lk2, obeq, hfx]
  exact op_callM (cs := []) [(3000, t)] hp ho head_f (by simpa using hf) hok (fun p h => by simp [sg_mem p h]) (hg.gives (fun _ h => by simp [h]) (fun _ h => by simp [h])) .nil
/-- calls of the elder kind -/
theorem c_F {f : FuncId} {xs : List Operand} {As : List Cnt} {r : Ret} (hf : Fn P f As r) (hp : Pl n o t := by exact ⟨rfl, rfl, rfl⟩) (ho : isCall o f xs := by exact ⟨_, rfl⟩) (hpl : r.plain = true := by rfl) (hg : GL S xs As := by first | ((repeat (first | exact GL.nil | (refine GL.cons ?_ ?_; focus (first | exact gl_per rfl | exact gl_lst rfl | exact gl_row rfl rfl rfl | exact gl_bor rfl | exact gl_nil rfl | exact gl_nil' rfl)))); done) | fail) : OpOk n P ops o (callN S xs) (ansC t 0 r) [] S := u_call hp ho hf hpl hg
theorem c_O {f : FuncId} {xs : List Operand} {As : List Cnt} {e k : Nat} {es : List (List PV)} (hf : Fn P f As (.own e k es)) (hp : Pl n o t := by exact ⟨rfl, rfl, rfl⟩) (ho : isCall o f xs := by exact ⟨_, rfl⟩) (hg : GL S xs As := by first | ((repeat (first | exact GL.nil | (refine GL.cons ?_ ?_; focus (first | exact gl_per rfl | exact gl_lst rfl | exact gl_row rfl rfl rfl | exact gl_bor rfl | exact gl_nil rfl | exact gl_nil' rfl)))); done) | fail) :
    OpOk n P ops o ((2 * t + 1) :: callN S xs) (.row t (S.ver t + 1)) [(t, S.ver t + 1, .row e k es)] S := u_call_own hp ho hf hg
theorem c_O2 {f : FuncId} {xs : List Operand} {As : List Cnt} {e k : Nat} {es : List (List PV)} {u : Value} (hf : Fn P f As (.tup2 (.own e k es) (.per (rawP u)))) (hp : Pl n o t := by exact ⟨rfl, rfl, rfl⟩) (ho : isCall o f xs := by exact ⟨_, rfl⟩) (hg : GL S xs As := by first | ((repeat (first | exact GL.nil | (refine GL.cons ?_ ?_; focus (first | exact gl_per rfl | exact gl_lst rfl | exact gl_row rfl rfl rfl | exact gl_bor rfl | exact gl_nil rfl | exact gl_nil' rfl)))); done) | fail) :
    OpOk n P ops o ((2 * t + 1) :: callN S xs) (.tup2 (.row t (S.ver t + 1)) (.per (rawP u))) [(t, S.ver t + 1, .row e k es)] S := u_call_own2 hp ho hf hg
end
end Go.Proofs.Ytnpognmpgddncaa
