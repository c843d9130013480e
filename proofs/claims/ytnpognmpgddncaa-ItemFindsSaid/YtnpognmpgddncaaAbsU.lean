/- The rules as a walk uses them: facts on types come as instances. No program in sight. -/
import Derived.Test.YtnpognmpgddncaaAbsOps7
namespace Go.Proofs.Ytnpognmpgddncaa
open Go.RowKit
/-- what stands behind a type -/
class Und (P : Program) (t : TypeId) (d : outParam TypeDesc) : Prop where h : P.underlying t = some d
class AggC (P : Program) (t : TypeId) (b : outParam Bool) : Prop where h : ∃ d, P.underlying t = some d ∧ isAggD d = b
class Siz (P : Program) (t : TypeId) (k : outParam Nat) : Prop where h : P.cellsOf t = k
class FldC (P : Program) (t f : Nat) (off : outParam Nat) : Prop where h : Fld P t f off
class TIc (P : Program) (t : TypeId) (e k b : outParam Nat) : Prop where h : TI P t e k b
class Zro (P : Program) (t : TypeId) (z : outParam Value) : Prop where h : (P.info? t).bind (·.zero) = some z
class PlsC (P : Program) (t : TypeId) (ls : outParam (List (Nat × Nat))) : Prop where h : plsOf P t = some ls

section
variable {f : St → Prop} {Q : Exit → St → Prop} {S : St} {i j : Nat}
theorem thenA_n (h : f S) : thenA f Q .normal S := h
theorem thenA_r (h : Q .ret S) : thenA f Q .ret S := h
theorem thenA_e (h : Q (.exit i) S) : thenA f Q (.exit i) S := h
theorem inB_n (h : Q .normal S) : inBlockA i Q .normal S := h
theorem inB_r (h : Q .ret S) : inBlockA i Q .ret S := h
theorem inB_hit (h : Q .normal S) : inBlockA i Q (.exit i) S := by simp only [inBlockA, if_true]; exact h
theorem inB_miss (hb : Nat.beq j i = false) (h : Q (.exit j) S) : inBlockA i Q (.exit j) S := by
  simp only [inBlockA]
  rw [if_neg (fun e => by subst e; rw [Nat.beq_refl] at hb; cases hb)]
  exact h
end
section
variable {P : Program} {n : Nat} {ops : Array Oper} {l : List Oper} {o : Oper} {F : List Nat} {S : St} {t : Nat} {c : Cnt} {b : Upd} {Q : St → Prop}
theorem AL_t (hd : o.dst = some t) (h : OpOk n P ops o F c b S) (k : AL P n ops Q l (S.app (some t) c b)) : AL P n ops Q (o :: l) S := AL_cons h (by rw [hd]; exact k)
theorem AL_0 (hd : o.dst = none) (h : OpOk n P ops o F c b S) (k : AL P n ops Q l (S.putB b)) : AL P n ops Q (o :: l) S := AL_cons h (by rw [hd]; exact k)
theorem AD_t {done : List (List Nat × List Nat)} (hd : o.dst = some t) (h : OpOk n P ops o F c b S) (k : AD P n ops Q (done ++ [(F, wrN (some t) b)]) l (S.app (some t) c b)) : AD P n ops Q done (o :: l) S := AD_cons h (by rw [hd]; exact k)
theorem AD_0 {done : List (List Nat × List Nat)} (hd : o.dst = none) (h : OpOk n P ops o F c b S) (k : AD P n ops Q (done ++ [(F, wrN none b)]) l (S.putB b)) : AD P n ops Q done (o :: l) S := AD_cons h (by rw [hd]; exact k)

theorem AL_le {S' : St} (h : Le n S S') (k : AL P n ops Q l S') : AL P n ops Q l S := ⟨fun C a w hr => k.run C a w (h C a w hr)⟩
theorem u_load1 {ty : TypeId} {x : Operand} {id vr off : Nat} {e : TypeId} {cells : List Cnt} (hp : Pl n o t) (ho : o.op = .load ty x) (hT : AggC P ty false) (hx : S.opd x = .ptr id vr off) (hv : S.ver id = vr) (hb : S.blk id = .box e cells) (hc : cells[off]? = some c) :
    OpOk n P ops o ((2 * id + 1) :: opdN x) c [] S := by obtain ⟨d, h1, h2⟩ := hT.h; exact op_load1 hp ho h1 h2 hx hv hb hc
theorem u_loadA {ty : TypeId} {x : Operand} {id vr off k : Nat} {e : TypeId} {cells : List Cnt} {As : List PV} (hp : Pl n o t) (ho : o.op = .load ty x) (hT : AggC P ty true) (hk : Siz P ty k) (hx : S.opd x = .ptr id vr off) (hv : S.ver id = vr) (hb : S.blk id = .box e cells)
    (h0 : Nat.blt 0 k = true) (hl : Nat.ble (off + k) cells.length = true) (hc : perL ((cells.drop off).take k) = some As) : OpOk n P ops o ((2 * id + 1) :: opdN x) (.per (aggP As)) [] S := by
  obtain ⟨d, h1, h2⟩ := hT.h; exact op_loadA hp ho h1 h2 hk.h h0 hx hv hb hl hc
theorem u_load_rp1 {ty : TypeId} {x : Operand} {cs : List PV} {A : PV} (hp : Pl n o t) (ho : o.op = .load ty x) (hT : AggC P ty false) (hx : S.opd x = .per (rptrP cs)) (hA : cs[0]? = some A) : OpOk n P ops o (opdN x) (.per A) [] S := by
  obtain ⟨d, h1, h2⟩ := hT.h; exact op_load_rp1 hp ho h1 h2 hx hA
theorem u_load_rpA {ty : TypeId} {x : Operand} {cs : List PV} {k : Nat} (hp : Pl n o t) (ho : o.op = .load ty x) (hT : AggC P ty true) (hk : Siz P ty k) (hx : S.opd x = .per (rptrP cs)) (hl : cs.length = k) (h0 : Nat.blt 0 k = true) : OpOk n P ops o (opdN x) (.per (aggP cs)) [] S := by
  obtain ⟨d, h1, h2⟩ := hT.h; exact op_load_rpA hp ho h1 h2 (by rw [hk.h, hl]) (by rw [hl]; exact Nat.le_of_ble_eq_true h0) hx
theorem u_load_bp1 {ty : TypeId} {x : Operand} {cs : List PV} {A : PV} (hp : Pl n o t) (ho : o.op = .load ty x) (hT : AggC P ty false) (hx : S.opd x = .bpt cs) (hA : cs[0]? = some A) : OpOk n P ops o (opdN x) (.per A) [] S := by
  obtain ⟨d, h1, h2⟩ := hT.h; exact op_load_bp1 hp ho h1 h2 hx hA
theorem u_load_bpA {ty : TypeId} {x : Operand} {cs : List PV} {k : Nat} (hp : Pl n o t) (ho : o.op = .load ty x) (hT : AggC P ty true) (hk : Siz P ty k) (hx : S.opd x = .bpt cs) (hl : cs.length = k) (h0 : Nat.blt 0 k = true) : OpOk n P ops o (opdN x) (.per (aggP cs)) [] S := by
  obtain ⟨d, h1, h2⟩ := hT.h; exact op_load_bpA hp ho h1 h2 (by rw [hk.h, hl]) (by rw [hl]; exact Nat.le_of_ble_eq_true h0) hx
theorem u_load_r1 {ty : TypeId} {x : Operand} {id vr e k i j : Nat} {es : List (List PV)} {ps : List PV} {A : PV} (hp : Pl n o t) (ho : o.op = .load ty x) (hT : AggC P ty false) (hx : S.opd x = .ept id vr k i j) (hv : S.ver id = vr) (hb : S.blk id = .row e k es) (hi : es[i]? = some ps) (hj : ps[j]? = some A) :
    OpOk n P ops o ((2 * id + 1) :: opdN x) (.per A) [] S := by obtain ⟨d, h1, h2⟩ := hT.h; exact op_load_r1 hp ho h1 h2 hx hv hb hi hj
theorem u_load_rA {ty : TypeId} {x : Operand} {id vr e k i j m : Nat} {es : List (List PV)} {ps As : List PV} (hp : Pl n o t) (ho : o.op = .load ty x) (hT : AggC P ty true) (hk : Siz P ty m) (hx : S.opd x = .ept id vr k i j) (hv : S.ver id = vr) (hb : S.blk id = .row e k es) (hi : es[i]? = some ps) (hj : (ps.drop j).take m = As) (hl : As.length = m) (h0 : Nat.blt 0 m = true) :
    OpOk n P ops o ((2 * id + 1) :: opdN x) (.per (aggP As)) [] S := by obtain ⟨d, h1, h2⟩ := hT.h; exact op_load_rA hp ho h1 h2 hk.h h0 hx hv hb hi hj hl
theorem u_field {ty f fo : Nat} {x : Operand} {id vr off : Nat} (hp : Pl n o t) (ho : o.op = .fieldAddr ty x f) (hf : FldC P ty f fo) (hx : S.opd x = .ptr id vr off) (hv : S.ver id = vr) : OpOk n P ops o ((2 * id + 1) :: opdN x) (.ptr id vr (off + fo)) [] S := op_field hp ho hf.h hx hv
theorem u_field_rp {ty f fo : Nat} {x : Operand} {cs : List PV} (hp : Pl n o t) (ho : o.op = .fieldAddr ty x f) (hf : FldC P ty f fo) (hx : S.opd x = .per (rptrP cs)) : OpOk n P ops o (opdN x) (.per (rptrP (cs.drop fo))) [] S := op_field_rp hp ho hf.h hx
theorem u_field_bp {ty f fo : Nat} {x : Operand} {cs : List PV} (hp : Pl n o t) (ho : o.op = .fieldAddr ty x f) (hf : FldC P ty f fo) (hx : S.opd x = .bpt cs) : OpOk n P ops o (opdN x) (.bpt (cs.drop fo)) [] S := op_field_bp hp ho hf.h hx
theorem u_field_r {ty f fo : Nat} {x : Operand} {id vr k i j : Nat} (hp : Pl n o t) (ho : o.op = .fieldAddr ty x f) (hf : FldC P ty f fo) (hx : S.opd x = .ept id vr k i j) (hv : S.ver id = vr) : OpOk n P ops o ((2 * id + 1) :: opdN x) (.ept id vr k i (j + fo)) [] S := op_field_r hp ho hf.h hx hv
theorem u_alloc {e : TypeId} {z : Value} (hp : Pl n o t) (ho : o.op = .alloc e) (hz : Zro P e z) (h1 : z.cells.toList.all (·.oneCell') = true) : OpOk n P ops o [2 * t + 1] (.ptr t (S.ver t + 1) 0) [(t, S.ver t + 1, .box e (z.cells.toList.map rawC))] S := op_alloc hp ho hz.h h1
theorem u_store1 {ty : TypeId} {x y : Operand} {id vr off : Nat} {e : TypeId} {cells : List Cnt} {A : PV} (hp : Pl0 o) (ho : o.op = .store ty x y) (hk : Siz P ty 1) (hx : S.opd x = .ptr id vr off) (hv : S.ver id = vr) (hb : S.blk id = .box e cells) (hl : Nat.ble (off + 1) cells.length = true) (hy : S.opd y = .per A) (h1 : OneP A) :
    OpOk n P ops o ((2 * id + 1) :: (opdN x ++ opdN y)) .any [(id, vr, .box e (setL cells off [.per A]))] S := op_store1 hp ho hk.h hx hv hb hl hy h1
theorem u_storeA {ty : TypeId} {x y : Operand} {id vr off k : Nat} {e : TypeId} {cells : List Cnt} {As : List PV} (hp : Pl0 o) (ho : o.op = .store ty x y) (hk : Siz P ty k) (hx : S.opd x = .ptr id vr off) (hv : S.ver id = vr) (hb : S.blk id = .box e cells) (h0 : Nat.blt 0 k = true) (hl : Nat.ble (off + k) cells.length = true) (hy : S.opd y = .per (aggP As)) (hn : As.length = k) :
    OpOk n P ops o ((2 * id + 1) :: (opdN x ++ opdN y)) .any [(id, vr, .box e (setL cells off (As.map .per)))] S := op_storeA hp ho hk.h h0 hx hv hb hl hy hn
theorem u_index {ty e : TypeId} {x ix : Operand} {k i : Nat} {kk : IntKind} {z : Int} {es : List (List PV)} {cs : List PV} (hp : Pl n o t) (ho : o.op = .indexAddr ty x ix) (hT : Und P ty (.slice e)) (hk : Siz P e k) (h0 : Nat.blt 0 k = true) (hx : S.opd x = .per (lstP k es)) (hi : S.opd ix = iC kk z) (hz : z = (i : Int)) (hc : es[i]? = some cs) :
    OpOk n P ops o (opdN x ++ opdN ix) (.per (rptrP cs)) [] S := op_index hp ho hT.h hk.h h0 hx hi hz hc
theorem u_index_b {ty e : TypeId} {x ix : Operand} {k i : Nat} {kk : IntKind} {z : Int} {es : List (List PV)} {cs : List PV} (hp : Pl n o t) (ho : o.op = .indexAddr ty x ix) (hT : Und P ty (.slice e)) (hk : Siz P e k) (h0 : Nat.blt 0 k = true) (hx : S.opd x = .bor k es) (hi : S.opd ix = iC kk z) (hz : z = (i : Int)) (hc : es[i]? = some cs) :
    OpOk n P ops o (opdN x ++ opdN ix) (.bpt cs) [] S := op_index_b hp ho hT.h hk.h h0 hx hi hz hc
theorem u_index_r {ty e' : TypeId} {x ix : Operand} {id vr e k i : Nat} {kk : IntKind} {z : Int} {es : List (List PV)} (hp : Pl n o t) (ho : o.op = .indexAddr ty x ix) (hT : Und P ty (.slice e')) (hk : Siz P e' k) (h0 : Nat.blt 0 k = true) (hx : S.opd x = .row id vr) (hv : S.ver id = vr) (hb : S.blk id = .row e k es) (hi : S.opd ix = iC kk z) (hz : z = (i : Int)) (hlt : i < es.length) :
    OpOk n P ops o ((2 * id + 1) :: (opdN x ++ opdN ix)) (.ept id vr k i 0) [] S := op_index_r hp ho hT.h hk.h h0 hx hv hb hi hz hlt
theorem u_sindex {ty : TypeId} {x ix : Operand} {i : Nat} {kk : IntKind} {z : Int} {s : ByteArray} {c : UInt8} (hp : Pl n o t) (ho : o.op = .index ty x ix) (hT : Und P ty .string) (hx : S.opd x = sC s) (hi : S.opd ix = iC kk z) (hz : z = (i : Int)) (hc : s.data.toList[i]? = some c) :
    OpOk n P ops o (opdN x ++ opdN ix) (iC .u8 (c.toNat : Int)) [] S := op_sindex hp ho hT.h hx hi hz hc
theorem u_len {ty e : TypeId} {x : Operand} {k : Nat} {es : List (List PV)} (hp : Pl n o t) (ho : isLen o ty x) (hT : Und P ty (.slice e)) (hx : S.opd x = .per (lstP k es)) : OpOk n P ops o (opdN x) (iC .i64 (es.length : Int)) [] S := op_len hp ho hT.h hx
theorem u_len_b {ty e : TypeId} {x : Operand} {k : Nat} {es : List (List PV)} (hp : Pl n o t) (ho : isLen o ty x) (hT : Und P ty (.slice e)) (hx : S.opd x = .bor k es) : OpOk n P ops o (opdN x) (iC .i64 (es.length : Int)) [] S := op_len_b hp ho hT.h hx
theorem u_len_s {ty : TypeId} {x : Operand} {s : ByteArray} (hp : Pl n o t) (ho : isLen o ty x) (hT : Und P ty .string) (hx : S.opd x = sC s) : OpOk n P ops o (opdN x) (iC .i64 (s.size : Int)) [] S := op_len_s hp ho hT.h hx
theorem u_len_r {ty e' : TypeId} {x : Operand} {id vr e k : Nat} {es : List (List PV)} (hp : Pl n o t) (ho : isLen o ty x) (hT : Und P ty (.slice e')) (hx : S.opd x = .row id vr) (hv : S.ver id = vr) (hb : S.blk id = .row e k es) :
    OpOk n P ops o ((2 * id + 1) :: opdN x) (iC .i64 (es.length : Int)) [] S := op_len_r hp ho hT.h hx hv hb
theorem u_lenM {α : Type} {ty e : TypeId} {x : Operand} {k : Nat} {l : List α} {f : α → List PV} (hp : Pl n o t) (ho : isLen o ty x) (hT : Und P ty (.slice e)) (hx : S.opd x = .per (lstP k (l.map f))) : OpOk n P ops o (opdN x) (iC .i64 (l.length : Int)) [] S := by
  have := u_len (ops := ops) hp ho hT hx
  rwa [List.length_map] at this
theorem u_lenM_b {α : Type} {ty e : TypeId} {x : Operand} {k : Nat} {l : List α} {f : α → List PV} (hp : Pl n o t) (ho : isLen o ty x) (hT : Und P ty (.slice e)) (hx : S.opd x = .bor k (l.map f)) : OpOk n P ops o (opdN x) (iC .i64 (l.length : Int)) [] S := by
  have := u_len_b (ops := ops) hp ho hT hx
  rwa [List.length_map] at this
theorem u_lenM_r {α : Type} {ty e' : TypeId} {x : Operand} {id vr e k : Nat} {l : List α} {f : α → List PV} (hp : Pl n o t) (ho : isLen o ty x) (hT : Und P ty (.slice e')) (hx : S.opd x = .row id vr) (hv : S.ver id = vr) (hb : S.blk id = .row e k (l.map f)) :
    OpOk n P ops o ((2 * id + 1) :: opdN x) (iC .i64 (l.length : Int)) [] S := by
  have := u_len_r (ops := ops) hp ho hT hx hv hb
  rwa [List.length_map] at this
theorem u_conv {src dst : TypeId} {d : TypeDesc} {x : Operand} {k k' : IntKind} {p z : Int} (hp : Pl n o t) (ho : o.op = .convert src dst x) (hs : Und P src d) (hd : Und P dst (.int k)) (hx : S.opd x = iC k' p) (hz : k.wrap p = z) : OpOk n P ops o (opdN x) (iC k z) [] S :=
  op_conv hp ho (by rw [hs.h]; rfl) hd.h hx hz
theorem u_append {ty : TypeId} {s x : Operand} {id vr e k bytes : Nat} {es ns : List (List PV)} (hp : Pl n o t) (ho : isAppend o ty s x) (hT : TIc P ty e k bytes) (hk : Nat.blt 0 k = true)
    (hs : S.opd s = .row id vr) (hv : S.ver id = vr) (hb : S.blk id = .row e k es) (hx : Src ((2 * id + 1) :: (opdN s ++ F)) S x k ns)
    (hlen : es.length + ns.length ≤ 1000000000000) (hby : (es.length + ns.length) * bytes ≤ 140737488355328) (hfx : isFix id = false := by rfl) :
    OpOk n P ops o ((2 * id + 1) :: (opdN s ++ F)) (.row id (vr + 1)) [(id, vr + 1, .row e k (es ++ ns))] S := op_append hp ho hT.h hk hs hv hb hx (fun k h => by simp [h]) (by unfold maxLen; omega) hby hfx

def kindB : Op → Nat
  | .move _ => 0 | .assign _ => 1 | .pick _ _ _ => 2 | .box _ _ => 3 | .alloc _ => 4 | .load _ _ => 5 | .store _ _ _ => 6 | .fieldAddr _ _ _ => 7 | .binOp _ _ _ _ _ => 8 | .unOp _ _ _ => 9 | .convert _ _ _ => 10
  | .nilCheck _ => 21 | .makeFunc _ _ _ => 22 | .makeSlice _ _ _ => 23
  | .slice _ _ _ _ _ => 11 | .indexAddr _ _ _ => 12 | .index _ _ _ => 13 | .build _ _ => 14 | .buildSlice _ _ _ => 15 | .extract _ _ => 16
  | .call c => match c.callee with
    | .builtin .len => 17
    | .builtin .append => 18
    | .builtin _ => 19
    | _ => 20
  | _ => 99
theorem u_k (k : Nat) (_ : kindB o.op = k) (h : OpOk n P ops o F c b S) : OpOk n P ops o F c b S := h
theorem u_g (_ : o.guard.isSome = true) (h : OpOk n P ops o F c b S) : OpOk n P ops o F c b S := h

def rowN : Cnt → List Nat
  | .row id _ => [2 * id + 1]
  | _ => []
def srcN (S : St) (x : Operand) : List Nat := opdN x ++ rowN (S.opd x)
def callN (S : St) (xs : List Operand) : List Nat := xs.flatMap (srcN S)
theorem gl_per {x : Operand} {A : PV} (hx : S.opd x = .per A) : Gives (srcN S x) S x (.per A) := gives_per hx (fun k h => by simp [srcN, h])
theorem gl_lst {x : Operand} {k : Nat} {es : List (List PV)} (hx : S.opd x = .per (lstP k es)) : Gives (srcN S x) S x (.bor k es) := gives_lst hx (fun k h => by simp [srcN, h])
theorem gl_bor {x : Operand} {k : Nat} {es : List (List PV)} (hx : S.opd x = .bor k es) : Gives (srcN S x) S x (.bor k es) := gives_bor hx (fun k h => by simp [srcN, h])
theorem gl_row {x : Operand} {id vr e k : Nat} {es : List (List PV)} (hx : S.opd x = .row id vr) (hv : S.ver id = vr) (hb : S.blk id = .row e k es) : Gives (srcN S x) S x (.bor k es) := gives_row hx hv hb (fun k h => by simp [srcN, h]) (by simp [srcN, hx, rowN])
theorem gl_nil {x : Operand} {k : Nat} (hx : S.opd x = .per (rawP (.slice none 0 0))) : Gives (srcN S x) S x (.bor k []) := gives_nil hx (fun k h => by simp [srcN, h])
theorem gl_nil' {x : Operand} {k : Nat} (hx : S.opd x = .per (rawP (.slice none 0 0))) : Gives (srcN S x) S x (.per (lstP k [])) := gives_nil' hx (fun k h => by simp [srcN, h])
theorem Gives.mono {F F' : List Nat} {x : Operand} {c : Cnt} (h : Gives F S x c) (hF : ∀ k ∈ F, k ∈ F') : Gives F' S x c := fun n C T g a w hA hR => h n C T g a w ⟨fun t ht => hA.1 t (hF _ ht), fun i hi => hA.2 i (hF _ hi)⟩ hR
inductive GL (S : St) : List Operand → List Cnt → Prop
  | nil : GL S [] []
  | cons {x : Operand} {c : Cnt} {xs : List Operand} {cs : List Cnt} (h : Gives (srcN S x) S x c) (t : GL S xs cs) : GL S (x :: xs) (c :: cs)
theorem GL.gives {xs : List Operand} {cs : List Cnt} (h : GL S xs cs) {F : List Nat} (hF : ∀ k ∈ callN S xs, k ∈ F) : GivesL F S xs cs := by
  induction h with
  | nil => exact .nil
  | cons h t ih => exact .cons (h.mono (fun k hk => hF k (by simp [callN, hk]))) (ih (fun k hk => hF k (by simp only [callN, List.flatMap_cons, List.mem_append]; exact .inr hk)))
theorem u_call {f : FuncId} {xs : List Operand} {As : List Cnt} {r : Ret} (hp : Pl n o t) (ho : isCall o f xs) (hf : Fn P f As r) (hpl : r.plain = true) (hg : GL S xs As) : OpOk n P ops o (callN S xs) (ansC t 0 r) [] S := op_call hp ho hf hpl (hg.gives fun _ h => h)
theorem u_call_own {f : FuncId} {xs : List Operand} {As : List Cnt} {e k : Nat} {es : List (List PV)} (hp : Pl n o t) (ho : isCall o f xs) (hf : Fn P f As (.own e k es)) (hg : GL S xs As) :
    OpOk n P ops o ((2 * t + 1) :: callN S xs) (.row t (S.ver t + 1)) [(t, S.ver t + 1, .row e k es)] S := op_call_own hp ho hf (hg.gives fun _ h => by simp [h]) (by simp)
theorem u_call_own2 {f : FuncId} {xs : List Operand} {As : List Cnt} {e k : Nat} {es : List (List PV)} {u : Value} (hp : Pl n o t) (ho : isCall o f xs) (hf : Fn P f As (.tup2 (.own e k es) (.per (rawP u)))) (hg : GL S xs As) :
    OpOk n P ops o ((2 * t + 1) :: callN S xs) (.tup2 (.row t (S.ver t + 1)) (.per (rawP u))) [(t, S.ver t + 1, .row e k es)] S := op_call_own2 hp ho hf (hg.gives fun _ h => by simp [h]) (by simp)
theorem sr_lst {x : Operand} {k : Nat} {ns : List (List PV)} (hx : S.opd x = .per (lstP k ns)) : Src (srcN S x) S x k ns := src_lst hx (fun k h => by simp [srcN, h])
theorem sr_bor {x : Operand} {k : Nat} {ns : List (List PV)} (hx : S.opd x = .bor k ns) : Src (srcN S x) S x k ns := src_bor hx (fun k h => by simp [srcN, h])
theorem sr_row {x : Operand} {id vr e k : Nat} {es : List (List PV)} (hx : S.opd x = .row id vr) (hv : S.ver id = vr) (hb : S.blk id = .row e k es) : Src (srcN S x) S x k es := src_row hx hv hb (fun k h => by simp [srcN, h]) (by simp [srcN, hx, rowN])
theorem sr_nil {x : Operand} {k : Nat} (hx : S.opd x = .per (rawP (.slice none 0 0))) : Src (srcN S x) S x k [] := src_nil hx (fun k h => by simp [srcN, h])
theorem Src.mono {F F' : List Nat} {x : Operand} {k : Nat} {ns : List (List PV)} (h : Src F S x k ns) (hF : ∀ k ∈ F, k ∈ F') : Src F' S x k ns := fun n C T g a w hA hR => h n C T g a w ⟨fun t ht => hA.1 t (hF _ ht), fun i hi => hA.2 i (hF _ hi)⟩ hR
theorem u_app {ty : TypeId} {s x : Operand} {id vr e k bytes : Nat} {es ns : List (List PV)} (hp : Pl n o t) (ho : isAppend o ty s x) (hT : TIc P ty e k bytes) (hk : Nat.blt 0 k = true)
    (hs : S.opd s = .row id vr) (hv : S.ver id = vr) (hb : S.blk id = .row e k es) (hx : Src (srcN S x) S x k ns)
    (hlen : es.length + ns.length ≤ 1000000000000) (hby : Nat.ble bytes 140 = true) (hfx : isFix id = false := by rfl) :
    OpOk n P ops o ((2 * id + 1) :: (opdN s ++ srcN S x)) (.row id (vr + 1)) [(id, vr + 1, .row e k (es ++ ns))] S := op_append hp ho hT.h hk hs hv hb (hx.mono fun k h => by simp [h]) (fun k h => by simp [h]) (by unfold maxLen; omega) (hfx := hfx)
      (Nat.le_trans (Nat.mul_le_mul hlen (Nat.le_of_ble_eq_true hby)) (by decide))
theorem u_appS {ty ts : TypeId} {s x : Operand} {id vr e : Nat} {l : List UInt8} {u : ByteArray} (hp : Pl n o t) (ho : isAppendS o ty ts s x) (hu : Und P ts .string) (hT : TIc P ty e 1 1) (hz : Zro P e (.int .u8 0))
    (hs : S.opd s = .row id vr) (hv : S.ver id = vr) (hb : S.blk id = .row e 1 (l.map byteP)) (hx : S.opd x = sC u) (hlen : l.length + u.size ≤ 1000000000000) (hfx : isFix id = false := by rfl) :
    OpOk n P ops o ((2 * id + 1) :: (opdN s ++ opdN x)) (.row id (vr + 1)) [(id, vr + 1, .row e 1 ((l ++ u.data.toList).map byteP))] S := op_appendS hp ho hT.h hz.h hu.h hs hv hb hx hlen hfx
theorem u_build {ty : TypeId} {z : Value} {ls : List (Nat × Nat)} {parts : List (Nat × Operand)} {pps : List (Nat × List PV)} {cs : List PV} (hp : Pl n o t) (ho : o.op = .build ty parts.toArray) (hl : PlsC P ty ls) (hz : Zro P ty z)
    (h1 : z.cells.toList.all (·.oneCell') = true) (hpt : PartsL S parts pps) (hf : fillP (fun i => ls[i]?) (rawsP z.cells.toList) pps = some cs) : OpOk n P ops o (partsN parts) (.per (aggP cs)) [] S := op_build hp ho hl.h hz.h h1 hpt hf
theorem u_bslice {ty e k bytes len : Nat} {z : Value} {parts : List (Nat × Operand)} {pps : List (Nat × List PV)} {cs : List PV} (hp : Pl n o t) (ho : o.op = .buildSlice ty len parts.toArray) (hT : TIc P ty e k bytes) (hz : Zro P e z) (hk : Nat.blt 0 k = true) (hlen : Nat.blt 0 len = true)
    (h1 : z.cells.toList.all (·.oneCell') = true) (hzk : z.cells.size = k) (hsm : Nat.ble (len * k) 16777216 = true) (hpt : PartsL S parts pps) (hf : fillP (fun i => some (i * k, k)) (zrep k len z.cells.toList) pps = some cs) :
    OpOk n P ops o (partsN parts) (.per (lstP k (chunk k len cs))) [] S := op_bslice hp ho hT.h hk hlen hz.h h1 hzk hsm hpt hf
theorem u_bslice_row {ty e k bytes len : Nat} {z : Value} {parts : List (Nat × Operand)} {pps : List (Nat × List PV)} {cs : List PV} (hp : Pl n o t) (ho : o.op = .buildSlice ty len parts.toArray) (hT : TIc P ty e k bytes) (hz : Zro P e z) (hk : Nat.blt 0 k = true) (hlen : Nat.blt 0 len = true)
    (h1 : z.cells.toList.all (·.oneCell') = true) (hzk : z.cells.size = k) (hsm : Nat.ble (len * k) 16777216 = true) (hpt : PartsL S parts pps) (hf : fillP (fun i => some (i * k, k)) (zrep k len z.cells.toList) pps = some cs) :
    OpOk n P ops o ((2 * t + 1) :: partsN parts) (.row t (S.ver t + 1)) [(t, S.ver t + 1, .row e k (chunk k len cs))] S := op_bslice_row hp ho hT.h hk hlen hz.h h1 hzk hsm hpt hf
theorem u_bslice0 {ty e k bytes : Nat} (hp : Pl n o t) (ho : o.op = .buildSlice ty 0 #[]) (hT : TIc P ty e k bytes) : OpOk n P ops o [2 * t + 1] (.row t (S.ver t + 1)) [(t, S.ver t + 1, .row e k [])] S := op_bslice0 hp ho hT.h
theorem u_slice {ty e k l h : Nat} {x : Operand} {lo hi : Option Operand} {es es' : List (List PV)} (hp : Pl n o t) (ho : o.op = .slice ty x lo hi none) (hT : Und P ty (.slice e)) (hk : Siz P e k) (h0 : Nat.blt 0 k = true) (hx : S.opd x = .per (lstP k es)) (hb : bnd S lo hi es.length l h) (he : (es.drop l).take (h - l) = es') :
    OpOk n P ops o (opdN x ++ bndN lo hi) (.per (lstP k es')) [] S := op_slice hp ho hT.h hk.h h0 hx hb he
theorem u_sliceM {α : Type} {ty e k l h : Nat} {x : Operand} {lo hi : Option Operand} {m : List α} {f : α → List PV} (hp : Pl n o t) (ho : o.op = .slice ty x lo hi none) (hT : Und P ty (.slice e)) (hk : Siz P e k) (h0 : Nat.blt 0 k = true) (hx : S.opd x = .per (lstP k (m.map f))) (hb : bnd S lo hi m.length l h) :
    OpOk n P ops o (opdN x ++ bndN lo hi) (.per (lstP k (((m.drop l).take (h - l)).map f))) [] S := op_slice hp ho hT.h hk.h h0 hx (by rw [List.length_map]; exact hb) (by rw [← List.map_drop, ← List.map_take])
theorem u_sliceM_b {α : Type} {ty e k l h : Nat} {x : Operand} {lo hi : Option Operand} {m : List α} {f : α → List PV} (hp : Pl n o t) (ho : o.op = .slice ty x lo hi none) (hT : Und P ty (.slice e)) (hk : Siz P e k) (h0 : Nat.blt 0 k = true) (hx : S.opd x = .bor k (m.map f)) (hb : bnd S lo hi m.length l h) :
    OpOk n P ops o (opdN x ++ bndN lo hi) (.bor k (((m.drop l).take (h - l)).map f)) [] S := op_slice_b hp ho hT.h hk.h h0 hx (by rw [List.length_map]; exact hb) (by rw [← List.map_drop, ← List.map_take])
theorem drop_take {α : Type} (m : List α) (l : Nat) : (m.drop l).take (m.length - l) = m.drop l := List.take_of_length_le (by simp)
theorem u_sliceD {α : Type} {ty e k l h : Nat} {x : Operand} {lo : Option Operand} {m : List α} {f : α → List PV} (hp : Pl n o t) (ho : o.op = .slice ty x lo none none) (hT : Und P ty (.slice e)) (hk : Siz P e k) (h0 : Nat.blt 0 k = true) (hx : S.opd x = .per (lstP k (m.map f))) (hb : bnd S lo none m.length l h) (hh : h = m.length) :
    OpOk n P ops o (opdN x ++ bndN lo none) (.per (lstP k ((m.drop l).map f))) [] S := by
  have := u_sliceM (ops := ops) hp ho hT hk h0 hx hb
  rw [hh, drop_take] at this; exact this
theorem u_sliceD_b {α : Type} {ty e k l h : Nat} {x : Operand} {lo : Option Operand} {m : List α} {f : α → List PV} (hp : Pl n o t) (ho : o.op = .slice ty x lo none none) (hT : Und P ty (.slice e)) (hk : Siz P e k) (h0 : Nat.blt 0 k = true) (hx : S.opd x = .bor k (m.map f)) (hb : bnd S lo none m.length l h) (hh : h = m.length) :
    OpOk n P ops o (opdN x ++ bndN lo none) (.bor k ((m.drop l).map f)) [] S := by
  have := u_sliceM_b (ops := ops) hp ho hT hk h0 hx hb
  rw [hh, drop_take] at this; exact this
theorem u_sliceT {α : Type} {ty e k h : Nat} {x : Operand} {hi : Option Operand} {m : List α} {f : α → List PV} (hp : Pl n o t) (ho : o.op = .slice ty x none hi none) (hT : Und P ty (.slice e)) (hk : Siz P e k) (h0 : Nat.blt 0 k = true) (hx : S.opd x = .per (lstP k (m.map f))) (hb : bnd S none hi m.length 0 h) :
    OpOk n P ops o (opdN x ++ bndN none hi) (.per (lstP k ((m.take h).map f))) [] S := u_sliceM hp ho hT hk h0 hx hb
theorem u_sliceT_b {α : Type} {ty e k h : Nat} {x : Operand} {hi : Option Operand} {m : List α} {f : α → List PV} (hp : Pl n o t) (ho : o.op = .slice ty x none hi none) (hT : Und P ty (.slice e)) (hk : Siz P e k) (h0 : Nat.blt 0 k = true) (hx : S.opd x = .bor k (m.map f)) (hb : bnd S none hi m.length 0 h) :
    OpOk n P ops o (opdN x ++ bndN none hi) (.bor k ((m.take h).map f)) [] S := u_sliceM_b hp ho hT hk h0 hx hb
theorem u_slice_b {ty e k l h : Nat} {x : Operand} {lo hi : Option Operand} {es es' : List (List PV)} (hp : Pl n o t) (ho : o.op = .slice ty x lo hi none) (hT : Und P ty (.slice e)) (hk : Siz P e k) (h0 : Nat.blt 0 k = true) (hx : S.opd x = .bor k es) (hb : bnd S lo hi es.length l h) (he : (es.drop l).take (h - l) = es') :
    OpOk n P ops o (opdN x ++ bndN lo hi) (.bor k es') [] S := op_slice_b hp ho hT.h hk.h h0 hx hb he
theorem u_sslice {ty l h : Nat} {x : Operand} {lo hi : Option Operand} {s s' : ByteArray} (hp : Pl n o t) (ho : o.op = .slice ty x lo hi none) (hT : Und P ty .string) (hx : S.opd x = sC s) (hb : bnd S lo hi s.size l h) (he : s.extract l h = s') :
    OpOk n P ops o (opdN x ++ bndN lo hi) (sC s') [] S := op_sslice hp ho hT.h hx hb he
theorem u_sb {src dst e : Nat} {x : Operand} {l : List UInt8} (hp : Pl n o t) (ho : o.op = .convert src dst x) (hs : Und P src (.slice e)) (he : Und P e (.int .u8)) (hd : Und P dst .string) (hx : Src (srcN S x) S x 1 (l.map byteP)) : OpOk n P ops o (srcN S x) (sC ⟨l.toArray⟩) [] S := op_sb hp ho hs.h he.h hd.h hx
theorem map_get {α β : Type} {l : List α} {f : α → β} {i : Nat} (h : i < l.length) : (l.map f)[i]? = some (f l[i]) := by simp [h]
theorem rv_ownM {α : Type} {f : α → List PV} {t id vr e k : Nat} {l l' : List α} (h : S.get t = .row id vr) (hv : S.ver id = vr) (hb : S.blk id = .row e k (l.map f)) (hl : l = l') : ResVarOk P n S (.tmp t) (.own e k (l'.map f)) := rv_own h hv (hl ▸ hb)
theorem rv_int {t : Nat} {k : IntKind} {z z' : Int} (h : S.get t = .per (rawP (.int k z))) (hz : z = z') : ResVarOk P n S (.tmp t) (.per (rawP (.int k z'))) := rv_per (hz ▸ h)
theorem rv_bool {t : Nat} {z z' : Bool} (h : S.get t = .per (rawP (.bool z))) (hz : z = z') : ResVarOk P n S (.tmp t) (.per (rawP (.bool z'))) := rv_per (hz ▸ h)
theorem rv_str {t : Nat} {z z' : ByteArray} (h : S.get t = .per (rawP (.string z))) (hz : z = z') : ResVarOk P n S (.tmp t) (.per (rawP (.string z'))) := rv_per (hz ▸ h)
theorem rv_lstM {α : Type} {f : α → List PV} {t k : Nat} {l l' : List α} (h : S.get t = .per (lstP k (l.map f))) (hl : l = l') : ResVarOk P n S (.tmp t) (.per (lstP k (l'.map f))) := rv_per (hl ▸ h)
theorem rv_rlM {α : Type} {f : α → List PV} {t id vr e k : Nat} {l l' : List α} (h : S.get t = .row id vr) (hv : S.ver id = vr) (hb : S.blk id = .row e k (l.map f)) (hl : l = l') : ResVarOk P n S (.tmp t) (.per (lstP k (l'.map f))) := rv_lst h hv (hl ▸ hb)
theorem eqI {k : IntKind} {z z' : Int} (h : z = z') : (Cnt.per (rawP (.int k z))) = .per (rawP (.int k z')) := by rw [h]
theorem eqBo {z z' : Bool} (h : z = z') : (Cnt.per (rawP (.bool z))) = .per (rawP (.bool z')) := by rw [h]
theorem eqS {z z' : ByteArray} (h : z = z') : (Cnt.per (rawP (.string z))) = .per (rawP (.string z')) := by rw [h]
theorem eqLst {α : Type} {f : α → List PV} {k : Nat} {l l' : List α} (h : l = l') : Cnt.per (lstP k (l.map f)) = .per (lstP k (l'.map f)) := by rw [h]
theorem eqRow {α : Type} {f : α → List PV} {e k : Nat} {l l' : List α} (h : l = l') : Blk.row e k (l.map f) = .row e k (l'.map f) := by rw [h]
theorem eqMix {e : Nat} {D D' : List PV} {c : Cnt} (h : D = D') : Blk.mix e D c = .mix e D' c := by rw [h]
theorem eqRw {e k : Nat} {es es' : List (List PV)} (h : es = es') : Blk.row e k es = .row e k es' := by rw [h]
/-- a loop that counts -/
theorem AW_count {P : Program} {n : Nat} {Q : Exit → St → Prop} {S : St} {c : Code} (N : Nat) (I : Nat → St) (h0 : Le n S (I 0))
    (round : ∀ k, k ≤ N → AW P n c (thenA (fun S' => k < N ∧ Le n S' (I (k + 1))) Q) (I k)) : AW P n (.loop c) Q S := by
  refine AW_loop (X := { k : Nat // k ≤ N }) (fun k => I k.1) (fun k => N - k.1) ⟨0, Nat.zero_le _⟩ h0 (fun ⟨k, hk⟩ => ⟨fun C a w hr => ?_⟩)
  refine wp_mono ((round k hk).run C a w hr) (fun e a w ⟨S', hq, hr⟩ => ⟨S', ?_, hr⟩)
  cases e with
  | normal => exact ⟨⟨k + 1, hq.1⟩, by have := hq.1; simp only; omega, hq.2⟩
  | _ => exact hq
/-- a loop, by whatever -/
theorem AW_loopP {P : Program} {n : Nat} {Q : Exit → St → Prop} {S : St} {c : Code} {X : Type} (pre : X → Prop) (I : X → St) (mu : X → Nat) (x0 : X) (hp : pre x0) (h0 : Le n S (I x0))
    (round : ∀ x, pre x → AW P n c (thenA (fun S' => ∃ x', pre x' ∧ mu x' < mu x ∧ Le n S' (I x')) Q) (I x)) : AW P n (.loop c) Q S := by
  refine AW_loop (X := { x : X // pre x }) (fun x => I x.1) (fun x => mu x.1) ⟨x0, hp⟩ h0 (fun ⟨x, hx⟩ => ⟨fun C a w hr => ?_⟩)
  refine wp_mono ((round x hx).run C a w hr) (fun e a w ⟨S', hq, hr⟩ => ⟨S', ?_, hr⟩)
  cases e with
  | normal => obtain ⟨x', h1, h2, h3⟩ := hq; exact ⟨⟨x', h1⟩, h2, h3⟩
  | _ => exact hq
end
end Go.Proofs.Ytnpognmpgddncaa
