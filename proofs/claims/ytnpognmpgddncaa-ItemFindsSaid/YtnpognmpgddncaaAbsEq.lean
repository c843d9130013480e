/- Structs compared, cell by cell. -/
import Derived.Test.YtnpognmpgddncaaAbsU
import Derived.Laws.StructEq
namespace Go.Proofs.Ytnpognmpgddncaa
open Go.RowKit
def cutC (xs : List Value) (off k : Nat) : List Value := (xs.drop off).take k
def andO (a b : Option Bool) : Option Bool := match a, b with
  | some x, some y => some (x && y)
  | _, _ => none
def eqO (P : Program) : Nat → TypeId → List Value → List Value → Option Bool
  | 0, _, _, _ => none
  | d + 1, t, xs, ys => match P.underlying t with
    | some .bool => match xs, ys with
      | [.bool a], [.bool b] => some (a == b)
      | _, _ => none
    | some (.int _) => match xs, ys with
      | [.int k a], [.int k' b] => if k = k' then some (a == b) else none
      | _, _ => none
    | some .string => match xs, ys with
      | [.string a], [.string b] => some (a == b)
      | _, _ => none
    | some (.struct fs) =>
      if P.stoodInHeld t then none else
      if fs.all (·.name != "_") then fs.toList.foldr (fun f r => andO (eqO P d f.type (cutC xs f.offset (P.cellsOf f.type)) (cutC ys f.offset (P.cellsOf f.type))) r) (some true) else none
    | _ => none
def valOf (P : Program) (t : TypeId) (xs : List Value) (x : Value) : Prop := match P.underlying t with
  | some (.struct _) => x = .agg xs.toArray
  | _ => xs = [x]
theorem andO_some {a b : Option Bool} {r : Bool} (h : andO a b = some r) : ∃ x y, a = some x ∧ b = some y ∧ r = (x && y) := by
  cases a <;> cases b <;> simp [andO] at h
  exact ⟨_, _, rfl, rfl, h.symm⟩
theorem cutC_one {xs : List Value} {off k : Nat} {x : Value} (h : cutC xs off k = [x]) : xs[off]? = some x := by
  have h1 : (cutC xs off k)[0]? = some x := by rw [h]; rfl
  rw [cutC, List.getElem?_take] at h1
  split at h1
  · simpa using h1
  · cases h1
theorem part_val {P : Program} {w : World} {e : TypeId} {xs : List Value} {off : Nat} (h : (∃ x, cutC xs off (P.cellsOf e) = [x] ∧ ∃ k, P.underlying e = some k ∧ (k = .bool ∨ (∃ q, k = .int q) ∨ k = .string)) ∨ ∃ fs, P.underlying e = some (.struct fs)) :
    ∃ a, (part e xs.toArray off).run P w = .ok a w ∧ valOf P e (cutC xs off (P.cellsOf e)) a := by
  rcases h with ⟨x, h, k, hk, hh⟩ | ⟨fs, hk⟩
  · have h1 := cutC_one h
    refine ⟨x, ?_, ?_⟩
    · rcases hh with rfl | ⟨q, rfl⟩ | rfl <;> simp [part, isAgg, run_underlying hk, h1]
    · rcases hh with rfl | ⟨q, rfl⟩ | rfl <;> simp [valOf, hk, h]
  · obtain ⟨i, hi⟩ := info_of_underlying hk
    refine ⟨.agg (xs.toArray.extract off (off + P.cellsOf e)), ?_, ?_⟩
    · simp [part, isAgg, run_underlying hk, run_sizeOf w hi]
    · simp only [valOf, hk, cutC, Value.agg.injEq]
      apply Array.toList_inj.1
      rw [Array.toList_extract]
      simp [List.extract]
theorem eqO_shape {P : Program} {d : Nat} {t : TypeId} {xs ys : List Value} {r : Bool} (h : eqO P d t xs ys = some r) :
    ((∃ x, xs = [x] ∧ ∃ k, P.underlying t = some k ∧ (k = .bool ∨ (∃ q, k = .int q) ∨ k = .string)) ∨ ∃ fs, P.underlying t = some (.struct fs)) ∧
    ((∃ x, ys = [x] ∧ ∃ k, P.underlying t = some k ∧ (k = .bool ∨ (∃ q, k = .int q) ∨ k = .string)) ∨ ∃ fs, P.underlying t = some (.struct fs)) := by
  cases d with
  | zero => simp [eqO] at h
  | succ d =>
    unfold eqO at h
    split at h
    · rename_i hu; split at h
      · exact ⟨.inl ⟨_, rfl, _, hu, .inl rfl⟩, .inl ⟨_, rfl, _, hu, .inl rfl⟩⟩
      · cases h
    · rename_i hu; split at h
      · exact ⟨.inl ⟨_, rfl, _, hu, .inr (.inl ⟨_, rfl⟩)⟩, .inl ⟨_, rfl, _, hu, .inr (.inl ⟨_, rfl⟩)⟩⟩
      · cases h
    · rename_i hu; split at h
      · exact ⟨.inl ⟨_, rfl, _, hu, .inr (.inr rfl)⟩, .inl ⟨_, rfl, _, hu, .inr (.inr rfl)⟩⟩
      · cases h
    · rename_i hu; exact ⟨.inr ⟨_, hu⟩, .inr ⟨_, hu⟩⟩
    · cases h
theorem eqO_run {P : Program} {w : World} : ∀ (d : Nat) (t : TypeId) (xs ys : List Value) (x y : Value) (r : Bool), eqO P d t xs ys = some r → valOf P t xs x → valOf P t ys y →
    (Op.equalIn d t x y).run P w = .ok r w
  | 0, _, _, _, _, _, _, h, _, _ => by simp [eqO] at h
  | d + 1, t, xs, ys, x, y, r, h, hx, hy => by
    unfold eqO at h
    split at h
    · rename_i hu; split at h
      · simp only [valOf, hu, List.cons.injEq, and_true] at hx hy
        subst hx; subst hy; cases h
        exact run_equalIn_bool' w d t _ _ hu
      · cases h
    · rename_i hu; split at h
      · simp only [valOf, hu, List.cons.injEq, and_true] at hx hy
        subst hx; subst hy
        split at h
        · rename_i hk; subst hk; cases h
          exact run_equalIn_int w d t _ _ _ _ hu
        · cases h
      · cases h
    · rename_i hu; split at h
      · simp only [valOf, hu, List.cons.injEq, and_true] at hx hy
        subst hx; subst hy; cases h
        rw [run_equalIn_string w d t _ _ hu, beq_toListBytes]
      · cases h
    · rename_i fs hu
      simp only [valOf, hu] at hx hy
      subst hx; subst hy
      split at h
      · cases h
      rename_i hs
      split at h
      · rename_i hn
        have hfs : P.fieldsOf t = fs := by simp [Program.fieldsOf, hu]
        rw [run_equalIn_struct w d t _ _ (by rw [hfs]; exact hu) (by simpa using hs), hfs]
        have hn' : ∀ f ∈ fs.toList, f.name ≠ "_" := fun f hf => by
          have := Array.all_eq_true_iff_forall_mem.1 hn f (Array.mem_toList_iff.1 hf)
          simpa using this
        clear hu hs hn hfs
        generalize fs.toList = l at *
        induction l generalizing r with
        | nil => cases h; simp [Op.eqFields]
        | cons f l ih =>
          rw [List.foldr_cons] at h
          obtain ⟨a, b, h1, h2, rfl⟩ := andO_some h
          obtain ⟨p1, p2⟩ := eqO_shape h1
          obtain ⟨u, q1, q2⟩ := part_val (w := w) p1
          obtain ⟨v, q3, q4⟩ := part_val (w := w) p2
          have h3 := eqO_run (w := w) d _ _ _ _ _ _ h1 q2 q4
          have h4 := ih b h2 (fun g hg => hn' g (by simp [hg]))
          simp only [Op.eqFields, hn' f (by simp), ne_eq, not_false_eq_true, if_true, Sem.run_bind, q1, q3, h3, Result.andThen_ok]
          cases a
          · simp
          · simpa using h4
      · cases h
    · cases h
variable {P : Program} {n t : Nat} {ops : Array Oper} {o : Oper} {S : St}
theorem cells_raws {N : BP} {w : World} {vs : Array Value} {l : List Value} (h : cellsP N w vs (l.map rawP)) : vs = l.toArray := by
  obtain ⟨h1, h2⟩ := h
  rw [List.length_map] at h1
  apply Array.ext (by simpa using h1)
  intro i hi hj
  have hl : i < l.length := by simpa using hj
  obtain ⟨y, q1, _, q3⟩ := h2 i (rawP l[i]) (by rw [List.getElem?_map, List.getElem?_eq_getElem hl]; rfl)
  rw [Array.getElem?_eq_getElem hi] at q1
  cases q1
  exact q3
def sBin (q : Bool) (op : BinOp) : Prop := (q = false ∧ op = .eql) ∨ (q = true ∧ op = .neq)
theorem op_eqA {op : BinOp} {q r : Bool} {ty ty' : TypeId} {x y : Operand} {us vs : List Value} (hp : Pl n o t) (ho : o.op = .binOp op ty x y ty') (hx : S.opd x = .per (aggP (us.map rawP))) (hy : S.opd y = .per (aggP (vs.map rawP)))
    (hq : sBin q op) (hg : P.eqGuardType P.depth ty = false) (hs : (match P.underlying ty with | some (.struct _) => true | _ => false) = true) (h : eqO P 10000 ty us vs = some r) : OpOk n P ops o (opdN x ++ opdN y) (bC (r != q)) [] S :=
  op_val hp fun C T g a w hA hR => by
    have h1 := opd_rep (x := x) hA (fun k h => by simp [h]) hR
    have h2 := opd_rep (x := y) hA (fun k h => by simp [h]) hR
    rw [hx] at h1
    rw [hy] at h2
    obtain ⟨as, e1, c1⟩ := h1
    obtain ⟨bs, e2, c2⟩ := h2
    have e3 := cells_raws c1
    have e4 := cells_raws c2
    have hv : ∀ l : List Value, valOf P ty l (.agg l.toArray) := fun l => by
      unfold valOf; split at hs
      · simp only
      · cases hs
    have hr := eqO_run (w := w) 10000 ty us vs _ _ r h (hv us) (hv vs)
    refine ⟨.bool (r != q), ?_, rfl⟩
    rcases hq with ⟨rfl, rfl⟩ | ⟨rfl, rfl⟩
    · simp [execOp, ho, e1, e2, e3, e4, run_eqGuard_agg (P := P) w .eql ty x y us.toArray vs.toArray hg, run_eql_struct, hr]
    · simp [execOp, ho, e1, e2, e3, e4, run_eqGuard_agg (P := P) w .neq ty x y us.toArray vs.toArray hg, run_neq_struct, hr]
end Go.Proofs.Ytnpognmpgddncaa
