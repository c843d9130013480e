/- Operations over abstract states: parts of slices, texts and bytes. No program in sight. -/
import Derived.Test.YtnpognmpgddncaaAbsOps6
import Derived.Laws.IdiomStrings
namespace Go.Proofs.Ytnpognmpgddncaa
open Go.RowKit

/-- a byte, as a list's element -/
def byteP (c : UInt8) : List PV := [rawP (.int .u8 (c.toNat : Int))]
def intP (n : Int) : List PV := [rawP (.int .i64 n)]
def strP (s : ByteArray) : List PV := [rawP (.string s)]
abbrev bytesP (l : List UInt8) : PV := lstP 1 (l.map byteP)

section
variable {P : Program} {n : Nat} {ops : Array Oper} {o : Oper} {F : List Nat} {S T : St} {C : Ctx} {g : Gh} {a : Act} {w w' : World} {t : Nat}

theorem lst_cut {top N : BP} {k : Nat} {es : List (List PV)} {v : Value} (h : lstAt top N k es w v) (lo hi : Nat) (h1 : lo ≤ hi) (h2 : hi ≤ es.length) :
    ∃ ad c, v = .slice ad es.length c ∧ hi ≤ c ∧ lstAt top N k ((es.drop lo).take (hi - lo)) w (.slice (if c = lo then ad else ad.map (·.add (lo * k))) (hi - lo) (c - lo)) := by
  obtain ⟨ad, c, b, of, rfl, g1, g2, g0, g3, g4⟩ := h
  refine ⟨ad, c, rfl, by omega, ?_⟩
  have hlen : ((es.drop lo).take (hi - lo)).length = hi - lo := by simp; omega
  by_cases hz : hi = lo
  · subst hz
    refine ⟨_, c - hi, 0, 0, by rw [hlen], by omega, by omega, fun hn => ?_, by rw [hlen]; omega, fun i cs hx => ?_⟩
    · by_cases hc : c = hi
      · omega
      · rw [if_neg hc] at hn
        cases ad with
        | none => have := g0 rfl; omega
        | some ad => simp at hn
    · rw [List.getElem?_eq_none (by rw [hlen]; omega)] at hx; cases hx
  · obtain ⟨ha, q2, q3⟩ := g3 (by omega)
    have hc : ¬ c = lo := by omega
    refine ⟨_, c - lo, b, of + lo * k, by rw [hlen], by omega, by omega, fun hn => ?_, fun _ => ⟨by rw [if_neg hc, ha]; simp [Addr.add_lit], q2, q3⟩, fun i cs hx => ?_⟩
    · rw [if_neg hc, ha] at hn; simp at hn
    · rw [List.getElem?_take] at hx
      split at hx
      · rw [List.getElem?_drop] at hx
        obtain ⟨r1, r2⟩ := g4 _ cs hx
        refine ⟨r1, fun j A hj => ?_⟩
        obtain ⟨y, s1, s2⟩ := r2 j A hj
        exact ⟨y, by rw [show of + lo * k + i * k + j = of + (lo + i) * k + j by rw [Nat.add_mul]; omega]; exact s1, s2⟩
      · cases hx
/-- the bounds of a part -/
def bnd (S : St) (lo hi : Option Operand) (len : Nat) (l h : Nat) : Prop :=
  (match lo with | none => l = 0 | some x => ∃ k z, S.opd x = iC k z ∧ z = (l : Int)) ∧ (match hi with | none => h = len | some x => ∃ k z, S.opd x = iC k z ∧ z = (h : Int)) ∧ l ≤ h ∧ h ≤ len
def bndN (lo hi : Option Operand) : List Nat := (match lo with | none => [] | some x => opdN x) ++ (match hi with | none => [] | some x => opdN x)
theorem slice_run {ty e k : Nat} {ad : Option Addr} {len c l h : Nat} {lo hi : Option Operand} (hT : P.underlying ty = some (.slice e)) (hk : P.cellsOf e = k) (h0 : 0 < k) (hA : Agree F T S) (hF : ∀ k ∈ bndN lo hi, k ∈ F) (hR : RG C n T g a w) (hb : bnd S lo hi len l h) (hc : h ≤ c) :
    (Instr.sliceAt ty (.slice ad len c) (lo.map a.eval) (hi.map a.eval) none).run P w = .ok (.slice (if c = l then ad else ad.map (·.add (l * k))) (h - l) (c - l)) w := by
  have hel : P.elem ty = e := by unfold Program.elem; rw [hT]
  rw [run_sliceAt_slice (h := by rw [hel]; exact hT)]
  obtain ⟨h1, h2, h3, h4⟩ := hb
  have fin : ∀ (r : Result Value), (r = ((sizeOf (P.elem ty)).run P w).andThen fun s w => .ok (sliced ad l h c s) w) → r = .ok (.slice (if c = l then ad else ad.map (·.add (l * k))) (h - l) (c - l)) w := by
    intro r hr
    rw [hr, hel, sizeOf_run hk h0]
    simp [sliced, Result.andThen]
  cases lo with
  | none =>
    subst h1
    cases hi with
    | none =>
      have h2 : h = len := h2
      subst h2
      exact fin _ (by simp only [Option.map_none]; rw [run_slice_all (ht := by rw [hel]; exact hT)])
    | some y =>
      obtain ⟨kk, z, hz, rfl⟩ := h2
      have := raw_opd (x := y) hA (fun k hk => hF k (by simp [bndN, hk])) hR hz
      exact fin _ (by simp only [Option.map_none, Option.map_some, this]; rw [run_slice_h (ht := by rw [hel]; exact hT) (h0 := by omega) (h2 := by omega)]; simp)
  | some x =>
    obtain ⟨kk, z, hz, rfl⟩ := h1
    have hx := raw_opd (x := x) hA (fun k hk => hF k (by simp [bndN, hk])) hR hz
    cases hi with
    | none =>
      have h2 : h = len := h2
      subst h2
      exact fin _ (by simp only [Option.map_none, Option.map_some, hx]; rw [run_slice_l (ht := by rw [hel]; exact hT) (h0 := by omega) (h1 := by omega)]; simp)
    | some y =>
      obtain ⟨kk', z', hz', rfl⟩ := h2
      have hy := raw_opd (x := y) hA (fun k hk => hF k (by simp [bndN, hk])) hR hz'
      exact fin _ (by simp only [Option.map_some, hx, hy]; rw [run_slice_lh (ht := by rw [hel]; exact hT) (h0 := by omega) (h1 := by omega) (h2 := by omega)]; simp)
theorem op_slice {ty e k l h : Nat} {x : Operand} {lo hi : Option Operand} {es es' : List (List PV)} (hp : Pl n o t) (ho : o.op = .slice ty x lo hi none) (hT : P.underlying ty = some (.slice e)) (hk : P.cellsOf e = k) (h0 : Nat.blt 0 k = true)
    (hx : S.opd x = .per (lstP k es)) (hb : bnd S lo hi es.length l h) (he : (es.drop l).take (h - l) = es') : OpOk n P ops o (opdN x ++ bndN lo hi) (.per (lstP k es')) [] S :=
  op_val hp fun C T g a w hA hR => by
    have hr := opd_rep (x := x) hA (fun k h => by simp [h]) hR
    rw [hx] at hr
    obtain ⟨ad, c, hv, hc, hl⟩ := lst_cut hr l h hb.2.2.1 hb.2.2.2
    subst he
    refine ⟨_, ?_, hl⟩
    simp only [execOp, ho, hv, Sem.run_bind, Option.map_none, slice_run hT hk (Nat.le_of_ble_eq_true h0) hA (fun k h => by simp [h]) hR hb hc]; rfl
theorem op_slice_b {ty e k l h : Nat} {x : Operand} {lo hi : Option Operand} {es es' : List (List PV)} (hp : Pl n o t) (ho : o.op = .slice ty x lo hi none) (hT : P.underlying ty = some (.slice e)) (hk : P.cellsOf e = k) (h0 : Nat.blt 0 k = true)
    (hx : S.opd x = .bor k es) (hb : bnd S lo hi es.length l h) (he : (es.drop l).take (h - l) = es') : OpOk n P ops o (opdN x ++ bndN lo hi) (.bor k es') [] S :=
  op_val hp fun C T g a w hA hR => by
    have hr := opd_rep (x := x) hA (fun k h => by simp [h]) hR
    rw [hx] at hr
    obtain ⟨ad, c, hv, hc, hl⟩ := lst_cut hr l h hb.2.2.1 hb.2.2.2
    subst he
    refine ⟨_, ?_, hl⟩
    simp only [execOp, ho, hv, Sem.run_bind, Option.map_none, slice_run hT hk (Nat.le_of_ble_eq_true h0) hA (fun k h => by simp [h]) hR hb hc]; rfl
/-- s[lo:hi], s a text -/
theorem op_sslice {ty l h : Nat} {x : Operand} {lo hi : Option Operand} {s s' : ByteArray} (hp : Pl n o t) (ho : o.op = .slice ty x lo hi none) (hT : P.underlying ty = some .string) (hx : S.opd x = sC s) (hb : bnd S lo hi s.size l h) (he : s.extract l h = s') :
    OpOk n P ops o (opdN x ++ bndN lo hi) (sC s') [] S :=
  op_val hp fun C T g a w hA hR => by
    have hv := raw_opd (x := x) hA (fun k h => by simp [h]) hR hx
    obtain ⟨h1, h2, h3, h4⟩ := hb
    subst he
    refine ⟨.string (s.extract l h), ?_, rfl⟩
    have hs : s.extract 0 s.size = s := by simp
    have key : (Instr.sliceAt ty (.string s) (lo.map a.eval) (hi.map a.eval) none).run P w = .ok (.string (s.extract l h)) w := by
      rw [run_sliceAt_string (h := hT)]
      cases lo with
      | none =>
        have h1 : l = 0 := h1
        subst h1
        cases hi with
        | none =>
          have h2 : h = s.size := h2
          subst h2
          simp only [Option.map_none]
          rw [run_slice_string_all (h := hT), hs]
        | some y =>
          obtain ⟨kk, z, hz, rfl⟩ := h2
          have := raw_opd (x := y) hA (fun k hk => by simp [bndN, hk]) hR hz
          simp only [Option.map_none, Option.map_some, this]
          rw [run_slice_string_to_if (h := hT)]
          simp
          omega
      | some x =>
        obtain ⟨kk, z, hz, rfl⟩ := h1
        have hx := raw_opd (x := x) hA (fun k hk => by simp [bndN, hk]) hR hz
        cases hi with
        | none =>
          have h2 : h = s.size := h2
          subst h2
          simp only [Option.map_none, Option.map_some, hx]
          rw [run_slice_string_from_if (h := hT)]
          simp
          omega
        | some y =>
          obtain ⟨kk', z', hz', rfl⟩ := h2
          have hy := raw_opd (x := y) hA (fun k hk => by simp [bndN, hk]) hR hz'
          simp only [Option.map_some, hx, hy]
          rw [run_slice_string (h := hT) (h0 := by omega) (h1 := by omega) (h2 := by omega)]
          simp
    simp only [execOp, ho, hv, Sem.run_bind, Option.map_none, key]; rfl

/-- 'string(b)' -/
theorem lst_bs {top N : BP} {l : List UInt8} {v : Value} (h : lstAt top N 1 (l.map byteP) w v) : Bs w v l := by
  obtain ⟨ad, c, b, of, h1, h2, h3, h4, h5, h6⟩ := h
  simp only [List.length_map] at h1 h2 h5
  refine ⟨ad, c, b, of, h1, h2, h3, fun h0 => (h5 h0).1, h4, fun i x hx j y hy => ?_⟩
  obtain ⟨_, q⟩ := h6 i (byteP x) (by rw [List.getElem?_map, hx]; rfl)
  cases j with
  | zero =>
    simp [encB] at hy; subst hy
    obtain ⟨y, r1, _, r3⟩ := q 0 _ rfl
    have r3 : y = .int .u8 (x.toNat : Int) := r3
    subst r3; exact r1
  | succ j => simp [encB] at hy
theorem op_sb {src dst e : Nat} {x : Operand} {l : List UInt8} (hp : Pl n o t) (ho : o.op = .convert src dst x) (hs : P.underlying src = some (.slice e)) (he : P.underlying e = some (.int .u8)) (hd : P.underlying dst = some .string)
    (hx : Src F S x 1 (l.map byteP)) : OpOk n P ops o F (sC ⟨l.toArray⟩) [] S :=
  op_val hp fun C T g a w hA hR => by
    refine ⟨_, ?_, rfl⟩
    simp only [execOp, ho, Sem.run_bind, Bs.toStr hs he hd (lst_bs (hx n C T g a w hA hR))]; rfl

/-! append of a text -/
def isAppendS (o : Oper) (ty ts : TypeId) (s x : Operand) : Prop := o.op = .call { callee := .builtin .append, args := #[s, x], argTypes := #[ty, ts] }
theorem app_runS {ty ts ty' e id : Nat} {l : List UInt8} {s : ByteArray} (hT : TI P ty e 1 1) (hz : (P.info? e).bind (·.zero) = some (.int .u8 0)) (hu : P.underlying ts = some .string) (hR : RG C n T g a w) (hfx : isFix id = false) (hb : brep C T.ver g w id (.row e 1 (l.map byteP)))
    (hlen : l.length + s.size ≤ 1000000000000) :
    ∃ v' w', (Builtin.append_ #[ty, ts] ty' #[g.rh id, .string s]).run P w = .ok v' w' ∧ ∀ {vr' : Nat → Nat}, (∀ i, vr' i = if i = id then T.ver id + 1 else T.ver i) → ∃ g', Stp C (fun i => i = id) T.ver vr' g g' w w' ∧ g'.rh id = v' ∧ brep C vr' g' w' id (.row e 1 ((l ++ s.data.toList).map byteP)) := by
  obtain ⟨i, z, hi, hz', h1, h2, h3⟩ := hT.info
  rw [hi] at hz
  simp only [Option.bind_some] at hz
  rw [hz'] at hz; cases hz
  obtain ⟨xs, how, hxs⟩ := row_cells hb
  have hn : (l.map byteP).length = l.length := by simp
  obtain ⟨v', w', r1, r2, r3, _⟩ := Lib.run_append_own_string (P := P) w 0 ty ts ty' e i hT.und hu hi hz' h1 h2 (g.rh id) _ xs how s (by rw [hn]; unfold maxLen; omega) (by rw [hn]; omega) (Nat.zero_le _)
  refine ⟨v', w', r1, fun {vr'} hvr => ?_⟩
  have n4 : ∀ (i : Nat) (cs : List PV), ((s.data.toList).map byteP)[i]? = some cs → cs.length = 1 ∧ ∀ (j : Nat) (A : PV), cs[j]? = some A → ∃ y, (Lib.strCells s)[i * 1 + j]? = some y ∧ y.oneCell' = true ∧ A.p (g.N C) w y := by
    intro i cs hi
    rw [List.getElem?_map] at hi
    cases hc : s.data.toList[i]? with
    | none => rw [hc] at hi; cases hi
    | some c =>
      rw [hc] at hi; cases hi
      refine ⟨rfl, fun j A hj => ?_⟩
      cases j with
      | zero =>
        simp [byteP] at hj; subst hj
        exact ⟨.int .u8 (c.toNat : Int), by unfold Lib.strCells; rw [List.getElem?_map]; simp only [Nat.mul_one, Nat.add_zero, hc]; rfl, rfl, rfl⟩
      | succ j => simp [byteP] at hj
  have hloc : v'.ownBlock = (g.rh id).ownBlock ∨ ∀ q, v'.ownBlock = some q → w.heap.size ≤ q := by
    rcases how.2 with ⟨q1, q2⟩ | ⟨q, cap, cur, q1, _, q2, q3, q4, q5, q6⟩
    · have hx0 : xs = [] := List.eq_nil_of_length_eq_zero (by rw [how.1, q2])
      have hown : w.ownsRow w.heap.size e 1 (g.rh id) (l.map byteP).length xs := ⟨how.1, .inl ⟨q1, q2⟩⟩
      obtain ⟨v2, w2, s1, s2, _⟩ := Lib.run_append_own_string (P := P) w w.heap.size ty ts ty' e i hT.und hu hi hz' h1 h2 (g.rh id) _ xs hown s (by rw [hn]; unfold maxLen; omega) (by rw [hn]; omega) (Nat.le_refl _)
      rw [s1] at r1; cases r1
      exact .inr (fun q hq => (s2.lt q hq).1)
    · by_cases hroom : (l.map byteP).length + s.size ≤ cap
      · have := Lib.run_append_room_string (P := P) w ty ts ty' e i hT.und hu hi h1 q _ cap cur q2 s hroom (by rw [q5]; omega)
        rw [← q1, r1] at this
        injection this with e1 e2
        exact .inl (by rw [e1, q1]; rfl)
      · have hxl : xs.length = (l.map byteP).length := by rw [how.1, Nat.mul_one]
        have holds : ∀ j u, xs[j]? = some u → w.cell? ((⟨q, 0, none⟩ : Addr).add j) = some u := how.cells (g := q) (by rw [q1]; rfl)
        have := Lib.run_append_grow_string (P := P) w ty ts ty' e i (.int .u8 0) hT.und hu hi hz' ⟨q, 0, none⟩ _ cap xs (by rw [h1, hxl, Nat.mul_one]) holds s (by omega) (by rw [hn]; omega) (by rw [h2]; exact growslice_fits (by omega) (by rw [hn]; omega))
        rw [← q1, r1] at this
        injection this with e1 e2
        exact .inr (fun q' hq' => by rw [e1] at hq'; cases hq'; exact Nat.le_refl _)
  have := app_fin (C := C) (g := g) (ns := (s.data.toList).map byteP) (m := s.size) (by simp) hR hb how hxs n4 r2 r3 hloc hfx hvr
  rw [← List.map_append] at this
  exact this
theorem op_appendS {ty ts : TypeId} {s x : Operand} {id vr e : Nat} {l : List UInt8} {u : ByteArray} (hp : Pl n o t) (ho : isAppendS o ty ts s x) (hT : TI P ty e 1 1) (hz : (P.info? e).bind (·.zero) = some (.int .u8 0)) (hu : P.underlying ts = some .string)
    (hs : S.opd s = .row id vr) (hv : S.ver id = vr) (hb : S.blk id = .row e 1 (l.map byteP)) (hx : S.opd x = sC u) (hlen : l.length + u.size ≤ 1000000000000) (hfx : isFix id = false := by rfl) :
    OpOk n P ops o ((2 * id + 1) :: (opdN s ++ opdN x)) (.row id (vr + 1)) [(id, vr + 1, .row e 1 ((l ++ u.data.toList).map byteP))] S := by
  refine ⟨?_⟩
  intro C T hA a w ⟨g, hR⟩
  obtain ⟨h1, h2⟩ := row_at (x := s) hA (fun k h => by simp [h]) (by simp) hR hs hv hb
  have hxe := raw_opd (x := x) hA (fun k h => by simp [h]) hR hx
  have hvt := (hA.2 id (by simp)).2
  obtain ⟨v', w', r1, r2⟩ := app_runS (P := P) (ty' := o.type) (s := u) hT hz hu hR hfx h2 hlen
  unfold Exec
  rw [if_pos (hp.wanted a)]
  unfold Oper.wp
  unfold isAppendS at ho
  have hex : (execOp a.eval o).run P w = .ok (.value v') w' := by
    simp only [execOp, ho, resolve, invoke, builtin, Sem.run_bind, Sem.run_pure, Result.andThen_ok, List.map_toArray, List.map_cons, List.map_nil, h1, hxe, r1]
  rw [hex, Oper.upon_value]
  have hvr : ∀ i, (T.app o.dst (.row id (vr + 1)) [(id, vr + 1, .row e 1 ((l ++ u.data.toList).map byteP))]).ver i = if i = id then T.ver id + 1 else T.ver i := fun i => by rw [St.app_some_ver, hvt, hv]
  obtain ⟨g', s1, s2, s3⟩ := r2 hvr
  exact ⟨g', hR.app1 hp.dOk s1 ⟨by rw [hvr, if_pos rfl, hvt, hv]; exact Nat.le_refl _, fun _ => s2.symm⟩ s3⟩
end
end Go.Proofs.Ytnpognmpgddncaa
