/- Operations over abstract states: literals of slices and structs; results of functions; a state said anew. No program in sight. -/
import Derived.Test.YtnpognmpgddncaaAbsOps4
import Derived.Great.BuildSlice
namespace Go.Proofs.Ytnpognmpgddncaa
open Go.RowKit

/-! ### a state said anew -/
def Cnt.rn (vr : Nat → Nat) : Cnt → Cnt
  | .row id v => bif Nat.beq v (vr id) then .row id 0 else .any
  | .ptr id v off => bif Nat.beq v (vr id) then .ptr id 0 off else .any
  | .ept id v k i j => bif Nat.beq v (vr id) then .ept id 0 k i j else .any
  | .per A => .per A
  | .bor k es => .bor k es
  | .bpt cs => .bpt cs
  | .tup2 c d => .tup2 (c.rn vr) (d.rn vr)
  | .tup3 c d e => .tup3 (c.rn vr) (d.rn vr) (e.rn vr)
  | .clo1 f c => .clo1 f (c.rn vr)
  | .clo2 f c d => .clo2 f (c.rn vr) (d.rn vr)
  | .clo3 f c d e => .clo3 f (c.rn vr) (d.rn vr) (e.rn vr)
  | .aggN => .aggN
  | .aggK c r => .aggK (c.rn vr) (r.rn vr)
  | .grd _ _ => .any
  | .any => .any
def Blk.rn (vr : Nat → Nat) : Blk → Blk
  | .none => .none
  | .box e cells => .box e (cells.map (Cnt.rn vr))
  | .row e k es => .row e k es
  | .mix e es c => .mix e es (c.rn vr)
  | .obj A => .obj A
def lookG (t : Nat) : List (Nat × Cnt) → Cnt
  | [] => .any
  | (t', c) :: l => bif Nat.beq t t' then c else lookG t l
def lookB (i : Nat) : List (Nat × Blk) → Blk
  | [] => .none
  | (i', c) :: l => bif Nat.beq i i' then c else lookB i l
def mkSt (sl : List (Nat × Cnt)) (bl : List (Nat × Blk)) : St := ⟨fun t => lookG t sl, fun i => lookB i bl, fun _ => 0⟩
section
variable {P : Program} {n : Nat} {S T : St} {C : Ctx} {g : Gh} {a : Act} {w w' : World}
theorem crep_rn {vr : Nat → Nat} {c : Cnt} : ∀ {v : Value}, crep C vr g w v c → crep C (fun _ => 0) g w v (c.rn vr) := by
  induction c with
  | row id r =>
    intro v h
    cases hb : Nat.beq r (vr id) with
    | true => simp only [Cnt.rn, hb, cond_true]; exact ⟨Nat.le_refl _, fun _ => h.2 (nbeq_true.1 hb)⟩
    | false => simp only [Cnt.rn, hb, cond_false]; trivial
  | ptr id r off =>
    intro v h
    cases hb : Nat.beq r (vr id) with
    | true => simp only [Cnt.rn, hb, cond_true]; exact ⟨Nat.le_refl _, fun _ => h.2 (nbeq_true.1 hb)⟩
    | false => simp only [Cnt.rn, hb, cond_false]; trivial
  | ept id r k i j =>
    intro v h
    cases hb : Nat.beq r (vr id) with
    | true => simp only [Cnt.rn, hb, cond_true]; exact ⟨Nat.le_refl _, fun _ => h.2 (nbeq_true.1 hb)⟩
    | false => simp only [Cnt.rn, hb, cond_false]; trivial
  | per A => exact fun h => h
  | bor k es => exact fun h => h
  | bpt cs => exact fun h => h
  | any => exact fun _ => trivial
  | grd b c ih => exact fun _ => trivial
  | tup2 c d ih1 ih2 => rintro v ⟨x, y, e, h1, h2⟩; exact ⟨x, y, e, ih1 h1, ih2 h2⟩
  | tup3 c d e ih1 ih2 ih3 => rintro v ⟨x, y, z, e, h1, h2, h3⟩; exact ⟨x, y, z, e, ih1 h1, ih2 h2, ih3 h3⟩
  | clo1 f c ih => rintro v ⟨x, e, h1⟩; exact ⟨x, e, ih h1⟩
  | clo2 f c d ih1 ih2 => rintro v ⟨x, y, e, h1, h2⟩; exact ⟨x, y, e, ih1 h1, ih2 h2⟩
  | clo3 f c d e ih1 ih2 ih3 => rintro v ⟨x, y, z, e, h1, h2, h3⟩; exact ⟨x, y, z, e, ih1 h1, ih2 h2, ih3 h3⟩
  | aggN => exact fun h => h
  | aggK c r ih1 ih2 => rintro v ⟨x, vs, e, o, h1, h2⟩; exact ⟨x, vs, e, o, ih1 h1, ih2 h2⟩
theorem brep_rn {vr : Nat → Nat} {id : Nat} {B : Blk} (h : brep C vr g w id B) : brep C (fun _ => 0) g w id (B.rn vr) := by
  cases B with
  | none => trivial
  | row e k es => exact h
  | obj A => exact h
  | box e cells =>
    obtain ⟨cs, h1, h2, h3, h4⟩ := h
    refine ⟨cs, h1, h2, by simp [h3], fun j c hj => ?_⟩
    rw [List.getElem?_map] at hj
    cases hc : cells[j]? with
    | none => rw [hc] at hj; cases hj
    | some c' =>
      rw [hc] at hj; cases hj
      obtain ⟨y, q1, q2, q3⟩ := h4 j c' hc
      exact ⟨y, q1, q2, crep_rn q3⟩
  | mix e es c =>
    obtain ⟨cap, cs, h1, h2, h3, h4, h5, h6, h7, y, q1, q2, q3⟩ := h
    exact ⟨cap, cs, h1, h2, h3, h4, h5, h6, h7, y, q1, q2, crep_rn q3⟩
inductive AllG (S : St) : List (Nat × Cnt) → Prop
  | nil : AllG S []
  | cons {t : Nat} {c : Cnt} {l : List (Nat × Cnt)} (h : (S.get t).rn S.ver = c) (k : AllG S l) : AllG S ((t, c) :: l)
inductive AllB (S : St) : List (Nat × Blk) → Prop
  | nil : AllB S []
  | cons {i : Nat} {B : Blk} {l : List (Nat × Blk)} (h : (S.blk i).rn S.ver = B) (k : AllB S l) : AllB S ((i, B) :: l)
theorem AllG.look {sl : List (Nat × Cnt)} (h : AllG S sl) (t : Nat) : lookG t sl = .any ∨ lookG t sl = (S.get t).rn S.ver := by
  induction h with
  | nil => exact .inl rfl
  | @cons t' c l h k ih =>
    unfold lookG
    cases hb : Nat.beq t t' with
    | true => exact .inr (by rw [nbeq_true.1 hb]; exact h.symm)
    | false => exact ih
theorem AllB.look {sl : List (Nat × Blk)} (h : AllB S sl) (t : Nat) : lookB t sl = .none ∨ lookB t sl = (S.blk t).rn S.ver := by
  induction h with
  | nil => exact .inl rfl
  | @cons t' c l h k ih =>
    unfold lookB
    cases hb : Nat.beq t t' with
    | true => exact .inr (by rw [nbeq_true.1 hb]; exact h.symm)
    | false => exact ih
theorem Le_mk {sl : List (Nat × Cnt)} {bl : List (Nat × Blk)} (h1 : AllG S sl) (h2 : AllB S bl) : Le n S (mkSt sl bl) := by
  rintro C a w ⟨g, h⟩
  refine ⟨g, h.defers, h.tsz, h.nle, h.keep, h.os, h.tape, h.output, h.size, h.old, h.n0, h.n0l, h.dom, fun t => ?_, fun id => ?_⟩
  · show crep C (fun _ => 0) g w _ (lookG t sl)
    rcases h1.look t with q | q
    · rw [q]; trivial
    · rw [q]; exact crep_rn (h.slots t)
  · show brep C (fun _ => 0) g w id (lookB id bl)
    rcases h2.look id with q | q
    · rw [q]; trivial
    · rw [q]; exact brep_rn (h.blks id)
theorem Le_refl : Le n S S := fun _ _ _ h => h
theorem Le_trans {S1 S2 S3 : St} (h : Le n S1 S2) (k : Le n S2 S3) : Le n S1 S3 := fun C a w r => k C a w (h C a w r)

theorem R_same {d : Nat} {c : Cnt} {b : Upd} (hd : d < a.tmps.size) (h : R C n (S.app (some d) c b) (a.put (some d) (a.tmps.getD d undef)) w) : R C n (S.app (some d) c b) a w := by
  have : a.put (some d) (a.tmps.getD d undef) = a := by
    cases a with
    | mk tm df =>
      simp only [Act.put, Act.mk.injEq, and_true]
      apply Array.ext
      · simp
      · intro i h1 h2
        by_cases hi : d = i
        · subst hi
          have hd' : d < tm.size := hd
          simp [Array.getD, hd']
        · rw [Array.getElem_setIfInBounds_ne (by simpa using h2) hi]
  rw [this] at h; exact h
/-- the nil slice, as a row that is the call's own -/
theorem Le_nil (t id e k : Nat) (ht : Nat.blt t n = true) (h0 : S.get t = .per (rawP (.slice none 0 0))) (hfx : isFix id = false := by rfl) : Le n S (S.app (some t) (.row id (S.ver id + 1)) [(id, S.ver id + 1, .row e k [])]) := by
  rintro C a w ⟨g, hR⟩
  have hv : a.tmps.getD t undef = .slice none 0 0 := by
    have := hR.slots t
    rw [h0] at this; exact this
  have hvr : ∀ i, (S.app (some t) (.row id (S.ver id + 1)) [(id, S.ver id + 1, .row e k [])]).ver i = if i = id then S.ver id + 1 else S.ver i := fun i => St.app_some_ver _ _ _ _ _ _ _
  have hst := stp_mkN (v := .slice none 0 0) (t := id) hR (Ext.refl w) hvr hfx
  refine R_same (by rw [hR.tsz]; exact Nat.le_of_ble_eq_true ht) ⟨g.mkN id (.slice none 0 0), hR.app1 (fun t' h => by cases h; exact Nat.le_of_ble_eq_true ht) hst ⟨by rw [hvr, if_pos rfl]; exact Nat.le_refl _, fun _ => ?_⟩ (.inl ⟨if_pos rfl, rfl⟩)⟩
  rw [hv]; exact (if_pos rfl).symm
/-- a row that nobody will turn any more -/
theorem Le_freeze (t id vr e k : Nat) {es : List (List PV)} (ht : Nat.blt t n = true) (h0 : S.get t = .row id vr) (hv : S.ver id = vr) (hb : S.blk id = .row e k es) :
    Le n S (S.app (some t) (.per (lstP k es)) [(id, vr + 1, .none)]) := by
  rintro C a w ⟨g, hR⟩
  subst hv
  have hs := hR.slots t
  rw [h0] at hs
  have hval := hs.2 rfl
  have hbb := hR.blks id
  rw [hb] at hbb
  let g' : Gh := ⟨fun b => if g.ow b = some id then none else g.ow b, g.ph, g.rh⟩
  have hg' : ∀ b, g'.ow b = if g.ow b = some id then none else g.ow b := fun _ => rfl
  have hvr : ∀ i, (S.app (some t) (.per (lstP k es)) [(id, S.ver id + 1, .none)]).ver i = if i = id then S.ver id + 1 else S.ver i := fun i => St.app_some_ver _ _ _ _ _ _ _
  have hst : Stp C (fun i => i = id) S.ver (S.app (some t) (.per (lstP k es)) [(id, S.ver id + 1, .none)]).ver g g' w w := by
    refine ⟨Nat.le_refl _, fun _ _ _ => rfl, fun b _ hn => ?_, fun b _ hn => ?_, fun b i e => ?_, fun i => ?_, fun _ _ => ⟨rfl, rfl⟩, fun _ _ => ⟨rfl, rfl⟩, rfl, rfl, rfl⟩
    · rw [hg', if_neg (hn id rfl)]
    · rw [hg'] at hn
      by_cases h : g.ow b = some id
      · rw [h]; simp
      · rwa [if_neg h] at hn
    · rw [hg'] at e
      by_cases h : g.ow b = some id
      · rw [if_pos h] at e; cases e
      · rw [if_neg h] at e; exact hR.dom b i e
    · rw [hvr]
      by_cases h : i = id
      · subst h; exact .inr ⟨rfl, by rw [if_pos rfl]; omega⟩
      · rw [if_neg h]; exact .inl rfl
  refine R_same (by rw [hR.tsz]; exact Nat.le_of_ble_eq_true ht) ⟨g', hR.app1 (fun t' h => by cases h; exact Nat.le_of_ble_eq_true ht) hst ?_ trivial⟩
  rw [hval]
  show lstAt (g'.N C) (g'.N C) k es w (g.rh id)
  rcases hbb with ⟨q1, rfl⟩ | ⟨cap, cs, q1, q2, q3, q4, q5, q6, q7⟩
  · exact ⟨none, 0, 0, 0, by rw [q1]; rfl, by simp, by decide, fun _ => rfl, by simp, fun i cs hi => by simp at hi⟩
  · have hd := hR.dom _ _ q3
    refine ⟨_, cap, g.ph id, 0, q1, q4, q5, by simp, fun _ => ⟨rfl, hd.1, fun hn => ?_⟩, fun i ps hi => ?_⟩
    · rcases hn with hn | hn
      · have := hR.n0 _ hn
        rcases hd.2 with q | q
        · omega
        · exact hR.n0l _ hn q
      · rw [hg', if_pos q3] at hn; exact hn rfl
    · obtain ⟨r1, r2⟩ := q7 i ps hi
      refine ⟨r1, fun j A hj => ?_⟩
      obtain ⟨y, s1, s2, s3⟩ := r2 j A hj
      exact ⟨y, by rw [Nat.zero_add, cell_at q2]; exact s1, s2, A.mono (Nat.le_refl _) (fun _ _ _ => rfl) hst.n s3⟩
/-- what a slot holds may be said in other words -/
theorem Le_as (t : Nat) {c c' : Cnt} (h0 : S.get t = c) (h : c = c') : Le n S (S.put (some t) c') := by
  subst h0; subst h
  have : S.put (some t) (S.get t) = S := St.ext' (fun u => by rw [St.put_get]; split; · rename_i e; rw [e]
                                                              · rfl) (fun _ => ⟨rfl, rfl⟩)
  rw [this]; exact Le_refl

/-! ### results -/
def rvF (tm : Array Value) : ResultVar → Sem Value
  | .tmp t => pure (tm.getD t undef)
  | .cell a t => do loadVar t (← asAddr (tm.getD a undef))
theorem results_eq (fn : Func) (tm : Array Value) : results fn tm = (do let vs ← fn.results.mapM (rvF tm); pure (if h : vs.size = 1 then vs[0] else .tuple vs)) := by
  unfold results
  congr 1
def ResVarOk (P : Program) (n : Nat) (S : St) (rv : ResultVar) (r : Ret) : Prop :=
  ∀ (C : Ctx) (g : Gh) a w, (∀ b, ¬ C.L b) → RG C n S g a w → ∃ v, (rvF a.tmps rv).run P w = .ok v w ∧ r.rep C.N0 C.W0 w v
theorem rv_per {t : Nat} {A : PV} (h : S.get t = .per A) : ResVarOk P n S (.tmp t) (.per A) := fun C g a w _ hR => by
  have := hR.slots t
  rw [h] at this
  exact ⟨_, rfl, A.mono (Nat.le_refl _) (fun _ _ _ => rfl) (fun b _ hb => .inl hb) this⟩
theorem rv_own {t id vr e k : Nat} {es : List (List PV)} (h : S.get t = .row id vr) (hv : S.ver id = vr) (hb : S.blk id = .row e k es) : ResVarOk P n S (.tmp t) (.own e k es) := fun C g a w hL hR => by
  have hs := hR.slots t
  rw [h] at hs
  have hB := hR.blks id
  rw [hb] at hB
  refine ⟨_, rfl, ?_⟩
  rw [hs.2 hv.symm]
  rcases hB with ⟨q1, q2⟩ | ⟨cap, cs, q1, q2, q3, q4, q5, q6, q7⟩
  · exact .inl ⟨q1, q2⟩
  · have hd := (hR.dom _ _ q3).2
    refine .inr ⟨g.ph id, cap, cs, q1, by rcases hd with q | q; exact q; exact absurd q (hL _), q2, q4, q5, q6, fun i ps hi => ?_⟩
    obtain ⟨r1, r2⟩ := q7 i ps hi
    refine ⟨r1, fun j A hj => ?_⟩
    obtain ⟨y, s1, s2, s3⟩ := r2 j A hj
    exact ⟨y, s1, s2, A.mono (Nat.le_refl _) (fun _ _ _ => rfl) (fun b _ hb => by
      rcases hb with hb | hb
      · exact .inl hb
      · exact .inr (by rw [hb, q3]; simp)) s3⟩
theorem rv_nil {t e k : Nat} (h : S.get t = .per (rawP (.slice none 0 0))) : ResVarOk P n S (.tmp t) (.own e k []) := fun C g a w _ hR => by
  have := hR.slots t
  rw [h] at this
  exact ⟨_, rfl, .inl ⟨this, rfl⟩⟩
theorem rv_nill {t k : Nat} (h : S.get t = .per (rawP (.slice none 0 0))) : ResVarOk P n S (.tmp t) (.per (lstP k [])) := fun C g a w _ hR => by
  have := hR.slots t
  rw [h] at this
  refine ⟨_, rfl, ?_⟩
  rw [show a.tmps.getD t undef = _ from this]
  exact ⟨none, 0, 0, 0, rfl, by simp, by decide, fun _ => rfl, by simp, fun i cs hi => by simp at hi⟩
theorem rv_lst {t id vr e k : Nat} {es : List (List PV)} (h : S.get t = .row id vr) (hv : S.ver id = vr) (hb : S.blk id = .row e k es) : ResVarOk P n S (.tmp t) (.per (lstP k es)) := fun C g a w hL hR => by
  have hs := hR.slots t
  rw [h] at hs
  have hB := hR.blks id
  rw [hb] at hB
  refine ⟨_, rfl, ?_⟩
  rw [hs.2 hv.symm]
  rcases hB with ⟨q1, rfl⟩ | ⟨cap, cs, q1, q2, q3, q4, q5, q6, q7⟩
  · exact ⟨none, 0, 0, 0, by rw [q1]; rfl, by simp, by decide, fun _ => rfl, by simp, fun i cs hi => by simp at hi⟩
  · have hd := hR.dom _ _ q3
    refine ⟨_, cap, g.ph id, 0, q1, q4, q5, by simp, fun _ => ⟨rfl, hd.1, fun hn => ?_⟩, fun i ps hi => ?_⟩
    · have := hR.n0 _ hn
      rcases hd.2 with q | q
      · omega
      · exact absurd q (hL _)
    · obtain ⟨r1, r2⟩ := q7 i ps hi
      refine ⟨r1, fun j A hj => ?_⟩
      obtain ⟨y, s1, s2, s3⟩ := r2 j A hj
      exact ⟨y, by rw [Nat.zero_add, cell_at q2]; exact s1, s2, A.mono (Nat.le_refl _) (fun _ _ _ => rfl) (fun b _ hb => .inl hb) s3⟩
theorem rv_cellA {t id vr k : Nat} {ty e : TypeId} {d : TypeDesc} {cells : List Cnt} {As : List PV} (hT : P.underlying ty = some d) (hd : isAggD d = true) (hk : P.cellsOf ty = k) (h0 : Nat.blt 0 k = true) (h : S.get t = .ptr id vr 0) (hv : S.ver id = vr) (hb : S.blk id = .box e cells)
    (hl : cells.length = k) (hc : perL cells = some As) : ResVarOk P n S (.cell t ty) (.per (aggP As)) := fun C g a w _ hR => by
  have hs := hR.slots t
  rw [h] at hs
  have hB := hR.blks id
  rw [hb] at hB
  obtain ⟨cs, h2, _, h4, h5⟩ := hB
  have hm := perL_spec hc
  have hlen : As.length = k := by rw [← hl, hm]; simp
  have h0 := Nat.le_of_ble_eq_true h0
  obtain ⟨vs, g1, g2, g3⟩ := list_of_cells (N := g.N C) (w := w) (f := fun j => w.cell? ⟨g.ph id, 0 + j, none⟩) As (fun j A hj => by
    obtain ⟨y, q1, q2, q3⟩ := h5 j (.per A) (by rw [hm, List.getElem?_map, hj]; rfl)
    exact ⟨y, by rw [cell_at h2, Nat.zero_add]; exact q1, q2, q3⟩)
  refine ⟨.agg vs.toArray, ?_, vs.toArray, rfl, g3.mono (Nat.le_refl _) (fun _ _ _ => rfl) (fun b _ hb => .inl hb)⟩
  have := loadAt_agg (P := P) (w := w) (b := g.ph id) (o := 0) hT hd (by rw [hk, g1, hlen]) (by omega) g2
  show (do loadVar ty (← asAddr (a.tmps.getD t undef))).run P w = _
  rw [hs.2 hv.symm]
  simpa [Instr.loadAt, Instr.sureAddr, asAddr] using this
theorem rv_cell1 {t id vr : Nat} {ty e : TypeId} {d : TypeDesc} {A : PV} {l : List Cnt} (hT : P.underlying ty = some d) (hd : isAggD d = false) (h : S.get t = .ptr id vr 0) (hv : S.ver id = vr) (hb : S.blk id = .box e (.per A :: l)) : ResVarOk P n S (.cell t ty) (.per A) := fun C g a w _ hR => by
  have hs := hR.slots t
  rw [h] at hs
  have hB := hR.blks id
  rw [hb] at hB
  obtain ⟨cs, h2, _, h4, h5⟩ := hB
  obtain ⟨y, q1, q2, q3⟩ := h5 0 (.per A) rfl
  refine ⟨y, ?_, A.mono (Nat.le_refl _) (fun _ _ _ => rfl) (fun b _ hb => .inl hb) q3⟩
  have := loadAt_one (P := P) (w := w) (b := g.ph id) (o := 0) hT hd (by rw [cell_at h2]; exact q1)
  show (do loadVar ty (← asAddr (a.tmps.getD t undef))).run P w = _
  rw [hs.2 hv.symm]
  simpa [Instr.loadAt, Instr.sureAddr, asAddr] using this
theorem res1 {fn : Func} {rv : ResultVar} {r : Ret} (hf : fn.results = #[rv]) (h : ResVarOk P n S rv r) : ResOk P n fn S r := fun C a w hL ⟨g, hR⟩ => by
  obtain ⟨v, h1, h2⟩ := h C g a w hL hR
  refine ⟨v, ?_, h2⟩
  rw [results_eq, hf]
  simp [h1]
theorem res2 {fn : Func} {rv rv' : ResultVar} {r r' : Ret} (hf : fn.results = #[rv, rv']) (h : ResVarOk P n S rv r) (h' : ResVarOk P n S rv' r') : ResOk P n fn S (.tup2 r r') := fun C a w hL ⟨g, hR⟩ => by
  obtain ⟨v, h1, h2⟩ := h C g a w hL hR
  obtain ⟨v', h1', h2'⟩ := h' C g a w hL hR
  refine ⟨.tuple #[v, v'], ?_, v, v', rfl, h2, h2'⟩
  rw [results_eq, hf]
  simp [h1, h1']
theorem res3 {fn : Func} {rv rv' rv'' : ResultVar} {r r' r'' : Ret} (hf : fn.results = #[rv, rv', rv'']) (h : ResVarOk P n S rv r) (h' : ResVarOk P n S rv' r') (h'' : ResVarOk P n S rv'' r'') : ResOk P n fn S (.tup3 r r' r'') := fun C a w hL ⟨g, hR⟩ => by
  obtain ⟨v, h1, h2⟩ := h C g a w hL hR
  obtain ⟨v', h1', h2'⟩ := h' C g a w hL hR
  obtain ⟨v'', h1'', h2''⟩ := h'' C g a w hL hR
  refine ⟨.tuple #[v, v', v''], ?_, v, v', v'', rfl, h2, h2', h2''⟩
  rw [results_eq, hf]
  simp [h1, h1', h1'']
end
end Go.Proofs.Ytnpognmpgddncaa
