/- Rows and boxes that nobody will turn any more: what spoke of them speaks of what they hold. No program in sight. -/
import Derived.Test.YtnpognmpgddncaaAbsW
namespace Go.Proofs.Ytnpognmpgddncaa
open Go.RowKit
/-- what spoke of the block id, up to date, is said by A (a row) or by B (an address at a place) -/
def Cnt.fz (id vr : Nat) (A : Cnt) (B : Nat → Cnt) : Cnt → Cnt
  | .row i r => bif Nat.beq i id && Nat.beq r vr then A else .row i r
  | .ptr i r off => bif Nat.beq i id && Nat.beq r vr then B off else .ptr i r off
  | .ept i r k q j => bif Nat.beq i id && Nat.beq r vr then .any else .ept i r k q j
  | .tup2 c d => .tup2 (Cnt.fz id vr A B c) (Cnt.fz id vr A B d)
  | .tup3 c d e => .tup3 (Cnt.fz id vr A B c) (Cnt.fz id vr A B d) (Cnt.fz id vr A B e)
  | .clo1 f c => .clo1 f (Cnt.fz id vr A B c)
  | .clo2 f c d => .clo2 f (Cnt.fz id vr A B c) (Cnt.fz id vr A B d)
  | .clo3 f c d e => .clo3 f (Cnt.fz id vr A B c) (Cnt.fz id vr A B d) (Cnt.fz id vr A B e)
  | .aggN => .aggN
  | .aggK c r => .aggK (Cnt.fz id vr A B c) (Cnt.fz id vr A B r)
  | .grd _ _ => .any
  | .any => .any
  | .per A => .per A
  | .bor k es => .bor k es
  | .bpt cs => .bpt cs
def Blk.fz (id vr : Nat) (A : Cnt) (B : Nat → Cnt) : Blk → Blk
  | .none => .none
  | .box e cells => .box e (cells.map (Cnt.fz id vr A B))
  | .row e k es => .row e k es
  | .mix e es c => .mix e es (Cnt.fz id vr A B c)
  | .obj A => .obj A
def St.fz (S : St) (id vr : Nat) (A : Cnt) (B : Nat → Cnt) : St :=
  ⟨fun t => Cnt.fz id vr A B (S.get t), fun i => bif Nat.beq i id then .none else (S.blk i).fz id vr A B, fun i => bif Nat.beq i id then vr + 1 else S.ver i⟩
section
variable {P : Program} {n : Nat} {S : St} {C : Ctx} {g g' : Gh} {w : World}
theorem crep_fz {id : Nat} {vr vr' : Nat → Nat} {A : Cnt} {B : Nat → Cnt} (hst : Stp C (fun i => i = id) vr vr' g g' w w) (hA : ∀ v, v = g.rh id → crep C vr' g' w v A) (hB : ∀ off v, v = .pointer (some ⟨g.ph id, off, none⟩) → crep C vr' g' w v (B off)) :
    ∀ {c : Cnt} {v : Value}, crep C vr g w v c → crep C vr' g' w v (Cnt.fz id (vr id) A B c) := by
  have key : ∀ {i r : Nat} {c c' : Cnt} {v : Value}, (i = id → r = vr id → crep C vr' g' w v c) → crep C vr' g' w v c' → crep C vr' g' w v (bif Nat.beq i id && Nat.beq r (vr id) then c else c') := by
    intro i r c c' v h1 h2
    cases hb : Nat.beq i id with
    | false => exact h2
    | true =>
      cases hr : Nat.beq r (vr id) with
      | false => exact h2
      | true => exact h1 (nbeq_true.1 hb) (nbeq_true.1 hr)
  intro c
  induction c with
  | row i r => intro v h; exact key (fun e1 e2 => hA v (by rw [← e1]; exact h.2 (by rw [e1]; exact e2))) (hst.crep h)
  | ptr i r off => intro v h; exact key (fun e1 e2 => hB off v (by rw [← e1]; exact h.2 (by rw [e1]; exact e2))) (hst.crep h)
  | ept i r k q j => intro v h; exact key (fun _ _ => trivial) (hst.crep h)
  | per A' => intro v h; exact hst.crep (c := .per A') h
  | bor k es => intro v h; exact hst.crep (c := .bor k es) h
  | bpt cs => intro v h; exact hst.crep (c := .bpt cs) h
  | any => intro v _; trivial
  | grd b c ih => intro v _; trivial
  | tup2 c d ih1 ih2 => rintro v ⟨x, y, e, h1, h2⟩; exact ⟨x, y, e, ih1 h1, ih2 h2⟩
  | tup3 c d e ih1 ih2 ih3 => rintro v ⟨x, y, z, e, h1, h2, h3⟩; exact ⟨x, y, z, e, ih1 h1, ih2 h2, ih3 h3⟩
  | clo1 f c ih => rintro v ⟨x, e, h1⟩; exact ⟨x, e, ih h1⟩
  | clo2 f c d ih1 ih2 => rintro v ⟨x, y, e, h1, h2⟩; exact ⟨x, y, e, ih1 h1, ih2 h2⟩
  | clo3 f c d e ih1 ih2 ih3 => rintro v ⟨x, y, z, e, h1, h2, h3⟩; exact ⟨x, y, z, e, ih1 h1, ih2 h2, ih3 h3⟩
  | aggN => exact fun h => h
  | aggK c r ih1 ih2 => rintro v ⟨x, vs, e, o, h1, h2⟩; exact ⟨x, vs, e, o, ih1 h1, ih2 h2⟩
theorem brep_fz {id i : Nat} (hi : i ≠ id) {vr vr' : Nat → Nat} {A : Cnt} {B : Nat → Cnt} (hst : Stp C (fun i => i = id) vr vr' g g' w w) (hdom : ∀ b id, g.ow b = some id → b < w.heap.size)
    (hA : ∀ v, v = g.rh id → crep C vr' g' w v A) (hB : ∀ off v, v = .pointer (some ⟨g.ph id, off, none⟩) → crep C vr' g' w v (B off)) {Bk : Blk} (h : brep C vr g w i Bk) : brep C vr' g' w i (Bk.fz id (vr id) A B) := by
  have hv : vr' i = vr i := by
    rcases hst.ver i with e | ⟨e, _⟩
    · exact e
    · exact absurd e hi
  obtain ⟨hph, hrh⟩ := hst.gh i hv
  have hne : ∀ {b : Nat}, g.ow b = some i → ∀ j, j = id → g.ow b ≠ some j := fun e j hj e' => by
    rw [e] at e'; cases e'; exact hi hj
  cases Bk with
  | none => trivial
  | row e k es => exact hst.brep (B := .row e k es) hdom hi h
  | obj A' => exact hst.brep (B := .obj A') hdom hi h
  | box e cells =>
    obtain ⟨cs, h1, h2, h3, h4⟩ := h
    have hb := hdom _ _ h2
    refine ⟨cs, by rw [hph]; exact h1, by rw [hph, hst.ow _ hb (hne h2)]; exact h2, by simp [h3], fun j c hj => ?_⟩
    rw [List.getElem?_map] at hj
    cases hc : cells[j]? with
    | none => rw [hc] at hj; cases hj
    | some c' =>
      rw [hc] at hj; cases hj
      obtain ⟨y, q1, q2, q3⟩ := h4 j c' hc
      exact ⟨y, q1, q2, crep_fz hst hA hB q3⟩
  | mix e es c =>
    obtain ⟨cap, cs, h1, h2, h3, h4, h5, h6, h7, y, q1, q2, q3⟩ := h
    have hb := hdom _ _ h3
    refine ⟨cap, cs, by rw [hrh, hph]; exact h1, by rw [hph]; exact h2, by rw [hph, hst.ow _ hb (hne h3)]; exact h3, h4, h5, h6, fun j A' hj => ?_, y, q1, q2, crep_fz hst hA hB q3⟩
    obtain ⟨y', r1, r2, r3⟩ := h7 j A' hj
    exact ⟨y', r1, r2, A'.mono (Nat.le_refl _) (fun _ _ _ => rfl) hst.n r3⟩
theorem Le_fz_gen (id vr : Nat) {A : Cnt} {B : Nat → Cnt} (hv : S.ver id = vr)
    (hX : ∀ (C : Ctx) (g : Gh) (w : World) (n : Nat) (a : Act), RG C n S g a w → ∀ g' : Gh, (∀ b, g'.ow b = if g.ow b = some id then none else g.ow b) → g'.ph = g.ph → g'.rh = g.rh → ∀ vr', (∀ b, b < w.heap.size → g'.N C b → g.N C b) →
      (∀ v, v = g.rh id → crep C vr' g' w v A) ∧ (∀ off v, v = .pointer (some ⟨g.ph id, off, none⟩) → crep C vr' g' w v (B off))) : Le n S (S.fz id vr A B) := by
  rintro C a w ⟨g, hR⟩
  subst hv
  let g' : Gh := ⟨fun b => if g.ow b = some id then none else g.ow b, g.ph, g.rh⟩
  have hg' : ∀ b, g'.ow b = if g.ow b = some id then none else g.ow b := fun _ => rfl
  have hvr : ∀ i, (S.fz id (S.ver id) A B).ver i = if i = id then S.ver id + 1 else S.ver i := fun i => by
    show (bif Nat.beq i id then S.ver id + 1 else S.ver i) = _
    by_cases h : i = id
    · simp [h]
    · simp [h, nbeq_false h]
  have hst : Stp C (fun i => i = id) S.ver (S.fz id (S.ver id) A B).ver g g' w w := by
    refine ⟨Nat.le_refl _, fun _ _ _ => rfl, fun b _ hn => ?_, fun b _ hn => ?_, fun b i e => ?_, fun i => ?_, fun _ _ => ⟨rfl, rfl⟩, fun _ _ => ⟨rfl, rfl⟩, rfl, rfl, rfl⟩
    · rw [hg', if_neg (hn id rfl)]
    · rw [hg'] at hn
      by_cases h : g.ow b = some id
      · rw [h]; simp
      · rwa [if_neg h] at hn
    · rw [hg'] at e
      by_cases h : g.ow b = some id
      · rw [if_pos h] at e; cases e
      · rw [if_neg h] at e; exact hR.dom b i e
    · rw [hvr]
      by_cases h : i = id
      · subst h; exact .inr ⟨rfl, by rw [if_pos rfl]; omega⟩
      · rw [if_neg h]; exact .inl rfl
  obtain ⟨hA, hB⟩ := hX C g w n a hR g' hg' rfl rfl (S.fz id (S.ver id) A B).ver hst.n
  refine ⟨g', hR.defers, hR.tsz, hR.nle, hR.keep, hR.os, hR.tape, hR.output, hR.size, hR.old, hR.n0, hR.n0l, hst.dom, fun t => crep_fz hst hA hB (hR.slots t), fun i => ?_⟩
  show brep C _ g' w i (bif Nat.beq i id then .none else (S.blk i).fz id (S.ver id) A B)
  cases hb : Nat.beq i id with
  | true => trivial
  | false => exact brep_fz (fun e => by rw [nbeq_true.2 e] at hb; cases hb) hst (fun b id e => (hR.dom b id e).1) hA hB (hR.blks i)
/-- a row that stays as it is from now on -/
theorem Le_fz (id vr e k : Nat) {es : List (List PV)} (hv : S.ver id = vr) (hb : S.blk id = .row e k es) : Le n S (S.fz id vr (.per (lstP k es)) (fun _ => .any)) :=
  Le_fz_gen id vr hv fun C g w n a hR g' hg' _ _ vr' hn => ⟨fun v hval => by
    have hbb := hR.blks id
    rw [hb] at hbb
    rw [hval]
    show lstAt (g'.N C) (g'.N C) k es w (g.rh id)
    rcases hbb with ⟨q1, rfl⟩ | ⟨cap, cs, q1, q2, q3, q4, q5, q6, q7⟩
    · exact ⟨none, 0, 0, 0, by rw [q1]; rfl, by simp, by decide, fun _ => rfl, by simp, fun i cs hi => by simp at hi⟩
    · have hd := hR.dom _ _ q3
      refine ⟨_, cap, g.ph id, 0, q1, q4, q5, by simp, fun _ => ⟨rfl, hd.1, fun hn => ?_⟩, fun i ps hi => ?_⟩
      · rcases hn with hn | hn
        · have := hR.n0 _ hn
          rcases hd.2 with q | q
          · omega
          · exact hR.n0l _ hn q
        · rw [hg', if_pos q3] at hn; exact hn rfl
      · obtain ⟨r1, r2⟩ := q7 i ps hi
        refine ⟨r1, fun j A hj => ?_⟩
        obtain ⟨y, s1, s2, s3⟩ := r2 j A hj
        exact ⟨y, by rw [Nat.zero_add, cell_at q2]; exact s1, s2, A.mono (Nat.le_refl _) (fun _ _ _ => rfl) hn s3⟩, fun _ _ _ => trivial⟩
/-- a box that stays as it is from now on -/
theorem Le_fzB (id vr e : Nat) {cells : List Cnt} {As : List PV} (hv : S.ver id = vr) (hb : S.blk id = .box e cells) (hp : perL cells = some As) : Le n S (S.fz id vr .any (fun off => .per (rptrP (As.drop off)))) :=
  Le_fz_gen id vr hv fun C g w n a hR g' hg' _ _ vr' hn => ⟨fun _ _ => trivial, fun off v hval => by
    have hbb := hR.blks id
    rw [hb, perL_spec hp] at hbb
    obtain ⟨cs, h1, h2, h3, h4⟩ := hbb
    have hd := hR.dom _ _ h2
    refine ⟨g.ph id, off, hval, hd.1, fun hn => ?_, fun j A hj => ?_⟩
    · rcases hn with hn | hn
      · have := hR.n0 _ hn
        rcases hd.2 with q | q
        · omega
        · exact hR.n0l _ hn q
      · rw [hg', if_pos h2] at hn; exact hn rfl
    · rw [List.getElem?_drop] at hj
      obtain ⟨y, s1, s2, s3⟩ := h4 (off + j) (.per A) (by rw [List.getElem?_map, hj]; rfl)
      exact ⟨y, by rw [cell_at h1]; exact s1, s2, A.mono (Nat.le_refl _) (fun _ _ _ => rfl) hn s3⟩⟩
theorem ResM_le {fn : Func} {S' : St} {r : Cnt} {post : List (Nat × Blk)} (h : Le n S S') (k : ResM P n fn S' r post) : ResM P n fn S r post := fun C g a w hR => by
  obtain ⟨g', hR'⟩ := h C a w ⟨g, hR⟩
  exact k C g' a w hR'
theorem ResO_le {fn : Func} {S' : St} {r : Ret} (h : Le n S S') (k : ResOk P n fn S' r) : ResOk P n fn S r := fun C a w hL hR => k C a w hL (h C a w hR)
theorem rvm_cellA {τ : List (Nat × Nat)} {t id vr k : Nat} {ty e : TypeId} {cells : List Cnt} {As : List PV} (hT : AggC P ty true) (hk : Siz P ty k) (h0 : Nat.blt 0 k = true) (h : S.get t = .ptr id vr 0) (hv : S.ver id = vr) (hb : S.blk id = .box e cells)
    (hl : cells.length = k) (hc : perL cells = some As) : RVM P n S τ (.cell t ty) (.per (aggP As)) := rvm_old fun C g a w hR => by
  obtain ⟨d, hT, hd⟩ := hT.h
  have hk := hk.h
  have hs := hR.slots t
  rw [h] at hs
  have hB := hR.blks id
  rw [hb] at hB
  obtain ⟨cs, h2, _, h4, h5⟩ := hB
  have hm := perL_spec hc
  have hlen : As.length = k := by rw [← hl, hm]; simp
  have h0 := Nat.le_of_ble_eq_true h0
  obtain ⟨vs, g1, g2, g3⟩ := list_of_cells (N := g.N C) (w := w) (f := fun j => w.cell? ⟨g.ph id, 0 + j, none⟩) As (fun j A hj => by
    obtain ⟨y, q1, q2, q3⟩ := h5 j (.per A) (by rw [hm, List.getElem?_map, hj]; rfl)
    exact ⟨y, by rw [cell_at h2, Nat.zero_add]; exact q1, q2, q3⟩)
  refine ⟨.agg vs.toArray, ?_, vs.toArray, rfl, g3⟩
  have := loadAt_agg (P := P) (w := w) (b := g.ph id) (o := 0) hT hd (by rw [hk, g1, hlen]) (by omega) g2
  show (do loadVar ty (← asAddr (a.tmps.getD t undef))).run P w = _
  rw [hs.2 hv.symm]
  simpa [Instr.loadAt, Instr.sureAddr, asAddr] using this
theorem rvm_cell1 {τ : List (Nat × Nat)} {t id vr : Nat} {ty e : TypeId} {c c' : Cnt} {l : List Cnt} (hτ : ok1 τ = true) (hT : AggC P ty false) (h : S.get t = .ptr id vr 0) (hv : S.ver id = vr) (hb : S.blk id = .box e (c :: l)) (hc : c.mp false (lk1 τ) S.ver z0 = c') : RVM P n S τ (.cell t ty) c' := fun C g a w hR => by
  obtain ⟨d, hT, hd⟩ := hT.h
  have hs := hR.slots t
  rw [h] at hs
  have hB := hR.blks id
  rw [hb] at hB
  obtain ⟨cs, h2, _, h4, h5⟩ := hB
  obtain ⟨y, q1, q2, q3⟩ := h5 0 c rfl
  refine ⟨y, ?_, ?_⟩
  · have := loadAt_one (P := P) (w := w) (b := g.ph id) (o := 0) hT hd (by rw [cell_at h2]; exact q1)
    show (do loadVar ty (← asAddr (a.tmps.getD t undef))).run P w = _
    rw [hs.2 hv.symm]
    simpa [Instr.loadAt, Instr.sureAddr, asAddr] using this
  · rw [← hc]
    exact crep_mp (fun b _ h => ex_N b h) (fun h => by cases h) (ex_ρ hτ) q3
theorem rvm_cellC {τ : List (Nat × Nat)} {t id vr k : Nat} {ty e : TypeId} {cells : List Cnt} {c : Cnt} (hτ : ok1 τ = true) (hT : AggC P ty true) (hk : Siz P ty k) (h0 : Nat.blt 0 k = true) (h : S.get t = .ptr id vr 0) (hv : S.ver id = vr) (hb : S.blk id = .box e cells)
    (hl : cells.length = k) (hc : (aggOf cells).mp false (lk1 τ) S.ver z0 = c) : RVM P n S τ (.cell t ty) c := fun C g a w hR => by
  obtain ⟨d, hT, hd⟩ := hT.h
  have hk := hk.h
  have h0 := Nat.le_of_ble_eq_true h0
  have hs := hR.slots t
  rw [h] at hs
  have hB := hR.blks id
  rw [hb] at hB
  obtain ⟨cs, h2, _, h4, h5⟩ := hB
  refine ⟨.agg cs, ?_, ?_⟩
  · have := loadAt_agg (P := P) (w := w) (b := g.ph id) (o := 0) (cs := cs.toList) hT hd (by simp; omega) (by simp; omega) (fun j v hj => by rw [cell_at h2, Nat.zero_add]; simpa using hj)
    show (do loadVar ty (← asAddr (a.tmps.getD t undef))).run P w = _
    rw [hs.2 hv.symm]
    simpa [Instr.loadAt, Instr.sureAddr, asAddr] using this
  · rw [← hc]
    refine crep_mp (fun b _ h => ex_N b h) (fun h => by cases h) (ex_ρ hτ) (crep_agg.2 ⟨cs.toList, by simp, by simpa using h4, fun j c hj => ?_⟩)
    obtain ⟨y, q1, q2, q3⟩ := h5 j c hj
    exact ⟨y, by simpa using q1, q2, q3⟩
theorem rv_cA {t id vr k : Nat} {ty e : TypeId} {cells : List Cnt} {As : List PV} (hT : AggC P ty true) (hk : Siz P ty k) (h0 : Nat.blt 0 k = true) (h : S.get t = .ptr id vr 0) (hv : S.ver id = vr) (hb : S.blk id = .box e cells)
    (hl : cells.length = k) (hc : perL cells = some As) : ResVarOk P n S (.cell t ty) (.per (aggP As)) := by
  obtain ⟨d, hT, hd⟩ := hT.h
  exact rv_cellA hT hd hk.h h0 h hv hb hl hc
/-! ### another id for a block -/
def mvR (id id' : Nat) (i : Nat) : Option Nat := bif Nat.beq i id then some id' else bif Nat.beq i id' then none else some i
def mvN (vr : Nat → Nat) (id' : Nat) (i : Nat) : Nat := bif Nat.beq i id' then vr id' + 1 else vr i
def St.mv (S : St) (id id' : Nat) : St :=
  ⟨fun t => (S.get t).mp true (mvR id id') S.ver (mvN S.ver id'), fun i => bif Nat.beq i id' then (S.blk id).mp true (mvR id id') S.ver (mvN S.ver id') else bif Nat.beq i id then .none else (S.blk i).mp true (mvR id id') S.ver (mvN S.ver id'), mvN S.ver id'⟩
theorem mvR_some {id id' i j : Nat} (h : mvR id id' i = some j) : (i = id ∧ j = id') ∨ (i ≠ id ∧ i ≠ id' ∧ j = i) := by
  unfold mvR at h
  by_cases h1 : i = id
  · subst h1; rw [Nat.beq_refl] at h; cases h; exact .inl ⟨rfl, rfl⟩
  · rw [nbeq_false h1] at h
    by_cases h2 : i = id'
    · subst h2; rw [Nat.beq_refl] at h; cases h
    · rw [nbeq_false h2] at h; cases h; exact .inr ⟨h1, h2, rfl⟩
theorem Le_mv (id id' : Nat) (hne : Nat.beq id id' = false := by rfl) (hfx : isFix id' = false := by rfl) : Le n S (S.mv id id') := by
  rintro C a w ⟨g, hR⟩
  have hne' : id ≠ id' := fun e => by rw [nbeq_true.2 e] at hne; cases hne
  let g' : Gh := ⟨fun b => if g.ow b = some id then some id' else g.ow b, fun i => if i = id' then g.ph id else g.ph i, fun i => if i = id' then g.rh id else g.rh i⟩
  have how : ∀ b, g'.ow b = if g.ow b = some id then some id' else g.ow b := fun _ => rfl
  have hM : ∀ b, g'.M b → g.M b := fun b h e => h (by rw [how, if_neg (by rw [e]; simp)]; exact e)
  have hN : ∀ b, g'.N C b → g.N C b := fun b h => h.imp (fun q => q) (fun q => hM b q)
  have hρ : ∀ i j, mvR id id' i = some j → g'.ph j = g.ph i ∧ g'.rh j = g.rh i := fun i j h => by
    rcases mvR_some h with ⟨rfl, rfl⟩ | ⟨h1, h2, rfl⟩
    · exact ⟨if_pos rfl, if_pos rfl⟩
    · exact ⟨if_neg h2, if_neg h2⟩
  have hoj : ∀ b i j, g.ow b = some i → mvR id id' i = some j → g'.ow b = some j := fun b i j h1 h2 => by
    rcases mvR_some h2 with ⟨rfl, rfl⟩ | ⟨q1, q2, rfl⟩
    · rw [how, if_pos h1]
    · rw [how, if_neg (by rw [h1]; simpa using q1)]; exact h1
  refine ⟨g', hR.defers, hR.tsz, hR.nle, fun i hi => ?_, hR.os, hR.tape, hR.output, hR.size, hR.old, hR.n0, hR.n0l, fun b i e => ?_, fun t => crep_mp (fun b _ h => hN b h) (fun _ b _ h => hM b h) hρ (hR.slots t), fun i => ?_⟩
  · have : i ≠ id' := fun e => by subst e; rw [hfx] at hi; cases hi
    exact ⟨(if_neg this).trans (hR.keep i hi).1, (if_neg this).trans (hR.keep i hi).2⟩
  · rw [how] at e
    split at e
    · rename_i h; exact hR.dom b id h
    · exact hR.dom b i e
  · show brep C _ g' w i (bif Nat.beq i id' then _ else bif Nat.beq i id then _ else _)
    cases h1 : Nat.beq i id' with
    | true =>
      obtain rfl := nbeq_true.1 h1
      exact brep_mp (fun b _ h => hN b h) (fun _ b _ h => hM b h) hρ hoj (fun b i e => (hR.dom b i e).1) (i := id) (by unfold mvR; rw [Nat.beq_refl]; rfl) (hR.blks id)
    | false =>
      cases h2 : Nat.beq i id with
      | true => trivial
      | false => exact brep_mp (fun b _ h => hN b h) (fun _ b _ h => hM b h) hρ hoj (fun b i e => (hR.dom b i e).1) (i := i) (by unfold mvR; rw [h1, h2]; rfl) (hR.blks i)
end
end Go.Proofs.Ytnpognmpgddncaa
