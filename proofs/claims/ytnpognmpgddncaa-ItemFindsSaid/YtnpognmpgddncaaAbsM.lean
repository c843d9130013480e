/- Functions that turn what was lent to them, and hand back what they made. No program in sight. -/
import Derived.Test.YtnpognmpgddncaaAbsEq
namespace Go.Proofs.Ytnpognmpgddncaa
open Go.RowKit

/-- what is up to date, said in other ids -/
def mpId (ρ : Nat → Option Nat) (old : Nat → Nat) (id r : Nat) (k : Nat → Cnt) : Cnt := match ρ id with
  | some j => bif Nat.beq r (old id) then k j else .any
  | none => .any
def Cnt.mp (bo : Bool) (ρ : Nat → Option Nat) (old new : Nat → Nat) : Cnt → Cnt
  | .row id r => mpId ρ old id r fun j => .row j (new j)
  | .ptr id r off => mpId ρ old id r fun j => .ptr j (new j) off
  | .ept id r k i q => mpId ρ old id r fun j => .ept j (new j) k i q
  | .per A => .per A
  | .bor k es => bif bo then .bor k es else .any
  | .bpt cs => bif bo then .bpt cs else .any
  | .tup2 c d => .tup2 (c.mp bo ρ old new) (d.mp bo ρ old new)
  | .tup3 c d e => .tup3 (c.mp bo ρ old new) (d.mp bo ρ old new) (e.mp bo ρ old new)
  | .clo1 f c => .clo1 f (c.mp bo ρ old new)
  | .clo2 f c d => .clo2 f (c.mp bo ρ old new) (d.mp bo ρ old new)
  | .clo3 f c d e => .clo3 f (c.mp bo ρ old new) (d.mp bo ρ old new) (e.mp bo ρ old new)
  | .aggN => .aggN
  | .aggK c r => .aggK (c.mp bo ρ old new) (r.mp bo ρ old new)
  | .grd _ _ => .any
  | .any => .any
def Blk.mp (bo : Bool) (ρ : Nat → Option Nat) (old new : Nat → Nat) : Blk → Blk
  | .none => .none
  | .box e cells => .box e (cells.map (Cnt.mp bo ρ old new))
  | .row e k es => .row e k es
  | .mix e es c => .mix e es (c.mp bo ρ old new)
  | .obj A => .obj A
section
variable {C C' : Ctx} {vr vr' : Nat → Nat} {g g' : Gh} {w : World} {ρ : Nat → Option Nat} {bo : Bool}
theorem crep_id {id r : Nat} {v : Value} {k : Nat → Cnt} {old : Nat → Nat} (h : ∀ j, ρ id = some j → r = old id → crep C' vr' g' w v (k j)) : crep C' vr' g' w v (mpId ρ old id r k) := by
  unfold mpId
  cases hr : ρ id with
  | none => trivial
  | some j =>
    simp only
    cases hb : Nat.beq r (old id) with
    | true => exact h j hr (nbeq_true.1 hb)
    | false => trivial
theorem crep_mp (hN : ∀ b, b < w.heap.size → g'.N C' b → g.N C b) (hM : bo = true → ∀ b, b < w.heap.size → g'.M b → g.M b) (hρ : ∀ i j, ρ i = some j → g'.ph j = g.ph i ∧ g'.rh j = g.rh i) :
    ∀ {c : Cnt} {v : Value}, crep C vr g w v c → crep C' vr' g' w v (c.mp bo ρ vr vr') := by
  intro c
  induction c with
  | any => intro v _; trivial
  | per A => intro v h; exact A.mono (Nat.le_refl _) (fun _ _ _ => rfl) hN h
  | bor k es =>
    intro v h
    cases hb : bo with
    | true => exact lstAt.mono (Nat.le_refl _) (fun _ _ _ => rfl) (fun _ _ _ => rfl) (hM hb) hN h
    | false => trivial
  | bpt cs =>
    rintro v ⟨b, o, e, hb, hn, h⟩
    cases hbo : bo with
    | true => exact ⟨b, o, e, hb, fun x => hn (hM hbo b hb x), fun j A hj => let ⟨y, g1, g2, g3⟩ := h j A hj; ⟨y, g1, g2, A.mono (Nat.le_refl _) (fun _ _ _ => rfl) hN g3⟩⟩
    | false => trivial
  | row id r => intro v h; exact crep_id fun j hj e => ⟨Nat.le_refl _, fun _ => by rw [(hρ _ _ hj).2]; exact h.2 e⟩
  | ptr id r off => intro v h; exact crep_id fun j hj e => ⟨Nat.le_refl _, fun _ => by rw [(hρ _ _ hj).1]; exact h.2 e⟩
  | ept id r k i q => intro v h; exact crep_id fun j hj e => ⟨Nat.le_refl _, fun _ => by rw [(hρ _ _ hj).1]; exact h.2 e⟩
  | grd b c ih => intro v _; trivial
  | tup2 c d ih1 ih2 => rintro v ⟨x, y, e, h1, h2⟩; exact ⟨x, y, e, ih1 h1, ih2 h2⟩
  | tup3 c d e ih1 ih2 ih3 => rintro v ⟨x, y, z, e, h1, h2, h3⟩; exact ⟨x, y, z, e, ih1 h1, ih2 h2, ih3 h3⟩
  | clo1 f c ih => rintro v ⟨x, e, h1⟩; exact ⟨x, e, ih h1⟩
  | clo2 f c d ih1 ih2 => rintro v ⟨x, y, e, h1, h2⟩; exact ⟨x, y, e, ih1 h1, ih2 h2⟩
  | clo3 f c d e ih1 ih2 ih3 => rintro v ⟨x, y, z, e, h1, h2, h3⟩; exact ⟨x, y, z, e, ih1 h1, ih2 h2, ih3 h3⟩
  | aggN => exact fun h => h
  | aggK c r ih1 ih2 => rintro v ⟨x, vs, e, o, h1, h2⟩; exact ⟨x, vs, e, o, ih1 h1, ih2 h2⟩
theorem brep_mp (hN : ∀ b, b < w.heap.size → g'.N C' b → g.N C b) (hM : bo = true → ∀ b, b < w.heap.size → g'.M b → g.M b) (hρ : ∀ i j, ρ i = some j → g'.ph j = g.ph i ∧ g'.rh j = g.rh i)
    (how : ∀ b i j, g.ow b = some i → ρ i = some j → g'.ow b = some j) (hlt : ∀ b i, g.ow b = some i → b < w.heap.size) {i j : Nat} (hij : ρ i = some j) {B : Blk} (h : brep C vr g w i B) : brep C' vr' g' w j (B.mp bo ρ vr vr') := by
  obtain ⟨hp, hr⟩ := hρ i j hij
  have hper : ∀ {A : PV} {v : Value}, A.p (g.N C) w v → A.p (g'.N C') w v := fun {A v} h => A.mono (Nat.le_refl _) (fun _ _ _ => rfl) hN h
  cases B with
  | none => trivial
  | box e cells =>
    obtain ⟨cs, h1, h2, h3, h4⟩ := h
    refine ⟨cs, by rw [hp]; exact h1, by rw [hp]; exact how _ _ _ h2 hij, by simp [h3], fun q c hq => ?_⟩
    rw [List.getElem?_map] at hq
    cases hc : cells[q]? with
    | none => rw [hc] at hq; cases hq
    | some c' =>
      rw [hc] at hq; cases hq
      obtain ⟨y, q1, q2, q3⟩ := h4 q c' hc
      exact ⟨y, q1, q2, crep_mp hN hM hρ q3⟩
  | row e k es =>
    rcases h with ⟨h1, h2⟩ | ⟨cap, cs, h1, h2, h3, h4, h5, h6, h7⟩
    · exact .inl ⟨by rw [hr]; exact h1, h2⟩
    · refine .inr ⟨cap, cs, by rw [hr, hp]; exact h1, by rw [hp]; exact h2, by rw [hp]; exact how _ _ _ h3 hij, h4, h5, h6, fun q ps hq => ⟨(h7 q ps hq).1, fun u A hu => ?_⟩⟩
      obtain ⟨y, q1, q2, q3⟩ := (h7 q ps hq).2 u A hu
      exact ⟨y, q1, q2, hper q3⟩
  | mix e es c =>
    obtain ⟨cap, cs, h1, h2, h3, h4, h5, h6, h7, y, q1, q2, q3⟩ := h
    refine ⟨cap, cs, by rw [hr, hp]; exact h1, by rw [hp]; exact h2, by rw [hp]; exact how _ _ _ h3 hij, h4, h5, h6, fun q A hq => ?_, y, q1, q2, crep_mp hN hM hρ q3⟩
    obtain ⟨y', s1, s2, s3⟩ := h7 q A hq
    exact ⟨y', s1, s2, hper s3⟩
  | obj A =>
    show A.p (fun b => g'.ow b = some j) (g'.N C') w (g'.rh j)
    rw [hr]
    exact A.mono (F := fun b => g.ow b = some i) (fun b e => how b i j e hij) (fun b e => hlt b i e) (Nat.le_refl _) (fun _ _ _ => rfl) (fun _ _ _ => rfl) hN h
theorem mpId_congr {old old' : Nat → Nat} {k k' : Nat → Cnt} {id r : Nat} (ho : ∀ j, ρ id = some j → old id = old' id) (hk : ∀ j, ρ id = some j → k j = k' j) : mpId ρ old id r k = mpId ρ old' id r k' := by
  unfold mpId
  cases h : ρ id with
  | none => rfl
  | some j => simp only; rw [ho j h, hk j h]
theorem mp_congr {old old' new new' : Nat → Nat} (ho : ∀ i j, ρ i = some j → old i = old' i) (hn : ∀ i j, ρ i = some j → new j = new' j) : ∀ (c : Cnt), c.mp bo ρ old new = c.mp bo ρ old' new' := by
  intro c
  induction c with
  | any => rfl
  | per A => rfl
  | bor k es => rfl
  | bpt cs => rfl
  | row id r => exact mpId_congr (ho id) (fun j h => by rw [hn id j h])
  | ptr id r off => exact mpId_congr (ho id) (fun j h => by rw [hn id j h])
  | ept id r k i q => exact mpId_congr (ho id) (fun j h => by rw [hn id j h])
  | grd b c ih => rfl
  | tup2 c d ih1 ih2 => simp only [Cnt.mp, ih1, ih2]
  | tup3 c d e ih1 ih2 ih3 => simp only [Cnt.mp, ih1, ih2, ih3]
  | clo1 f c ih => simp only [Cnt.mp, ih]
  | clo2 f c d ih1 ih2 => simp only [Cnt.mp, ih1, ih2]
  | clo3 f c d e ih1 ih2 ih3 => simp only [Cnt.mp, ih1, ih2, ih3]
  | aggN => rfl
  | aggK c r ih1 ih2 => simp only [Cnt.mp, ih1, ih2]
theorem Bmp_congr {old old' new new' : Nat → Nat} (ho : ∀ i j, ρ i = some j → old i = old' i) (hn : ∀ i j, ρ i = some j → new j = new' j) (B : Blk) : B.mp bo ρ old new = B.mp bo ρ old' new' := by
  cases B with
  | box e cells => simp only [Blk.mp]; congr 1; exact List.map_congr_left (fun c _ => mp_congr ho hn c)
  | mix e es c => simp only [Blk.mp, mp_congr ho hn c]
  | _ => rfl
end

def lk1 : List (Nat × Nat) → Nat → Option Nat
  | [], _ => none
  | (i, j) :: l, x => bif Nat.beq x i then some j else lk1 l x
def lk2 : List (Nat × Nat) → Nat → Option Nat
  | [], _ => none
  | (i, j) :: l, x => bif Nat.beq x j then some i else lk2 l x
def obeq : Option Nat → Nat → Bool
  | some x, y => Nat.beq x y
  | none, _ => false
theorem obeq_true {x : Option Nat} {y : Nat} (h : obeq x y = true) : x = some y := by
  cases x with
  | none => cases h
  | some x => rw [nbeq_true.1 h]
theorem lk1_mem {l : List (Nat × Nat)} {i j : Nat} (h : lk1 l i = some j) : (i, j) ∈ l := by
  induction l with
  | nil => cases h
  | cons p l ih =>
    obtain ⟨a, b⟩ := p
    unfold lk1 at h
    cases hb : Nat.beq i a with
    | true => rw [hb] at h; cases h; rw [nbeq_true.1 hb]; exact List.mem_cons_self
    | false => rw [hb] at h; exact List.mem_cons_of_mem _ (ih h)
theorem lk2_mem {l : List (Nat × Nat)} {i j : Nat} (h : lk2 l j = some i) : (i, j) ∈ l := by
  induction l with
  | nil => cases h
  | cons p l ih =>
    obtain ⟨a, b⟩ := p
    unfold lk2 at h
    cases hb : Nat.beq j b with
    | true => rw [hb] at h; cases h; rw [nbeq_true.1 hb]; exact List.mem_cons_self
    | false => rw [hb] at h; exact List.mem_cons_of_mem _ (ih h)
/-- pairs that are one to one -/
def ok1 (l : List (Nat × Nat)) : Bool := l.all fun p => obeq (lk1 l p.1) p.2 && obeq (lk2 l p.2) p.1
theorem ok1_inv {l : List (Nat × Nat)} (h : ok1 l = true) {i j : Nat} : lk1 l i = some j ↔ lk2 l j = some i := by
  unfold ok1 at h
  rw [List.all_eq_true] at h
  constructor
  · intro e
    have := h _ (lk1_mem e)
    rw [Bool.and_eq_true] at this
    exact obeq_true this.2
  · intro e
    have := h _ (lk2_mem e)
    rw [Bool.and_eq_true] at this
    exact obeq_true this.1

/-! ### contracts -/
structure Frm (C : Ctx) (w w' : World) (g' : Gh) : Prop where
  os : w'.os = w.os
  tape : w'.tape = w.tape
  output : w'.output = w.output
  size : w.heap.size ≤ w'.heap.size
  old : ∀ b, b < w.heap.size → ¬ C.L b → w'.heap[b]? = w.heap[b]?
  dom : ∀ b id, g'.ow b = some id → b < w'.heap.size ∧ (w.heap.size ≤ b ∨ C.L b)
  keep : ∀ id, isFix id = true → g'.ph id = C.G0.ph id ∧ g'.rh id = C.G0.rh id
abbrev z0 : Nat → Nat := fun _ => 0
/-- a function that turns what stands in pre (ids 1000 .. stay where they are), and answers r; then post holds -/
structure FnM (P : Program) (f : FuncId) (As : List Cnt) (pre : List (Nat × Blk)) (r : Cnt) (post : List (Nat × Blk)) : Prop where
  ent : Ent P f
  run : ∀ (C : Ctx) (w : World) (vs : List Value), C.W0 = w → (∀ b, C.N0 b → b < w.heap.size ∧ ¬ C.L b) → (∀ b id, C.G0.ow b = some id → b < w.heap.size ∧ C.L b) →
    vs.length = As.length → (∀ (i : Nat) (v : Value) (c : Cnt), vs[i]? = some v → As[i]? = some c → crep C z0 C.G0 w v c) → (∀ id, brep C z0 C.G0 w id (lookB id pre)) →
    Calls P f vs.toArray w (fun e w' => ∃ v g', e = .returned v ∧ Frm C w w' g' ∧ crep C z0 g' w' v r ∧ ∀ id, brep C z0 g' w' id (lookB id post))
def initM (As : List Cnt) (pre : List (Nat × Blk)) : St := ⟨fun t => (As[t]?).getD .any, fun i => lookB i pre, z0⟩
def ResM (P : Program) (n : Nat) (fn : Func) (S : St) (r : Cnt) (post : List (Nat × Blk)) : Prop :=
  ∀ (C : Ctx) (g : Gh) a w, RG C n S g a w → ∃ v g', (results fn a.tmps).run P w = .ok v w ∧ Frm C C.W0 w g' ∧ crep C z0 g' w v r ∧ ∀ id, brep C z0 g' w id (lookB id post)
theorem fnm_intro {P : Program} {f : FuncId} {fn : Func} {body : Code} {As : List Cnt} {pre : List (Nat × Blk)} {r : Cnt} {post : List (Nat × Blk)} {n : Nat} (hf : P.funcs[f]? = some fn) (hb : fn.body = some body) (hm : (fn.name == "runtime.NumGoroutine") = false) (hn : fn.ntmps = n) (hl : As.length ≤ n)
    (h : AW P n body (fun e S => (e = .ret ∨ e = .normal) ∧ ResM P n fn S r post) (initM As pre)) (hn1 : Nat.ble n 1000 = true := by rfl) : FnM P f As pre r post := by
  refine ⟨⟨fn, hf, hm, by rw [hb]; rfl⟩, ?_⟩
  intro C w vs hw hN hd hlen hargs hpre
  subst hw
  refine calls_of_wp hf hb ?_
  have hsz : (vs.toArray ++ Array.replicate (fn.ntmps - vs.toArray.size) undef).size = n := by simp; omega
  have hR : R C n (initM As pre) { tmps := vs.toArray ++ Array.replicate (fn.ntmps - vs.toArray.size) undef, defers := [] } C.W0 := by
    refine ⟨C.G0, rfl, hsz, Nat.le_of_ble_eq_true hn1, fun _ _ => ⟨rfl, rfl⟩, rfl, rfl, rfl, Nat.le_refl _, fun _ _ _ => rfl, fun b hb => (hN b hb).1, fun b hb => (hN b hb).2, fun b id e => ⟨(hd b id e).1, .inr (hd b id e).2⟩, fun t => ?_, hpre⟩
    show crep _ z0 C.G0 _ _ ((As[t]?).getD .any)
    cases hA : As[t]? with
    | none => trivial
    | some c =>
      have ht : t < As.length := by
        rcases Nat.lt_or_ge t As.length with h | h
        · exact h
        · rw [List.getElem?_eq_none h] at hA; cases hA
      have hv : t < vs.length := by omega
      refine hargs t _ c ?_ hA
      rw [Array.getD_eq_getD_getElem?, Array.getElem?_append_left (by simpa using hv)]
      simp [hv]
  refine wp_mono (h.run _ _ _ hR) ?_
  rintro e a' w' ⟨S', ⟨he, hres⟩, g, hg⟩
  obtain ⟨v, g', h1, h2, h3, h4⟩ := hres _ g a' w' hg
  rcases he with rfl | rfl <;> exact ⟨hg.defers, v, h1, v, g', rfl, h2, h3, h4⟩

/-! ### results -/
def Gh.ex (g : Gh) (τ : List (Nat × Nat)) : Gh := ⟨fun b => (g.ow b).bind (lk1 τ), fun i => match lk2 τ i with | some j => g.ph j | none => g.ph i, fun i => match lk2 τ i with | some j => g.rh j | none => g.rh i⟩
def okX (τ : List (Nat × Nat)) : Bool := ok1 τ && τ.all fun p => !isFix p.2 || Nat.beq p.1 p.2
section
variable {P : Program} {n : Nat} {S T : St} {C : Ctx} {g : Gh} {a : Act} {w : World} {τ : List (Nat × Nat)}
theorem ex_N (b : Nat) (h : (g.ex τ).N C b) : g.N C b := by
  rcases h with h | h
  · exact .inl h
  · refine .inr (fun e => h ?_)
    show (g.ow b).bind (lk1 τ) = none
    rw [e]; rfl
theorem ex_ρ (h : ok1 τ = true) : ∀ i j, lk1 τ i = some j → (g.ex τ).ph j = g.ph i ∧ (g.ex τ).rh j = g.rh i := fun i j e => by
  have := (ok1_inv h).1 e
  unfold Gh.ex
  simp only [this]; exact ⟨trivial, trivial⟩
theorem ex_how : ∀ b i j, g.ow b = some i → lk1 τ i = some j → (g.ex τ).ow b = some j := fun b i j h1 h2 => by
  show (g.ow b).bind (lk1 τ) = some j
  rw [h1]; exact h2
def RVM (P : Program) (n : Nat) (S : St) (τ : List (Nat × Nat)) (rv : ResultVar) (c : Cnt) : Prop := ∀ (C : Ctx) (g : Gh) a w, RG C n S g a w → ∃ v, (rvF a.tmps rv).run P w = .ok v w ∧ crep C z0 (g.ex τ) w v c
inductive AllX (S : St) (τ : List (Nat × Nat)) : List (Nat × Blk) → Prop
  | nil : AllX S τ []
  | cons {i j : Nat} {B : Blk} {l : List (Nat × Blk)} (hj : lk2 τ i = some j) (h : (S.blk j).mp false (lk1 τ) S.ver z0 = B) (k : AllX S τ l) : AllX S τ ((i, B) :: l)
theorem AllX.look {l : List (Nat × Blk)} (h : AllX S τ l) (i : Nat) : lookB i l = .none ∨ ∃ j, lk2 τ i = some j ∧ lookB i l = (S.blk j).mp false (lk1 τ) S.ver z0 := by
  induction h with
  | nil => exact .inl rfl
  | @cons i' j B l hj h k ih =>
    unfold lookB
    cases hb : Nat.beq i i' with
    | true => exact .inr ⟨j, by rw [nbeq_true.1 hb]; exact hj, h.symm⟩
    | false => exact ih
theorem resM_gen {fn : Func} {r : Cnt} {post : List (Nat × Blk)} (τ : List (Nat × Nat)) (hτ : okX τ = true) (hpost : AllX S τ post)
    (hr : ∀ (C : Ctx) (g : Gh) a w, RG C n S g a w → ∃ v, (results fn a.tmps).run P w = .ok v w ∧ crep C z0 (g.ex τ) w v r) : ResM P n fn S r post := by
  intro C g a w hR
  obtain ⟨v, h1, h2⟩ := hr C g a w hR
  unfold okX at hτ
  rw [Bool.and_eq_true, List.all_eq_true] at hτ
  refine ⟨v, g.ex τ, h1, ⟨hR.os, hR.tape, hR.output, hR.size, hR.old, fun b id e => ?_, fun id hf => ?_⟩, h2, fun id => ?_⟩
  · change (g.ow b).bind (lk1 τ) = some id at e
    cases ho : g.ow b with
    | none => rw [ho] at e; cases e
    | some j => exact hR.dom b j ho
  · unfold Gh.ex
    simp only
    cases hl : lk2 τ id with
    | none => exact hR.keep id hf
    | some j =>
      have := hτ.2 _ (lk2_mem hl)
      simp only [hf, Bool.not_true, Bool.false_or] at this
      rw [nbeq_true.1 this]; exact hR.keep id hf
  · rcases hpost.look id with q | ⟨j, hj, q⟩
    · rw [q]; trivial
    · rw [q]
      exact brep_mp (fun b _ h => ex_N b h) (fun h => by cases h) (ex_ρ hτ.1) ex_how (fun b i e => (hR.dom b i e).1) ((ok1_inv hτ.1).2 hj) (hR.blks j)
theorem resM0 {fn : Func} {post : List (Nat × Blk)} (τ : List (Nat × Nat)) (hf : fn.results = #[]) (hτ : okX τ = true) (hpost : AllX S τ post) : ResM P n fn S .any post :=
  resM_gen τ hτ hpost fun C g a w hR => ⟨.tuple #[], by rw [results_eq, hf]; simp, trivial⟩
theorem resM1 {fn : Func} {rv : ResultVar} {c : Cnt} {post : List (Nat × Blk)} (τ : List (Nat × Nat)) (hf : fn.results = #[rv]) (hτ : okX τ = true) (hpost : AllX S τ post) (h : RVM P n S τ rv c) : ResM P n fn S c post :=
  resM_gen τ hτ hpost fun C g a w hR => by
    obtain ⟨v, h1, h2⟩ := h C g a w hR
    exact ⟨v, by rw [results_eq, hf]; simp [h1], h2⟩
theorem resM2 {fn : Func} {rv rv' : ResultVar} {c c' : Cnt} {post : List (Nat × Blk)} (τ : List (Nat × Nat)) (hf : fn.results = #[rv, rv']) (hτ : okX τ = true) (hpost : AllX S τ post) (h : RVM P n S τ rv c) (h' : RVM P n S τ rv' c') : ResM P n fn S (.tup2 c c') post :=
  resM_gen τ hτ hpost fun C g a w hR => by
    obtain ⟨v, h1, h2⟩ := h C g a w hR
    obtain ⟨v', h1', h2'⟩ := h' C g a w hR
    exact ⟨.tuple #[v, v'], by rw [results_eq, hf]; simp [h1, h1'], v, v', rfl, h2, h2'⟩
theorem resM3 {fn : Func} {rv rv' rv'' : ResultVar} {c c' c'' : Cnt} {post : List (Nat × Blk)} (τ : List (Nat × Nat)) (hf : fn.results = #[rv, rv', rv'']) (hτ : okX τ = true) (hpost : AllX S τ post) (h : RVM P n S τ rv c) (h' : RVM P n S τ rv' c') (h'' : RVM P n S τ rv'' c'') : ResM P n fn S (.tup3 c c' c'') post :=
  resM_gen τ hτ hpost fun C g a w hR => by
    obtain ⟨v, h1, h2⟩ := h C g a w hR
    obtain ⟨v', h1', h2'⟩ := h' C g a w hR
    obtain ⟨v'', h1'', h2''⟩ := h'' C g a w hR
    exact ⟨.tuple #[v, v', v''], by rw [results_eq, hf]; simp [h1, h1', h1''], v, v', v'', rfl, h2, h2', h2''⟩
theorem rvm {t : Nat} {c : Cnt} (hτ : ok1 τ = true) (h : (S.get t).mp false (lk1 τ) S.ver z0 = c) : RVM P n S τ (.tmp t) c := fun C g a w hR => by
  refine ⟨_, rfl, ?_⟩
  rw [← h]
  exact crep_mp (fun b _ h => ex_N b h) (fun h => by cases h) (ex_ρ hτ) (hR.slots t)
theorem rvm_int {t : Nat} {k : IntKind} {z z' : Int} (h : S.get t = .per (rawP (.int k z))) (hz : z = z') : RVM P n S τ (.tmp t) (.per (rawP (.int k z'))) := fun C g a w hR => by
  have := hR.slots t
  rw [h] at this
  exact ⟨_, rfl, by rw [← hz]; exact this⟩
theorem rvm_bool {t : Nat} {z z' : Bool} (h : S.get t = .per (rawP (.bool z))) (hz : z = z') : RVM P n S τ (.tmp t) (.per (rawP (.bool z'))) := fun C g a w hR => by
  have := hR.slots t
  rw [h] at this
  exact ⟨_, rfl, by rw [← hz]; exact this⟩
theorem rvm_str {t : Nat} {z z' : ByteArray} (h : S.get t = .per (rawP (.string z))) (hz : z = z') : RVM P n S τ (.tmp t) (.per (rawP (.string z'))) := fun C g a w hR => by
  have := hR.slots t
  rw [h] at this
  exact ⟨_, rfl, by rw [← hz]; exact this⟩
theorem rvm_per {t : Nat} {A A' : PV} (h : S.get t = .per A) (hz : A = A') : RVM P n S τ (.tmp t) (.per A') := fun C g a w hR => by
  have := hR.slots t
  rw [h] at this
  exact ⟨_, rfl, by rw [← hz]; exact A.mono (Nat.le_refl _) (fun _ _ _ => rfl) (fun b _ h => ex_N b h) this⟩
/-- anything of the plain kind -/
theorem rvm_old {rv : ResultVar} {A : PV} (h : ∀ (C : Ctx) (g : Gh) a w, RG C n S g a w → ∃ v, (rvF a.tmps rv).run P w = .ok v w ∧ A.p (g.N C) w v) : RVM P n S τ rv (.per A) := fun C g a w hR => by
  obtain ⟨v, h1, h2⟩ := h C g a w hR
  exact ⟨v, h1, A.mono (Nat.le_refl _) (fun _ _ _ => rfl) (fun b _ h => ex_N b h) h2⟩
end

/-! ### calls -/
def isCallV (o : Oper) (x0 : Operand) (xs : List Operand) : Prop := ∃ tys, o.op = .call { callee := .value x0, args := xs.toArray, argTypes := tys }
/-- where an operation's result goes, if it has one -/
def PlM (n : Nat) (o : Oper) : Prop := o.guard = none ∧ (match o.dst with | none => true | some t => Nat.blt t n) = true
section
variable {P : Program} {n : Nat} {ops : Array Oper} {o : Oper} {F : List Nat} {S T : St} {C : Ctx} {g : Gh} {a : Act} {w w' : World} {t : Nat} {sg : List (Nat × Nat)}
theorem PlM.dOk (h : PlM n o) : dOk n o.dst := fun t e => by
  have := h.2
  rw [e] at this; exact Nat.le_of_ble_eq_true this
theorem Pl.m (h : Pl n o t) : PlM n o := ⟨h.1, by rw [h.2.1]; exact h.2.2⟩
theorem PlM.wanted (h : PlM n o) (a : Act) : Region.wanted o (yielded ops a.tmps) = true := by simp [Region.wanted, h.1]
def Gh.sub (g : Gh) (sg : List (Nat × Nat)) : Gh := ⟨fun b => (g.ow b).bind (lk2 sg), fun i => match lk1 sg i with | some j => g.ph j | none => 0, fun i => match lk1 sg i with | some j => g.rh j | none => undef⟩
def lentB (g : Gh) (sg : List (Nat × Nat)) (b : Nat) : Bool := ((g.ow b).bind (lk2 sg)).isSome
/-- what a callee is told -/
def subC (C : Ctx) (g : Gh) (w : World) (sg : List (Nat × Nat)) : Ctx := ⟨w, fun b => b < w.heap.size ∧ g.N C b ∧ lentB g sg b = false, fun b => lentB g sg b = true, g.sub sg⟩
def HeadOk (F : List Nat) (S : St) (x0 : Operand) (f : FuncId) (cs : List Cnt) : Prop := ∀ (n : Nat) (C : Ctx) (T : St) (g : Gh) (a : Act) (w : World), Agree F T S → RG C n T g a w →
  ∃ caps : List Value, a.eval x0 = .func (.func f) #[] caps.toArray ∧ caps.length = cs.length ∧ ∀ (j : Nat) (v : Value) (c : Cnt), caps[j]? = some v → cs[j]? = some c → crep C T.ver g w v c
theorem sub_N (b : Nat) (h : (g.sub sg).N (subC C g w sg) b) : g.N C b := by
  rcases h with h | h
  · exact h.2.1
  · refine .inr (fun e => h ?_)
    show (g.ow b).bind (lk2 sg) = none
    rw [e]; rfl
theorem sub_M (b : Nat) (h : (g.sub sg).M b) : g.M b := fun e => h (by show (g.ow b).bind (lk2 sg) = none; rw [e]; rfl)
theorem sub_ρ (h : ok1 sg = true) : ∀ i j, lk2 sg i = some j → (g.sub sg).ph j = g.ph i ∧ (g.sub sg).rh j = g.rh i := fun i j e => by
  have := (ok1_inv h).2 e
  unfold Gh.sub
  simp only [this]; exact ⟨trivial, trivial⟩
theorem sub_how : ∀ b i j, g.ow b = some i → lk2 sg i = some j → (g.sub sg).ow b = some j := fun b i j h1 h2 => by
  show (g.ow b).bind (lk2 sg) = some j
  rw [h1]; exact h2
/-- what a slot gives -/
def GivesM (F : List Nat) (S : St) (sg : List (Nat × Nat)) (x : Operand) (c : Cnt) : Prop := ∀ (n : Nat) (C : Ctx) (T : St) (g : Gh) (a : Act) (w : World), Agree F T S → RG C n T g a w →
  crep (subC C g w sg) z0 (g.sub sg) w (a.eval x) c
theorem gm_gen {x : Operand} {c : Cnt} (hok : ok1 sg = true) (hF : ∀ k ∈ opdN x, k ∈ F) (hS : ∀ p ∈ sg, 2 * p.2 + 1 ∈ F) (h : (S.opd x).mp true (lk2 sg) S.ver z0 = c) : GivesM F S sg x c := fun n C T g a w hA hR => by
  rw [← h, mp_congr (old' := T.ver) (new' := z0) (fun i j e => ((hA.2 i (hS _ (lk2_mem e))).2).symm) (fun _ _ _ => rfl)]
  exact crep_mp (fun b _ h => sub_N b h) (fun _ b _ h => sub_M b h) (sub_ρ hok) (opd_rep hA hF hR)
theorem gm_lst {x : Operand} {k : Nat} {es : List (List PV)} (hx : S.opd x = .per (lstP k es)) (hF : ∀ k ∈ opdN x, k ∈ F) : GivesM F S sg x (.bor k es) := fun n C T g a w hA hR => by
  have h := opd_rep (x := x) hA hF hR
  rw [hx] at h
  exact lstAt.mono (Nat.le_refl _) (fun _ _ _ => rfl) (fun _ _ _ => rfl) (fun b _ h => .inr (sub_M b h)) (fun b _ h => sub_N b h) h
theorem row_bor1 {id e k : Nat} {es : List (List PV)} {top N' : BP} (ht : ∀ b, g.ow b = some id → ¬ top b) (hn : ∀ b, b < w.heap.size → N' b → g.N C b) (hR : RG C n T g a w) (h : brep C T.ver g w id (.row e k es)) : lstAt top N' k es w (g.rh id) := by
  rcases h with ⟨h1, rfl⟩ | ⟨cap, cs, h1, h2, h3, h4, h5, h6, h7⟩
  · exact ⟨none, 0, 0, 0, by rw [h1]; rfl, by simp, by decide, fun _ => rfl, by simp, fun i cs hi => by simp at hi⟩
  · have hlt := (hR.dom _ _ h3).1
    refine ⟨_, cap, g.ph id, 0, h1, h4, h5, by simp, fun _ => ⟨rfl, hlt, ht _ h3⟩, fun i ps hi => ?_⟩
    obtain ⟨q1, q2⟩ := h7 i ps hi
    refine ⟨q1, fun j A hj => ?_⟩
    obtain ⟨y, r1, r2, r3⟩ := q2 j A hj
    exact ⟨y, by rw [Nat.zero_add, cell_at h2]; exact r1, r2, A.mono (Nat.le_refl _) (fun _ _ _ => rfl) hn r3⟩
theorem gm_row {x : Operand} {id vr e k : Nat} {es : List (List PV)} (hx : S.opd x = .row id vr) (hv : S.ver id = vr) (hb : S.blk id = .row e k es) (hF : ∀ k ∈ opdN x, k ∈ F) (hF' : 2 * id + 1 ∈ F) (hid : lk2 sg id = none) : GivesM F S sg x (.bor k es) := fun n C T g a w hA hR => by
  obtain ⟨h1, h2⟩ := row_at (x := x) hA hF hF' hR hx hv hb
  rw [h1]
  exact row_bor1 (fun b hb h => h (by show (g.ow b).bind (lk2 sg) = none; rw [hb]; exact hid)) (fun b _ h => sub_N b h) hR h2
theorem gm_nil {x : Operand} {k : Nat} (hx : S.opd x = .per (rawP (.slice none 0 0))) (hF : ∀ k ∈ opdN x, k ∈ F) : GivesM F S sg x (.bor k []) := fun n C T g a w hA hR => by
  have h := raw_opd (x := x) hA hF hR hx
  rw [h]
  exact ⟨none, 0, 0, 0, rfl, by simp, by decide, fun _ => rfl, by simp, fun i cs hi => by simp at hi⟩
theorem gm_nil' {x : Operand} {k : Nat} (hx : S.opd x = .per (rawP (.slice none 0 0))) (hF : ∀ k ∈ opdN x, k ∈ F) : GivesM F S sg x (.per (lstP k [])) := fun n C T g a w hA hR => by
  have h := raw_opd (x := x) hA hF hR hx
  rw [h]
  exact ⟨none, 0, 0, 0, rfl, by simp, by decide, fun _ => rfl, by simp, fun i cs hi => by simp at hi⟩
theorem gm_any {x : Operand} : GivesM F S sg x .any := fun _ _ _ _ _ _ _ _ => trivial
inductive GivesML (F : List Nat) (S : St) (sg : List (Nat × Nat)) : List Operand → List Cnt → Prop
  | nil : GivesML F S sg [] []
  | cons {x : Operand} {c : Cnt} {xs : List Operand} {cs : List Cnt} (h : GivesM F S sg x c) (t : GivesML F S sg xs cs) : GivesML F S sg (x :: xs) (c :: cs)
theorem GivesML.rep {xs : List Operand} {cs : List Cnt} (h : GivesML F S sg xs cs) (hA : Agree F T S) (hR : RG C n T g a w) : (xs.map a.eval).length = cs.length ∧ ∀ (i : Nat) (v : Value) (c : Cnt), (xs.map a.eval)[i]? = some v → cs[i]? = some c → crep (subC C g w sg) z0 (g.sub sg) w v c := by
  induction h with
  | nil => exact ⟨rfl, fun i v c hi => by simp at hi⟩
  | cons h t ih =>
    refine ⟨by simp [ih.1], fun i v c hi hc => ?_⟩
    cases i with
    | zero =>
      simp at hi hc; subst hi; subst hc
      exact h n C T g a w hA hR
    | succ i => exact ih.2 i v c (by simpa using hi) (by simpa using hc)
inductive PreM (S : St) (sg : List (Nat × Nat)) : List (Nat × Blk) → Prop
  | nil : PreM S sg []
  | cons {i j : Nat} {B : Blk} {l : List (Nat × Blk)} (hj : lk1 sg i = some j) (h : (S.blk j).mp true (lk2 sg) S.ver z0 = B) (k : PreM S sg l) : PreM S sg ((i, B) :: l)
theorem PreM.look {l : List (Nat × Blk)} (h : PreM S sg l) (i : Nat) : lookB i l = .none ∨ ∃ j, lk1 sg i = some j ∧ lookB i l = (S.blk j).mp true (lk2 sg) S.ver z0 := by
  induction h with
  | nil => exact .inl rfl
  | @cons i' j B l hj h k ih =>
    unfold lookB
    cases hb : Nat.beq i i' with
    | true => exact .inr ⟨j, by rw [nbeq_true.1 hb]; exact hj, h.symm⟩
    | false => exact ih
theorem callWpV {f : FuncId} {x0 : Operand} {xs : List Operand} {caps : List Value} {K : Act → World → Prop} {R : Value → World → Prop} (hE : Ent P f) (ho : isCallV o x0 xs) (h0 : a.eval x0 = .func (.func f) #[] caps.toArray)
    (h : Calls P f (xs.map a.eval ++ caps).toArray w (fun e w' => ∃ v, e = .returned v ∧ R v w')) (hk : ∀ v w', R v w' → K (a.put o.dst v) w') :
    o.wp P a w K (fun _ _ _ => False) := by
  obtain ⟨fn, h1, h2, h3⟩ := hE
  obtain ⟨tys, ho⟩ := ho
  unfold Oper.wp
  have : (execOp a.eval o).run P w = .ok (.enter f (xs.map a.eval ++ caps).toArray) w := by
    simp only [execOp, ho, resolve, h0, Deferred.ofValue, Sem.run_bind, Sem.run_pure, Result.andThen_ok, invoke, callFunc, List.map_toArray]
    simp only [program, Sem.run, Result.andThen_ok, h1, h2, h3, Bool.false_eq_true, if_false]
    simp
  rw [this, Oper.upon_enter]
  refine Calls.mono h ?_
  rintro e w' ⟨v, rfl, hv⟩
  exact hk v w' hv
/-- the caller's new version of what was lent -/
def nvM (vr : Nat → Nat) (sg : List (Nat × Nat)) (j : Nat) : Nat := match lk2 sg j with
  | some i => bif isFix i then vr j else vr j + 1
  | none => vr j
def okS (sg : List (Nat × Nat)) : Bool := ok1 sg && sg.all fun p => !isFix p.2 || isFix p.1
def updM (S : St) (post : List (Nat × Blk)) (sg : List (Nat × Nat)) : List (Nat × Nat) → Upd
  | [] => []
  | (i, j) :: l => (j, nvM S.ver sg j, (lookB i post).mp false (lk1 sg) z0 (nvM S.ver sg)) :: updM S post sg l
theorem updM_ub {post : List (Nat × Blk)} (l : List (Nat × Nat)) (j : Nat) : ub (updM S post sg l) j = match lk2 l j with
    | some i => some (nvM S.ver sg j, (lookB i post).mp false (lk1 sg) z0 (nvM S.ver sg))
    | none => none := by
  induction l with
  | nil => rfl
  | cons p l ih =>
    obtain ⟨i, j'⟩ := p
    simp only [updM, ub, lk2]
    cases hb : Nat.beq j j' with
    | true => rw [nbeq_true.1 hb]; rfl
    | false => exact ih
theorem op_callM {f : FuncId} {x0 : Operand} {xs : List Operand} {As cs : List Cnt} {pre post : List (Nat × Blk)} {r : Cnt} (sg : List (Nat × Nat)) (hp : PlM n o) (ho : isCallV o x0 xs) (hh : HeadOk F S x0 f cs)
    (hf : FnM P f (As ++ cs.map (Cnt.mp true (lk2 sg) S.ver z0)) pre r post) (hok : okS sg = true) (hS : ∀ p ∈ sg, 2 * p.2 + 1 ∈ F) (hg : GivesML F S sg xs As) (hpre : PreM S sg pre) :
    OpOk n P ops o F (r.mp false (lk1 sg) z0 (nvM S.ver sg)) (updM S post sg sg) S := by
  refine ⟨?_⟩
  intro C T hA a w ⟨g, hR⟩
  unfold Exec
  rw [if_pos (hp.wanted a)]
  unfold okS at hok
  rw [Bool.and_eq_true, List.all_eq_true] at hok
  obtain ⟨hok, hfx⟩ := hok
  obtain ⟨caps, c1, c2, c3⟩ := hh n C T g a w hA hR
  obtain ⟨g1, g2⟩ := hg.rep hA hR
  have hver : ∀ i j, lk1 sg i = some j → S.ver j = T.ver j := fun i j e => ((hA.2 j (hS _ (lk1_mem e))).2).symm
  have hver2 : ∀ i j, lk2 sg j = some i → S.ver j = T.ver j := fun i j e => ((hA.2 j (hS _ (lk2_mem e))).2).symm
  have hlent : ∀ b, lentB g sg b = true → ∃ j i, g.ow b = some j ∧ lk2 sg j = some i := fun b hb => by
    unfold lentB at hb
    cases ho : g.ow b with
    | none => rw [ho] at hb; cases hb
    | some j =>
      rw [ho] at hb
      cases hl : lk2 sg j with
      | none => rw [Option.bind_some, hl] at hb; cases hb
      | some i => exact ⟨j, i, rfl, hl⟩
  have hunl : ∀ b, lentB g sg b = false → ∀ j i, g.ow b = some j → lk2 sg j ≠ some i := fun b hb j i h1 h2 => by
    unfold lentB at hb
    rw [h1, Option.bind_some, h2] at hb; cases hb
  refine callWpV (caps := caps) (R := fun v w' => ∃ g', Frm (subC C g w sg) w w' g' ∧ crep (subC C g w sg) z0 g' w' v r ∧ ∀ id, brep (subC C g w sg) z0 g' w' id (lookB id post)) hf.ent ho c1 ?_ ?_
  · refine Calls.mono (hf.run (subC C g w sg) w (xs.map a.eval ++ caps) rfl (fun b h => ⟨h.1, by have := h.2.2; exact fun e => by rw [show lentB g sg b = true from e] at this; cases this⟩) (fun b id e => ?_) (by simp [g1, c2]) ?_ (fun id => ?_)) ?_
    · have e' : (g.ow b).bind (lk2 sg) = some id := e
      refine ⟨?_, show lentB g sg b = true by unfold lentB; rw [e']; rfl⟩
      cases ho : g.ow b with
      | none => rw [ho] at e'; cases e'
      | some j => exact (hR.dom b j ho).1
    · intro i v c hi hc
      rcases Nat.lt_or_ge i As.length with hlt | hge
      · rw [List.getElem?_append_left (by omega)] at hi
        rw [List.getElem?_append_left hlt] at hc
        exact g2 i v c hi hc
      · rw [List.getElem?_append_right (by omega)] at hi
        rw [List.getElem?_append_right hge, List.getElem?_map] at hc
        rw [g1] at hi
        cases hcc : cs[i - As.length]? with
        | none => rw [hcc] at hc; cases hc
        | some c' =>
          rw [hcc] at hc; cases hc
          rw [mp_congr (old' := T.ver) (new' := z0) (fun i j e => hver2 j i e) (fun _ _ _ => rfl)]
          exact crep_mp (fun b _ h => sub_N b h) (fun _ b _ h => sub_M b h) (sub_ρ hok) (c3 _ v c' hi hcc)
    · rcases hpre.look id with q | ⟨j, hj, q⟩
      · rw [q]; trivial
      · rw [q, Bmp_congr (old' := T.ver) (new' := z0) (fun i j e => hver2 j i e) (fun _ _ _ => rfl)]
        have h3 := hR.blks j
        rw [(hA.2 j (hS _ (lk1_mem hj))).1] at h3
        exact brep_mp (fun b _ h => sub_N b h) (fun _ b _ h => sub_M b h) (sub_ρ hok) sub_how (fun b i e => (hR.dom b i e).1) ((ok1_inv hok).1 hj) h3
    · rintro e w' ⟨v, g', h1, h2⟩
      exact ⟨v, h1, g', h2⟩
  · rintro v w' ⟨gf, hfr, hr, hb⟩
    let g' : Gh := ⟨fun b => if b < w.heap.size ∧ lentB g sg b = false then g.ow b else (gf.ow b).bind (lk1 sg), fun j => match lk2 sg j with | some i => gf.ph i | none => g.ph j, fun j => match lk2 sg j with | some i => gf.rh i | none => g.rh j⟩
    have how' : ∀ b, g'.ow b = if b < w.heap.size ∧ lentB g sg b = false then g.ow b else (gf.ow b).bind (lk1 sg) := fun _ => rfl
    have hρ : ∀ i j, lk1 sg i = some j → g'.ph j = gf.ph i ∧ g'.rh j = gf.rh i := fun i j e => by
      have := (ok1_inv hok).1 e
      refine ⟨?_, ?_⟩
      · show (match lk2 sg j with | some i => gf.ph i | none => g.ph j) = _
        rw [this]
      · show (match lk2 sg j with | some i => gf.rh i | none => g.rh j) = _
        rw [this]
    have hsame : ∀ j, lk2 sg j = none → g'.ph j = g.ph j ∧ g'.rh j = g.rh j := fun j e => by
      refine ⟨?_, ?_⟩
      · show (match lk2 sg j with | some i => gf.ph i | none => g.ph j) = _
        rw [e]
      · show (match lk2 sg j with | some i => gf.rh i | none => g.rh j) = _
        rw [e]
    have hgf : ∀ b i, gf.ow b = some i → ¬ (b < w.heap.size ∧ lentB g sg b = false) := fun b i e h => by
      rcases (hfr.dom b i e).2 with q | q
      · omega
      · rw [show lentB g sg b = true from q] at h; cases h.2
    have hN : ∀ b, b < w'.heap.size → g'.N C b → gf.N (subC C g w sg) b := fun b hbw h => by
      rcases h with h | h
      · have h1 := hR.n0 b h
        have h2 := hR.size
        have hno : g.ow b = none := by
          cases ho : g.ow b with
          | none => rfl
          | some j =>
            rcases (hR.dom b j ho).2 with q | q
            · omega
            · exact absurd q (hR.n0l b h)
        exact .inl ⟨by omega, .inl h, by unfold lentB; rw [hno]; rfl⟩
      · rw [how'] at h
        split at h
        · rename_i hc
          exact .inl ⟨hc.1, .inr h, hc.2⟩
        · refine .inr (fun e => h ?_)
          rw [e]; rfl
    have hst : Stp C (fun i => ub (updM S post sg sg) i ≠ none) T.ver (T.app o.dst (r.mp false (lk1 sg) z0 (nvM S.ver sg)) (updM S post sg sg)).ver g g' w w' := by
      have hub : ∀ j, ub (updM S post sg sg) j ≠ none ↔ ∃ i, lk2 sg j = some i := fun j => by
        rw [updM_ub]
        cases lk2 sg j <;> simp
      have hnot : ∀ b, (∀ i, ub (updM S post sg sg) i ≠ none → g.ow b ≠ some i) → lentB g sg b = false := fun b hn => by
        cases hb : lentB g sg b with
        | false => rfl
        | true =>
          obtain ⟨j, i, h1, h2⟩ := hlent b hb
          exact absurd h1 (hn j ((hub j).2 ⟨i, h2⟩))
      refine ⟨hfr.size, fun b hb' hn => hfr.old b hb' (fun e => by have q := hnot b hn; rw [show lentB g sg b = true from e] at q; cases q), fun b hb' hn => ?_, fun b hb' hn => ?_, fun b id e => ?_, fun j => ?_, fun j hj => ?_, fun j hj => ?_, hfr.os, hfr.tape, hfr.output⟩
      · rw [how', if_pos ⟨hb', hnot b hn⟩]
      · rw [how'] at hn
        split at hn
        · exact hn
        · rename_i hc
          have : lentB g sg b = true := by
            cases h : lentB g sg b with
            | true => rfl
            | false => exact absurd ⟨hb', h⟩ hc
          obtain ⟨j, i, h1, _⟩ := hlent b this
          rw [h1]; simp
      · rw [how'] at e
        split at e
        · exact ⟨Nat.lt_of_lt_of_le (hR.dom b id e).1 hfr.size, (hR.dom b id e).2⟩
        · cases ho : gf.ow b with
          | none => rw [ho] at e; cases e
          | some i =>
            obtain ⟨d1, d2⟩ := hfr.dom b i ho
            refine ⟨d1, ?_⟩
            rcases d2 with q | q
            · exact .inl (Nat.le_trans hR.size q)
            · obtain ⟨j, i', h1, _⟩ := hlent b q
              exact (hR.dom b j h1).2
      · rw [St.app_ver, updM_ub]
        cases hl : lk2 sg j with
        | none => exact .inl rfl
        | some i =>
          simp only [Option.map_some, Option.getD_some, nvM, hl]
          rw [hver2 i j hl]
          cases isFix i with
          | true => exact .inl rfl
          | false => exact .inr ⟨by simp, by simp⟩
      · rw [St.app_ver, updM_ub] at hj
        cases hl : lk2 sg j with
        | none => exact hsame j hl
        | some i =>
          rw [hl] at hj
          simp only [Option.map_some, Option.getD_some, nvM, hl] at hj
          rw [hver2 i j hl] at hj
          cases hx : isFix i with
          | false => rw [hx] at hj; simp at hj
          | true =>
            have k := hfr.keep i hx
            have s := sub_ρ (g := g) hok j i hl
            have q := hρ i j ((ok1_inv hok).2 hl)
            exact ⟨q.1.trans (k.1.trans s.1), q.2.trans (k.2.trans s.2)⟩
      · cases hl : lk2 sg j with
        | none => exact hsame j hl
        | some i =>
          have hx : isFix i = true := by
            have := hfx _ (lk2_mem hl)
            simpa [hj] using this
          have k := hfr.keep i hx
          have s := sub_ρ (g := g) hok j i hl
          have q := hρ i j ((ok1_inv hok).2 hl)
          exact ⟨q.1.trans (k.1.trans s.1), q.2.trans (k.2.trans s.2)⟩
    have hnew : ∀ i j, lk1 sg i = some j → nvM S.ver sg j = (T.app o.dst (r.mp false (lk1 sg) z0 (nvM S.ver sg)) (updM S post sg sg)).ver j := fun i j e => by
      rw [St.app_ver, updM_ub, (ok1_inv hok).1 e]; rfl
    refine ⟨g', hR.appL hp.dOk hst ?_ (fun j v B hu => ?_)⟩
    · have hc := crep_mp (bo := false) (vr := z0) (vr' := (T.app o.dst (r.mp false (lk1 sg) z0 (nvM S.ver sg)) (updM S post sg sg)).ver) hN (fun h => by cases h) hρ hr
      rw [← mp_congr (old := z0) (new := nvM S.ver sg) (fun _ _ _ => rfl) hnew] at hc
      exact hc
    · rw [updM_ub] at hu
      cases hl : lk2 sg j with
      | none => rw [hl] at hu; cases hu
      | some i =>
        rw [hl] at hu; cases hu
        rw [Bmp_congr (old' := z0) (fun _ _ _ => rfl) hnew]
        exact brep_mp (bo := false) hN (fun h => by cases h) hρ (fun b i j h1 h2 => by rw [how', if_neg (hgf b i h1), h1]; exact h2) (fun b i e => (hfr.dom b i e).1) ((ok1_inv hok).2 hl) (hb i)
/-! what is called -/
theorem head_f {f : FuncId} : HeadOk F S (.func f) f [] := fun n C T g a w hA hR => ⟨[], rfl, rfl, fun j v c h => by simp at h⟩
theorem head_raw {x0 : Operand} {f : FuncId} (hx : S.opd x0 = .per (rawP (.func (.func f) #[] #[]))) (hF : ∀ k ∈ opdN x0, k ∈ F) : HeadOk F S x0 f [] := fun n C T g a w hA hR =>
  ⟨[], raw_opd hA hF hR hx, rfl, fun j v c h => by simp at h⟩
theorem head_clo1 {x0 : Operand} {f : FuncId} {c : Cnt} (hx : S.opd x0 = .clo1 f c) (hF : ∀ k ∈ opdN x0, k ∈ F) : HeadOk F S x0 f [c] := fun n C T g a w hA hR => by
  have h := opd_rep (x := x0) hA hF hR
  rw [hx] at h
  obtain ⟨x, e, h1⟩ := h
  refine ⟨[x], by rw [e], rfl, fun j v c' h h' => ?_⟩
  cases j with
  | zero => simp at h h'; subst h; subst h'; exact h1
  | succ j => simp at h
theorem head_clo2 {x0 : Operand} {f : FuncId} {c d : Cnt} (hx : S.opd x0 = .clo2 f c d) (hF : ∀ k ∈ opdN x0, k ∈ F) : HeadOk F S x0 f [c, d] := fun n C T g a w hA hR => by
  have h := opd_rep (x := x0) hA hF hR
  rw [hx] at h
  obtain ⟨x, y, e, h1, h2⟩ := h
  refine ⟨[x, y], by rw [e], rfl, fun j v c' h h' => ?_⟩
  match j with
  | 0 => simp at h h'; subst h; subst h'; exact h1
  | 1 => simp at h h'; subst h; subst h'; exact h2
  | j + 2 => simp at h
theorem head_clo3 {x0 : Operand} {f : FuncId} {c d e : Cnt} (hx : S.opd x0 = .clo3 f c d e) (hF : ∀ k ∈ opdN x0, k ∈ F) : HeadOk F S x0 f [c, d, e] := fun n C T g a w hA hR => by
  have h := opd_rep (x := x0) hA hF hR
  rw [hx] at h
  obtain ⟨x, y, z, e, h1, h2, h3⟩ := h
  refine ⟨[x, y, z], by rw [e], rfl, fun j v c' h h' => ?_⟩
  match j with
  | 0 => simp at h h'; subst h; subst h'; exact h1
  | 1 => simp at h h'; subst h; subst h'; exact h2
  | 2 => simp at h h'; subst h; subst h'; exact h3
  | j + 3 => simp at h
end
end Go.Proofs.Ytnpognmpgddncaa
