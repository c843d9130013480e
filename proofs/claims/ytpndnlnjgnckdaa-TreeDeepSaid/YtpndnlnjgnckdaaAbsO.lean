/- Things with all that they own: unfolded, folded, lent to those that only read. No program in sight. -/
import Derived.Test.YtpndnlnjgnckdaaAbsX
namespace Go.Proofs.Ytpndnlnjgnckdaa
open Go.RowKit
/-! ### owned things -/
def perO (A : PV) (h : OneP A) : OV := ⟨fun _ N w v => A.p N w v, fun _ _ hs _ hN hN' hp => A.mono hs hN hN' hp, fun hp => h _ _ _ hp⟩
/-- the address of a struct that is owned, with what its cells own -/
def recO (e : Nat) (cs : List OV) : OV where
  p F N w v := ∃ (b : Nat) (vs : Array Value) (Fs : Nat → BP), v = .pointer (some ⟨b, 0, none⟩) ∧ F b ∧ w.heap[b]? = some (.cells vs e (0, 0)) ∧ vs.size = cs.length ∧ (∀ j x, Fs j x → F x ∧ x ≠ b) ∧ (∀ i j x, i ≠ j → Fs i x → ¬ Fs j x) ∧
    ∀ (j : Nat) (A : OV), cs[j]? = some A → ∃ y, vs[j]? = some y ∧ A.p (Fs j) N w y
  mono := by
    rintro F F' N N' w w' v h1 h2 h3 h4 h5 h6 ⟨b, vs, Fs, rfl, hb, hh, hs, hF, hD, hc⟩
    refine ⟨b, vs, Fs, rfl, h1 b hb, by rw [h4 b (h2 b hb) hb]; exact hh, hs, fun j x hx => ⟨h1 x (hF j x hx).1, (hF j x hx).2⟩, hD, fun j A hj => ?_⟩
    obtain ⟨y, q1, q2⟩ := hc j A hj
    exact ⟨y, q1, A.mono (fun _ h => h) (fun x hx => h2 x (hF j x hx).1) h3 (fun x hx hf => h4 x hx (hF j x hf).1) h5 h6 q2⟩
  one := by
    rintro F N w v ⟨b, vs, Fs, rfl, _⟩
    exact ⟨rfl, rfl⟩
/-- what is owned, as one who only reads sees it -/
def Lends (O : OV) (A : PV) : Prop := ∀ {F N N' : BP} {w : World} {v : Value}, O.p F N w v → (∀ b, F b → b < w.heap.size ∧ ¬ N' b) → (∀ b, N' b → N b) → A.p N' w v
theorem lends_per {A : PV} {h : OneP A} : Lends (perO A h) A := fun hp _ hN => A.mono (Nat.le_refl _) (fun _ _ _ => rfl) (fun b _ hb => hN b hb) hp
theorem lends_rec {e : Nat} {cs : List OV} {As : List PV} (hl : As.length = cs.length) (h : ∀ (j : Nat) (O : OV) (A : PV), cs[j]? = some O → As[j]? = some A → Lends O A) : Lends (recO e cs) (rptrP As) := by
  rintro F N N' w v ⟨b, vs, Fs, rfl, hb, hh, hs, hF, hD, hc⟩ hF' hN
  refine ⟨b, 0, rfl, (hF' b hb).1, (hF' b hb).2, fun j A hj => ?_⟩
  have hlt : j < cs.length := by
    rw [← hl]
    rcases Nat.lt_or_ge j As.length with q | q
    · exact q
    · rw [List.getElem?_eq_none q] at hj; cases hj
  obtain ⟨y, q1, q2⟩ := hc j cs[j] (List.getElem?_eq_getElem hlt)
  refine ⟨y, by rw [Nat.zero_add, cell_at hh]; exact q1, (cs[j].one q2).1, h j _ A (List.getElem?_eq_getElem hlt) hj q2 (fun x hx => hF' x (hF j x hx).1) hN⟩
inductive LendsL : List OV → List PV → Prop
  | nil : LendsL [] []
  | cons {O : OV} {A : PV} {l : List OV} {l' : List PV} (h : Lends O A) (k : LendsL l l') : LendsL (O :: l) (A :: l')
theorem LendsL.get {l : List OV} {l' : List PV} (h : LendsL l l') : l'.length = l.length ∧ ∀ (j : Nat) (O : OV) (A : PV), l[j]? = some O → l'[j]? = some A → Lends O A := by
  induction h with
  | nil => exact ⟨rfl, fun j O A h => by simp at h⟩
  | cons h k ih =>
    refine ⟨by simp [ih.1], fun j O' A' h1 h2 => ?_⟩
    cases j with
    | zero => simp at h1 h2; subst h1; subst h2; exact h
    | succ j => exact ih.2 j O' A' (by simpa using h1) (by simpa using h2)
theorem lends_recL {e : Nat} {cs : List OV} {As : List PV} (h : LendsL cs As) : Lends (recO e cs) (rptrP As) := lends_rec h.get.1 h.get.2

/-! ### cells of what is unfolded -/
inductive UC where
  | p (A : PV) (h : OneP A)
  | o (id : Nat) (O : OV)
def UC.ov : UC → OV
  | .p A h => perO A h
  | .o _ O => O
def UC.cell (vr : Nat → Nat) : UC → Cnt
  | .p A _ => .per A
  | .o id _ => .row id (vr id)
/-- which thing lies at an id -/
def lkO : List UC → Nat → Option OV
  | [], _ => none
  | .p _ _ :: l, i => lkO l i
  | .o id O :: l, i => bif Nat.beq i id then some O else lkO l i
def idsO : List UC → List Nat
  | [] => []
  | .p _ _ :: l => idsO l
  | .o id _ :: l => id :: idsO l
def memN (i : Nat) : List Nat → Bool
  | [] => false
  | j :: l => bif Nat.beq i j then true else memN i l
/-- ids that are unlike one another -/
def dsj : List Nat → Bool
  | [] => true
  | i :: l => (!memN i l) && dsj l
def noneB : Blk → Bool
  | .none => true
  | _ => false
theorem noneB_t {B : Blk} (h : noneB B = true) : B = .none := by cases B <;> first | rfl | cases h
theorem memN_iff {i : Nat} {l : List Nat} : memN i l = true ↔ i ∈ l := by
  induction l with
  | nil => simp [memN]
  | cons j l ih =>
    unfold memN
    cases hb : Nat.beq i j with
    | true => simp [nbeq_true.1 hb]
    | false =>
      have : i ≠ j := fun e => by rw [nbeq_true.2 e] at hb; cases hb
      simp [ih, this]
theorem mem_idsO {us : List UC} {i : Nat} : i ∈ idsO us ↔ ∃ O, lkO us i = some O := by
  induction us with
  | nil => simp [idsO, lkO]
  | cons u us ih =>
    cases u with
    | p A h => simpa [idsO, lkO] using ih
    | o id O =>
      simp only [idsO, lkO, List.mem_cons]
      cases hb : Nat.beq i id with
      | true => simp [nbeq_true.1 hb]
      | false =>
        have : i ≠ id := fun e => by rw [nbeq_true.2 e] at hb; cases hb
        simp [ih, this]
theorem get_idsO {us : List UC} {j id : Nat} {O : OV} (h : us[j]? = some (.o id O)) : id ∈ idsO us := by
  induction us generalizing j with
  | nil => simp at h
  | cons u us ih =>
    cases j with
    | zero => simp at h; subst h; simp [idsO]
    | succ j =>
      have := ih (by simpa using h)
      cases u <;> simp [idsO, this]
theorem dsj_inj {us : List UC} (hd : dsj (idsO us) = true) {j j' id : Nat} {O O' : OV} (h : us[j]? = some (.o id O)) (h' : us[j']? = some (.o id O')) : j = j' := by
  induction us generalizing j j' with
  | nil => simp at h
  | cons u us ih =>
    have hd' : dsj (idsO us) = true := by
      cases u with
      | p A h => exact hd
      | o i O => simp only [idsO, dsj, Bool.and_eq_true] at hd; exact hd.2
    cases j with
    | zero =>
      cases j' with
      | zero => rfl
      | succ j' =>
        simp at h; subst h
        have := get_idsO (us := us) (by simpa using h')
        simp only [idsO, dsj, Bool.and_eq_true, Bool.not_eq_true'] at hd
        rw [← memN_iff] at this
        rw [this] at hd; cases hd.1
    | succ j =>
      cases j' with
      | zero =>
        simp at h'; subst h'
        have := get_idsO (us := us) (by simpa using h)
        simp only [idsO, dsj, Bool.and_eq_true, Bool.not_eq_true'] at hd
        rw [← memN_iff] at this
        rw [this] at hd; cases hd.1
      | succ j' =>
        have := ih (j := j) (j' := j') hd' (by simpa using h) (by simpa using h')
        rw [this]
theorem lkO_get {us : List UC} (hd : dsj (idsO us) = true) {j id : Nat} {O : OV} (h : us[j]? = some (.o id O)) : lkO us id = some O := by
  induction us generalizing j with
  | nil => simp at h
  | cons u us ih =>
    have hd' : dsj (idsO us) = true := by
      cases u with
      | p A h => exact hd
      | o i O => simp only [idsO, dsj, Bool.and_eq_true] at hd; exact hd.2
    cases j with
    | zero => simp at h; subst h; simp [lkO]
    | succ j =>
      have h0 := ih hd' (by simpa using h)
      cases u with
      | p A h => exact h0
      | o i O' =>
        have hne : id ≠ i := fun e => by
          subst e
          have := get_idsO (us := us) (by simpa using h)
          simp only [idsO, dsj, Bool.and_eq_true, Bool.not_eq_true'] at hd
          rw [← memN_iff] at this
          rw [this] at hd; cases hd.1
        simp only [lkO, nbeq_false hne, cond_false]
        exact h0
theorem get_lkO {us : List UC} {id : Nat} {O : OV} (h : lkO us id = some O) : ∃ j : Nat, us[j]? = some (UC.o id O) := by
  induction us with
  | nil => simp [lkO] at h
  | cons u us ih =>
    cases u with
    | p A h' => obtain ⟨j, hj⟩ := ih h; exact ⟨j + 1, by simpa using hj⟩
    | o i O' =>
      unfold lkO at h
      cases hb : Nat.beq id i with
      | true => rw [hb] at h; cases h; exact ⟨0, by rw [nbeq_true.1 hb]; rfl⟩
      | false => rw [hb] at h; obtain ⟨j, hj⟩ := ih h; exact ⟨j + 1, by simpa using hj⟩

section
variable {P : Program} {n : Nat} {S : St} {C : Ctx} {g g' : Gh} {w w' : World} {I : Nat → Prop}
theorem crep_fzI {id : Nat} {vr vr' : Nat → Nat} {A : Cnt} {B : Nat → Cnt} (hst : Stp C I vr vr' g g' w w) (hA : ∀ v, v = g.rh id → crep C vr' g' w v A) (hB : ∀ off v, v = .pointer (some ⟨g.ph id, off, none⟩) → crep C vr' g' w v (B off)) :
    ∀ {c : Cnt} {v : Value}, crep C vr g w v c → crep C vr' g' w v (Cnt.fz id (vr id) A B c) := by
  have key : ∀ {i r : Nat} {c c' : Cnt} {v : Value}, (i = id → r = vr id → crep C vr' g' w v c) → crep C vr' g' w v c' → crep C vr' g' w v (bif Nat.beq i id && Nat.beq r (vr id) then c else c') := by
    intro i r c c' v h1 h2
    cases hb : Nat.beq i id with
    | false => exact h2
    | true =>
      cases hr : Nat.beq r (vr id) with
      | false => exact h2
      | true => exact h1 (nbeq_true.1 hb) (nbeq_true.1 hr)
  intro c
  induction c with
  | row i r => intro v h; exact key (fun e1 e2 => hA v (by rw [← e1]; exact h.2 (by rw [e1]; exact e2))) (hst.crep h)
  | ptr i r off => intro v h; exact key (fun e1 e2 => hB off v (by rw [← e1]; exact h.2 (by rw [e1]; exact e2))) (hst.crep h)
  | ept i r k q j => intro v h; exact key (fun _ _ => trivial) (hst.crep h)
  | per A' => intro v h; exact hst.crep (c := .per A') h
  | bor k es => intro v h; exact hst.crep (c := .bor k es) h
  | bpt cs => intro v h; exact hst.crep (c := .bpt cs) h
  | any => intro v _; trivial
  | grd b c ih => intro v _; trivial
  | tup2 c d ih1 ih2 => rintro v ⟨x, y, e, h1, h2⟩; exact ⟨x, y, e, ih1 h1, ih2 h2⟩
  | tup3 c d e ih1 ih2 ih3 => rintro v ⟨x, y, z, e, h1, h2, h3⟩; exact ⟨x, y, z, e, ih1 h1, ih2 h2, ih3 h3⟩
  | clo1 f c ih => rintro v ⟨x, e, h1⟩; exact ⟨x, e, ih h1⟩
  | clo2 f c d ih1 ih2 => rintro v ⟨x, y, e, h1, h2⟩; exact ⟨x, y, e, ih1 h1, ih2 h2⟩
  | clo3 f c d e ih1 ih2 ih3 => rintro v ⟨x, y, z, e, h1, h2, h3⟩; exact ⟨x, y, z, e, ih1 h1, ih2 h2, ih3 h3⟩
  | aggN => exact fun h => h
  | aggK c r ih1 ih2 => rintro v ⟨x, vs, e, o, h1, h2⟩; exact ⟨x, vs, e, o, ih1 h1, ih2 h2⟩
theorem brep_fzI {id i : Nat} (hi : ¬ I i) {vr vr' : Nat → Nat} {A : Cnt} {B : Nat → Cnt} (hst : Stp C I vr vr' g g' w w) (hdom : ∀ b id, g.ow b = some id → b < w.heap.size)
    (hA : ∀ v, v = g.rh id → crep C vr' g' w v A) (hB : ∀ off v, v = .pointer (some ⟨g.ph id, off, none⟩) → crep C vr' g' w v (B off)) {Bk : Blk} (h : brep C vr g w i Bk) : brep C vr' g' w i (Bk.fz id (vr id) A B) := by
  have hv : vr' i = vr i := by
    rcases hst.ver i with e | ⟨e, _⟩
    · exact e
    · exact absurd e hi
  obtain ⟨hph, hrh⟩ := hst.gh i hv
  have hne : ∀ {b : Nat}, g.ow b = some i → ∀ j, I j → g.ow b ≠ some j := fun e j hj e' => by
    rw [e] at e'; cases e'; exact hi hj
  cases Bk with
  | none => trivial
  | row e k es => exact hst.brep (B := .row e k es) hdom hi h
  | obj A' => exact hst.brep (B := .obj A') hdom hi h
  | box e cells =>
    obtain ⟨cs, h1, h2, h3, h4⟩ := h
    have hb := hdom _ _ h2
    refine ⟨cs, by rw [hph]; exact h1, by rw [hph, hst.ow _ hb (hne h2)]; exact h2, by simp [h3], fun j c hj => ?_⟩
    rw [List.getElem?_map] at hj
    cases hc : cells[j]? with
    | none => rw [hc] at hj; cases hj
    | some c' =>
      rw [hc] at hj; cases hj
      obtain ⟨y, q1, q2, q3⟩ := h4 j c' hc
      exact ⟨y, q1, q2, crep_fzI hst hA hB q3⟩
  | mix e es c =>
    obtain ⟨cap, cs, h1, h2, h3, h4, h5, h6, h7, y, q1, q2, q3⟩ := h
    have hb := hdom _ _ h3
    refine ⟨cap, cs, by rw [hrh, hph]; exact h1, by rw [hph]; exact h2, by rw [hph, hst.ow _ hb (hne h3)]; exact h3, h4, h5, h6, fun j A' hj => ?_, y, q1, q2, crep_fzI hst hA hB q3⟩
    obtain ⟨y', r1, r2, r3⟩ := h7 j A' hj
    exact ⟨y', r1, r2, A'.mono (Nat.le_refl _) (fun _ _ _ => rfl) hst.n r3⟩

/-! ### unfolded -/
def vrU (S : St) (id : Nat) (us : List UC) (i : Nat) : Nat := bif (Nat.beq i id || memN i (idsO us)) then S.ver i + 1 else S.ver i
def St.unf (S : St) (id e : Nat) (us : List UC) : St :=
  ⟨fun t => Cnt.fz id (S.ver id) (.ptr id (S.ver id + 1) 0) (fun _ => .any) (S.get t),
   fun i => bif Nat.beq i id then .box e (us.map (UC.cell (vrU S id us))) else match lkO us i with
    | some O => .obj O
    | none => (S.blk i).fz id (S.ver id) (.ptr id (S.ver id + 1) 0) (fun _ => .any),
   vrU S id us⟩
/-- ids that are free for what is unfolded -/
def freeU (S : St) (id : Nat) (us : List UC) : Bool := (!isFix id) && dsj (idsO us) && (!memN id (idsO us)) && (idsO us).all fun i => (!isFix i) && noneB (S.blk i)
open Classical in
noncomputable def owU (us : List UC) (Fs : Nat → BP) (id x : Nat) : Nat := if h : ∃ i, ∃ (j : Nat) (O : OV), us[j]? = some (.o i O) ∧ Fs j x then Classical.choose h else id
open Classical in
noncomputable def rhU (us : List UC) (vs : Array Value) (g : Gh) (i : Nat) : Value := if h : ∃ (j : Nat), ∃ O : OV, us[j]? = some (.o i O) then vs.getD (Classical.choose h) undef else g.rh i
theorem owU_at {us : List UC} {Fs : Nat → BP} {id x i j : Nat} {O : OV} (hD : ∀ i j x, i ≠ j → Fs i x → ¬ Fs j x) (h : us[j]? = some (.o i O)) (hx : Fs j x) : owU us Fs id x = i := by
  unfold owU
  have hex : ∃ i, ∃ (j : Nat) (O : OV), us[j]? = some (.o i O) ∧ Fs j x := ⟨i, j, O, h, hx⟩
  rw [dif_pos hex]
  obtain ⟨j', O', h1, h2⟩ := Classical.choose_spec hex
  have : j' = j := Classical.byContradiction fun hn => hD j' j x hn h2 hx
  subst this
  rw [h] at h1; injection h1 with h1; injection h1 with h1 _; exact h1.symm
theorem owU_no {us : List UC} {Fs : Nat → BP} {id x : Nat} (h : ∀ j, ¬ Fs j x) : owU us Fs id x = id := by
  unfold owU
  rw [dif_neg]
  rintro ⟨_, j, _, _, q⟩
  exact h j q
theorem owU_in {us : List UC} {Fs : Nat → BP} {id x : Nat} : owU us Fs id x = id ∨ owU us Fs id x ∈ idsO us := by
  unfold owU
  split
  · rename_i hex
    obtain ⟨j, O, h1, _⟩ := Classical.choose_spec hex
    exact .inr (get_idsO h1)
  · exact .inl rfl
theorem rhU_at {us : List UC} {vs : Array Value} {i j : Nat} {O : OV} (hd : dsj (idsO us) = true) (h : us[j]? = some (.o i O)) : rhU us vs g i = vs.getD j undef := by
  unfold rhU
  have hex : ∃ (j : Nat), ∃ O : OV, us[j]? = some (.o i O) := ⟨j, O, h⟩
  rw [dif_pos hex]
  obtain ⟨O', h1⟩ := Classical.choose_spec hex
  rw [dsj_inj hd h1 h]
theorem rhU_no {us : List UC} {vs : Array Value} {i : Nat} (h : i ∉ idsO us) : rhU us vs g i = g.rh i := by
  unfold rhU
  rw [dif_neg]
  rintro ⟨j, O, h1⟩
  exact h (get_idsO h1)
theorem Le_unf (id vr e : Nat) (us : List UC) (hv : S.ver id = vr) (hb : S.blk id = .obj (recO e (us.map UC.ov))) (hf : freeU S id us = true) : Le n S (S.unf id e us) := by
  rintro C a w ⟨g, hR⟩
  unfold freeU at hf
  simp only [Bool.and_eq_true, Bool.not_eq_true', List.all_eq_true] at hf
  obtain ⟨⟨⟨hfx, hds⟩, hid⟩, hfr⟩ := hf
  have hid : id ∉ idsO us := fun h => by rw [memN_iff.2 h] at hid; cases hid
  have hB := hR.blks id
  rw [hb] at hB
  obtain ⟨b, vs, Fs, hrv, hFb, hh, hs, hF, hD, hc⟩ := hB
  have hF' : ∀ j x, Fs j x → g.ow x = some id ∧ x ≠ b := hF
  have hFb' : g.ow b = some id := hFb
  let g' : Gh := ⟨fun x => if g.ow x = some id then some (owU us Fs id x) else g.ow x, fun i => if i = id then b else g.ph i, rhU us vs g⟩
  have how : ∀ x, g'.ow x = if g.ow x = some id then some (owU us Fs id x) else g.ow x := fun _ => rfl
  have hvr : ∀ i, (S.unf id e us).ver i = vrU S id us i := fun _ => rfl
  have hvrn : ∀ i, i ≠ id → i ∉ idsO us → vrU S id us i = S.ver i := fun i h1 h2 => by
    unfold vrU
    rw [nbeq_false h1]
    cases hm : memN i (idsO us) with
    | false => rfl
    | true => exact absurd (memN_iff.1 hm) h2
  have hvri : ∀ i, (i = id ∨ i ∈ idsO us) → vrU S id us i = S.ver i + 1 := fun i h => by
    unfold vrU
    rcases h with h | h
    · rw [h, Nat.beq_refl]; rfl
    · rw [memN_iff.2 h, Bool.or_true]; rfl
  have hfxI : ∀ i, isFix i = true → i ≠ id ∧ i ∉ idsO us := fun i hi => ⟨fun e => (by rw [e, hfx] at hi; cases hi), fun h => (by have := hfr i h; rw [hi] at this; simp at this)⟩
  have hst : Stp C (fun i => i = id ∨ i ∈ idsO us) S.ver (S.unf id e us).ver g g' w w := by
    refine ⟨Nat.le_refl _, fun _ _ _ => rfl, fun x _ hn => ?_, fun x _ hn => ?_, fun x i e' => ?_, fun i => ?_, fun i hi => ?_, fun i hi => ?_, rfl, rfl, rfl⟩
    · rw [how, if_neg (hn id (.inl rfl))]
    · rw [how] at hn
      split at hn
      · rename_i h; rw [h]; simp
      · exact hn
    · rw [how] at e'
      split at e'
      · rename_i h; exact hR.dom x id h
      · exact hR.dom x i e'
    · rw [hvr]
      by_cases h : i = id ∨ i ∈ idsO us
      · exact .inr ⟨h, by rw [hvri i h]; omega⟩
      · exact .inl (hvrn i (fun q => h (.inl q)) (fun q => h (.inr q)))
    · rw [hvr] at hi
      have h : ¬ (i = id ∨ i ∈ idsO us) := fun q => by rw [hvri i q] at hi; omega
      exact ⟨if_neg (fun q => h (.inl q)), rhU_no (fun q => h (.inr q))⟩
    · obtain ⟨h1, h2⟩ := hfxI i hi
      exact ⟨if_neg h1, rhU_no h2⟩
  have hph : g'.ph id = b := if_pos rfl
  have hA : ∀ v, v = g.rh id → crep C (S.unf id e us).ver g' w v (.ptr id (S.ver id + 1) 0) := fun v hv => ⟨by rw [hvr, hvri id (.inl rfl)]; exact Nat.le_refl _, fun _ => by rw [hv, hrv, hph]⟩
  refine ⟨g', hR.defers, hR.tsz, hR.nle, fun i hi => ?_, hR.os, hR.tape, hR.output, hR.size, hR.old, hR.n0, hR.n0l, hst.dom, fun t => crep_fzI (B := fun _ => .any) hst hA (fun _ _ _ => trivial) (hR.slots t), fun i => ?_⟩
  · obtain ⟨h1, h2⟩ := hst.fix i hi
    exact ⟨h1.trans (hR.keep i hi).1, h2.trans (hR.keep i hi).2⟩
  · show brep C _ g' w i (bif Nat.beq i id then _ else _)
    cases hbi : Nat.beq i id with
    | true =>
      obtain rfl := nbeq_true.1 hbi
      refine ⟨vs, by rw [hph]; exact hh, by rw [hph, how, if_pos hFb', owU_no (fun j hj => (hF' j b hj).2 rfl)], by rw [hs]; simp, fun j c hj => ?_⟩
      rw [List.getElem?_map] at hj
      cases hu : us[j]? with
      | none => rw [hu] at hj; cases hj
      | some u =>
        rw [hu] at hj; cases hj
        obtain ⟨y, q1, q2⟩ := hc j u.ov (by rw [List.getElem?_map, hu]; rfl)
        refine ⟨y, q1, (u.ov.one q2).1, ?_⟩
        cases u with
        | p A h => exact A.mono (Nat.le_refl _) (fun _ _ _ => rfl) hst.n q2
        | o i' O =>
          refine ⟨Nat.le_refl _, fun _ => ?_⟩
          show y = rhU us vs g i'
          rw [rhU_at hds hu, Array.getD_eq_getD_getElem?, q1]; rfl
    | false =>
      have hne : i ≠ id := fun e' => by rw [nbeq_true.2 e'] at hbi; cases hbi
      cases hl : lkO us i with
      | some O =>
        obtain ⟨j, hj⟩ := get_lkO hl
        obtain ⟨y, q1, q2⟩ := hc j O (by rw [List.getElem?_map, hj]; rfl)
        show O.p (fun x => g'.ow x = some i) (g'.N C) w (rhU us vs g i)
        rw [rhU_at hds hj, Array.getD_eq_getD_getElem?, q1]
        exact O.mono (F := Fs j) (fun x hx => by rw [how, if_pos (hF' j x hx).1, owU_at hD hj hx]) (fun x hx => (hR.dom x id (hF' j x hx).1).1) (Nat.le_refl _) (fun _ _ _ => rfl) (fun _ _ _ => rfl) hst.n q2
      | none =>
        have hni : i ∉ idsO us := fun h => by obtain ⟨O, hO⟩ := mem_idsO.1 h; rw [hl] at hO; cases hO
        exact brep_fzI (B := fun _ => .any) (fun h => h.elim hne hni) hst (fun b id e => (hR.dom b id e).1) hA (fun _ _ _ => trivial) (hR.blks i)

/-! ### folded -/
def St.fold (S : St) (id e : Nat) (us : List UC) : St :=
  ⟨fun t => Cnt.fz id (S.ver id) .any (fun off => bif Nat.beq off 0 then .row id (S.ver id + 1) else .any) (S.get t),
   fun i => bif Nat.beq i id then .obj (recO e (us.map UC.ov)) else bif memN i (idsO us) then .none else (S.blk i).fz id (S.ver id) .any (fun off => bif Nat.beq off 0 then .row id (S.ver id + 1) else .any),
   vrU S id us⟩
/-- what is to be folded lies ready -/
inductive ReadyU (S : St) : List UC → Prop
  | nil : ReadyU S []
  | p {A : PV} {h : OneP A} {l : List UC} (k : ReadyU S l) : ReadyU S (.p A h :: l)
  | o {i : Nat} {O : OV} {l : List UC} (h : S.blk i = .obj O) (k : ReadyU S l) : ReadyU S (.o i O :: l)
theorem ReadyU.get {us : List UC} (h : ReadyU S us) {j i : Nat} {O : OV} (hj : us[j]? = some (.o i O)) : S.blk i = .obj O := by
  induction h generalizing j with
  | nil => simp at hj
  | p k ih => cases j with
    | zero => simp at hj
    | succ j => exact ih (by simpa using hj)
  | o h k ih => cases j with
    | zero => simp at hj; obtain ⟨rfl, rfl⟩ := hj; exact h
    | succ j => exact ih (by simpa using hj)
def freeF (id : Nat) (us : List UC) : Bool := (!isFix id) && dsj (idsO us) && (!memN id (idsO us))
theorem Le_fold (id vr e : Nat) (us : List UC) (hv : S.ver id = vr) (hb : S.blk id = .box e (us.map (UC.cell S.ver))) (hr : ReadyU S us) (hf : freeF id us = true) : Le n S (S.fold id e us) := by
  rintro C a w ⟨g, hR⟩
  unfold freeF at hf
  simp only [Bool.and_eq_true, Bool.not_eq_true'] at hf
  obtain ⟨⟨hfx, hds⟩, hid⟩ := hf
  have hid : id ∉ idsO us := fun h => by rw [memN_iff.2 h] at hid; cases hid
  have hB := hR.blks id
  rw [hb] at hB
  obtain ⟨cs, hh, hob, hs, hc⟩ := hB
  let g' : Gh := ⟨fun x => match g.ow x with
    | some i => if memN i (idsO us) then some id else some i
    | none => none, g.ph, fun i => if i = id then .pointer (some ⟨g.ph id, 0, none⟩) else g.rh i⟩
  have how : ∀ x i, g.ow x = some i → g'.ow x = if memN i (idsO us) then some id else some i := fun x i h => by
    show (match g.ow x with | some i => if memN i (idsO us) then some id else some i | none => none) = _
    rw [h]
  have hown : ∀ x, g.ow x = none → g'.ow x = none := fun x h => by
    show (match g.ow x with | some i => if memN i (idsO us) then some id else some i | none => none) = _
    rw [h]
  have hvr : ∀ i, (S.fold id e us).ver i = vrU S id us i := fun _ => rfl
  have hvrn : ∀ i, i ≠ id → i ∉ idsO us → vrU S id us i = S.ver i := fun i h1 h2 => by
    unfold vrU
    rw [nbeq_false h1]
    cases hm : memN i (idsO us) with
    | false => rfl
    | true => exact absurd (memN_iff.1 hm) h2
  have hvri : ∀ i, (i = id ∨ i ∈ idsO us) → vrU S id us i = S.ver i + 1 := fun i h => by
    unfold vrU
    rcases h with h | h
    · rw [h, Nat.beq_refl]; rfl
    · rw [memN_iff.2 h, Bool.or_true]; rfl
  have hst : Stp C (fun i => i = id ∨ i ∈ idsO us) S.ver (S.fold id e us).ver g g' w w := by
    refine ⟨Nat.le_refl _, fun _ _ _ => rfl, fun x _ hn => ?_, fun x _ hn => ?_, fun x i e' => ?_, fun i => ?_, fun i hi => ?_, fun i hi => ?_, rfl, rfl, rfl⟩
    · cases ho : g.ow x with
      | none => exact hown x ho
      | some i =>
        rw [how x i ho, if_neg]
        intro hm
        exact hn i (.inr (memN_iff.1 hm)) ho
    · intro ho; exact hn (hown x ho)
    · cases ho : g.ow x with
      | none => rw [hown x ho] at e'; cases e'
      | some i' => exact hR.dom x i' ho
    · rw [hvr]
      by_cases h : i = id ∨ i ∈ idsO us
      · exact .inr ⟨h, by rw [hvri i h]; omega⟩
      · exact .inl (hvrn i (fun q => h (.inl q)) (fun q => h (.inr q)))
    · rw [hvr] at hi
      have h : ¬ (i = id ∨ i ∈ idsO us) := fun q => by rw [hvri i q] at hi; omega
      exact ⟨rfl, if_neg (fun q => h (.inl q))⟩
    · exact ⟨rfl, if_neg (fun q => by rw [q, hfx] at hi; cases hi)⟩
  have hA : ∀ v, v = g.rh id → crep C (S.fold id e us).ver g' w v .any := fun _ _ => trivial
  have hBo : ∀ off v, v = .pointer (some ⟨g.ph id, off, none⟩) → crep C (S.fold id e us).ver g' w v (bif Nat.beq off 0 then .row id (S.ver id + 1) else .any) := fun off v hv' => by
    cases h0 : Nat.beq off 0 with
    | false => trivial
    | true =>
      obtain rfl := nbeq_true.1 h0
      refine ⟨by rw [hvr, hvri id (.inl rfl)]; exact Nat.le_refl _, fun _ => ?_⟩
      show v = if id = id then _ else _
      rw [if_pos rfl]; exact hv'
  refine ⟨g', hR.defers, hR.tsz, hR.nle, fun i hi => ?_, hR.os, hR.tape, hR.output, hR.size, hR.old, hR.n0, hR.n0l, hst.dom, fun t => crep_fzI hst hA hBo (hR.slots t), fun i => ?_⟩
  · obtain ⟨h1, h2⟩ := hst.fix i hi
    exact ⟨h1.trans (hR.keep i hi).1, h2.trans (hR.keep i hi).2⟩
  · show brep C _ g' w i (bif Nat.beq i id then _ else _)
    cases hbi : Nat.beq i id with
    | true =>
      obtain rfl := nbeq_true.1 hbi
      have hobn : g'.ow (g.ph i) = some i := by
        rw [how _ _ hob]; split <;> rfl
      show (recO e (us.map UC.ov)).p (fun x => g'.ow x = some i) (g'.N C) w (if i = i then _ else _)
      rw [if_pos rfl]
      refine ⟨g.ph i, cs, fun j x => ∃ i' O, us[j]? = some (.o i' O) ∧ g.ow x = some i', rfl, hobn, hh, by rw [hs]; simp, ?_, ?_, fun j O hj => ?_⟩
      · rintro j x ⟨i', O, h1, h2⟩
        refine ⟨(how x i' h2).trans (if_pos (memN_iff.2 (get_idsO h1))), fun e' => ?_⟩
        rw [e', hob] at h2; cases h2
        exact hid (get_idsO h1)
      · rintro j j' x hne ⟨i', O, h1, h2⟩ ⟨i'', O', h3, h4⟩
        rw [h2] at h4; cases h4
        exact hne (dsj_inj hds h1 h3)
      · rw [List.getElem?_map] at hj
        cases hu : us[j]? with
        | none => rw [hu] at hj; cases hj
        | some u =>
          rw [hu] at hj; cases hj
          obtain ⟨y, q1, q2, q3⟩ := hc j (u.cell S.ver) (by rw [List.getElem?_map, hu]; rfl)
          refine ⟨y, q1, ?_⟩
          cases u with
          | p A h => exact A.mono (Nat.le_refl _) (fun _ _ _ => rfl) hst.n q3
          | o i' O =>
            have hbo := hR.blks i'
            rw [hr.get hu] at hbo
            have q4 : y = g.rh i' := q3.2 rfl
            rw [q4]
            exact O.mono (F := fun x => g.ow x = some i') (fun x hx => ⟨i', O, hu, hx⟩) (fun x hx => (hR.dom x i' hx).1) (Nat.le_refl _) (fun _ _ _ => rfl) (fun _ _ _ => rfl) hst.n hbo
    | false =>
      have hne : i ≠ id := fun e' => by rw [nbeq_true.2 e'] at hbi; cases hbi
      show brep C _ g' w i (bif memN i (idsO us) then _ else _)
      cases hm : memN i (idsO us) with
      | true => trivial
      | false =>
        have hni : i ∉ idsO us := fun h => by rw [memN_iff.2 h] at hm; cases hm
        exact brep_fzI (fun h => h.elim hne hni) hst (fun b id e => (hR.dom b id e).1) hA hBo (hR.blks i)
/-- a thing that owns nothing: what spoke of it says it -/
theorem Le_perO (id vr : Nat) {A : PV} {h : OneP A} (hv : S.ver id = vr) (hb : S.blk id = .obj (perO A h)) : Le n S (S.fz id vr (.per A) (fun _ => .any)) :=
  Le_fz_gen id vr hv fun C g w n a hR g' hg' _ _ vr' hn => ⟨fun v hval => by
    have hbb := hR.blks id
    rw [hb] at hbb
    rw [hval]
    exact A.mono (Nat.le_refl _) (fun _ _ _ => rfl) hn hbb, fun _ _ _ => trivial⟩
/-- a value as a thing that owns nothing -/
theorem Le_obj (t id : Nat) {A : PV} (h : OneP A) (ht : Nat.blt t n = true) (h0 : S.get t = .per A) (hfx : isFix id = false := by rfl) : Le n S (S.app (some t) (.row id (S.ver id + 1)) [(id, S.ver id + 1, .obj (perO A h))]) := by
  rintro C a w ⟨g, hR⟩
  have hv := hR.slots t
  rw [h0] at hv
  have hvr : ∀ i, (S.app (some t) (.row id (S.ver id + 1)) [(id, S.ver id + 1, .obj (perO A h))]).ver i = if i = id then S.ver id + 1 else S.ver i := fun i => St.app_some_ver _ _ _ _ _ _ _
  have hst := stp_mkN (v := a.tmps.getD t undef) (t := id) hR (Ext.refl w) hvr hfx
  refine R_same (by rw [hR.tsz]; exact Nat.le_of_ble_eq_true ht) ⟨g.mkN id (a.tmps.getD t undef), hR.app1 (fun t' h => by cases h; exact Nat.le_of_ble_eq_true ht) hst ⟨by rw [hvr, if_pos rfl]; exact Nat.le_refl _, fun _ => ?_⟩ ?_⟩
  · exact (if_pos rfl).symm
  · show A.p _ w (if id = id then _ else _)
    rw [if_pos rfl]
    exact A.mono (Nat.le_refl _) (fun _ _ _ => rfl) hst.n hv
end

/-! ### lent to readers -/
/-- a content that means the same whatever blocks may be turned -/
class AbsP (A : PV) : Prop where
  h : ∀ {N N' : BP} {w : World} {v : Value}, A.p N w v → A.p N' w v
instance {v : Value} : AbsP (rawP v) := ⟨fun h => h⟩
class AbsL (l : List PV) : Prop where
  h : ∀ A ∈ l, AbsP A
instance : AbsL [] := ⟨fun _ h => by simp at h⟩
instance {A : PV} {l : List PV} [h : AbsP A] [k : AbsL l] : AbsL (A :: l) := ⟨fun B hB => by
  rcases List.mem_cons.1 hB with e | e
  · subst e; exact h
  · exact k.h B e⟩
instance {l : List PV} [k : AbsL l] : AbsP (aggP l) := ⟨fun ⟨vs, e, h1, h2⟩ => ⟨vs, e, h1, fun j A hj => let ⟨y, q1, q2, q3⟩ := h2 j A hj; ⟨y, q1, q2, (k.h A (List.mem_of_getElem? hj)).h q3⟩⟩⟩
class AbsR (r : Ret) : Prop where
  h : ∀ {N N' : BP} {w w' : World} {v : Value}, r.rep N w w' v → r.rep N' w w' v
instance {A : PV} [h : AbsP A] : AbsR (.per A) := ⟨fun q => h.h q⟩
instance {c d : Ret} [h : AbsR c] [k : AbsR d] : AbsR (.tup2 c d) := ⟨fun ⟨x, y, e, h1, h2⟩ => ⟨x, y, e, h.h h1, k.h h2⟩⟩
class AbsE (es : List (List PV)) : Prop where
  h : ∀ ps ∈ es, AbsL ps
instance {α : Type} {f : α → List PV} {l : List α} [h : ∀ x, AbsL (f x)] : AbsE (l.map f) := ⟨fun ps hp => by
  obtain ⟨x, _, rfl⟩ := List.mem_map.1 hp
  exact h x⟩
instance {e k : Nat} {es : List (List PV)} [h : AbsE es] : AbsR (.own e k es) := ⟨fun q => by
  rcases q with q | ⟨q, cap, cs, h1, h2, h3, h4, h5, h6, h7⟩
  · exact .inl q
  · exact .inr ⟨q, cap, cs, h1, h2, h3, h4, h5, h6, fun i ps hi => ⟨(h7 i ps hi).1, fun j A hj => let ⟨y, q1, q2, q3⟩ := (h7 i ps hi).2 j A hj; ⟨y, q1, q2, ((h.h ps (List.mem_of_getElem? hi)).h A (List.mem_of_getElem? hj)).h q3⟩⟩⟩⟩
section
variable {P : Program} {n : Nat} {ops : Array Oper} {o : Oper} {F : List Nat} {S T : St} {C : Ctx} {g : Gh} {a : Act} {w w' : World} {t : Nat}
/-- the blocks that a reader must not see turned, without what is lent to it -/
def lessN (C : Ctx) (g : Gh) (w : World) (ids : List Nat) : BP := fun b => b < w.heap.size ∧ g.N C b ∧ ∀ i ∈ ids, g.ow b ≠ some i
def GivesP (F : List Nat) (S : St) (ids : List Nat) (x : Operand) (c : Cnt) : Prop := ∀ (n : Nat) (C : Ctx) (T : St) (g : Gh) (a : Act) (w : World), Agree F T S → RG C n T g a w →
  crep ⟨w, lessN C g w ids, fun _ => False, g0⟩ (fun _ => 0) g0 w (a.eval x) c
theorem nnL {ids : List Nat} {b : Nat} (h : (g0.N ⟨w, lessN C g w ids, fun _ => False, g0⟩) b) : lessN C g w ids b := by
  rcases h with h | h
  · exact h
  · exact absurd rfl h
/-- what a content says to a reader -/
inductive Sees (S : St) (ids : List Nat) : Cnt → PV → Prop
  | per {A : PV} : Sees S ids (.per A) A
  | obj {id vr : Nat} {O : OV} {A : PV} (hv : S.ver id = vr) (hb : S.blk id = .obj O) (hl : Lends O A) (hi : memN id ids = true) : Sees S ids (.row id vr) A
  | row {id vr e k : Nat} {es : List (List PV)} (hv : S.ver id = vr) (hb : S.blk id = .row e k es) (hi : memN id ids = true) : Sees S ids (.row id vr) (lstP k es)
inductive SeesL (S : St) (ids : List Nat) : List Cnt → List PV → Prop
  | nil : SeesL S ids [] []
  | cons {c : Cnt} {A : PV} {l : List Cnt} {l' : List PV} (h : Sees S ids c A) (k : SeesL S ids l l') : SeesL S ids (c :: l) (A :: l')
theorem SeesL.get {ids : List Nat} {l : List Cnt} {l' : List PV} (h : SeesL S ids l l') : l'.length = l.length ∧ ∀ (j : Nat) (c : Cnt) (A : PV), l[j]? = some c → l'[j]? = some A → Sees S ids c A := by
  induction h with
  | nil => exact ⟨rfl, fun j O A h => by simp at h⟩
  | cons h k ih =>
    refine ⟨by simp [ih.1], fun j O' A' h1 h2 => ?_⟩
    cases j with
    | zero => simp at h1 h2; subst h1; subst h2; exact h
    | succ j => exact ih.2 j O' A' (by simpa using h1) (by simpa using h2)
theorem Sees.rep {ids : List Nat} {c : Cnt} {A : PV} (h : Sees S ids c A) (hA : Agree F T S) (hF : ∀ i ∈ ids, 2 * i + 1 ∈ F) (hR : RG C n T g a w) {v : Value} (hc : crep C T.ver g w v c) : A.p (lessN C g w ids) w v := by
  cases h with
  | per => exact A.mono (Nat.le_refl _) (fun _ _ _ => rfl) (fun b _ hb => hb.2.1) hc
  | @obj id vr O A hv hb hl hi =>
    have hF' := hF id (memN_iff.1 hi)
    have h1 := hR.blks id
    rw [(hA.2 id hF').1, hb] at h1
    rw [hc.2 (by rw [(hA.2 id hF').2, hv])]
    exact hl h1 (fun b hb => ⟨(hR.dom b id hb).1, fun q => q.2.2 id (memN_iff.1 hi) hb⟩) (fun b hb => hb.2.1)
  | @row id vr e k es hv hb hi =>
    have hF' := hF id (memN_iff.1 hi)
    have h1 := hR.blks id
    rw [(hA.2 id hF').1, hb] at h1
    rw [hc.2 (by rw [(hA.2 id hF').2, hv])]
    show lstAt _ _ k es w (g.rh id)
    rcases h1 with ⟨q1, rfl⟩ | ⟨cap, cs, q1, q2, q3, q4, q5, q6, q7⟩
    · exact ⟨none, 0, 0, 0, by rw [q1]; rfl, by simp, by decide, fun _ => rfl, by simp, fun i cs hi => by simp at hi⟩
    · refine ⟨_, cap, g.ph id, 0, q1, q4, q5, by simp, fun _ => ⟨rfl, (hR.dom _ _ q3).1, fun hn => hn.2.2 id (memN_iff.1 hi) q3⟩, fun i ps hi => ?_⟩
      obtain ⟨r1, r2⟩ := q7 i ps hi
      refine ⟨r1, fun j A hj => ?_⟩
      obtain ⟨y, s1, s2, s3⟩ := r2 j A hj
      exact ⟨y, by rw [Nat.zero_add, cell_at q2]; exact s1, s2, A.mono (Nat.le_refl _) (fun _ _ _ => rfl) (fun b _ hb => hb.2.1) s3⟩
theorem gp_sees {ids : List Nat} {x : Operand} {c : Cnt} {A : PV} (hx : S.opd x = c) (h : Sees S ids c A) (hF : ∀ k ∈ opdN x, k ∈ F) (hI : ∀ i ∈ ids, 2 * i + 1 ∈ F) : GivesP F S ids x (.per A) := fun n C T g a w hA hR => by
  have hc := opd_rep (x := x) hA hF hR
  rw [hx] at hc
  exact A.mono (Nat.le_refl _) (fun _ _ _ => rfl) (fun b _ hb => nnL hb) (h.rep hA hI hR hc)
theorem gp_box {ids : List Nat} {x : Operand} {id vr e : Nat} {cells : List Cnt} {As : List PV} (hx : S.opd x = .ptr id vr 0) (hv : S.ver id = vr) (hb : S.blk id = .box e cells) (hi : memN id ids = true) (h : SeesL S ids cells As) (hF : ∀ k ∈ opdN x, k ∈ F) (hI : ∀ i ∈ ids, 2 * i + 1 ∈ F) : GivesP F S ids x (.per (rptrP As)) := fun n C T g a w hA hR => by
  obtain ⟨h1, cs, h2, h3, h4, h5⟩ := box_at hA hF (hI id (memN_iff.1 hi)) hR hx hv hb
  obtain ⟨hl, hg⟩ := h.get
  refine (rptrP As).mono (N := lessN C g w ids) (Nat.le_refl _) (fun _ _ _ => rfl) (fun b _ hb => nnL hb) ⟨g.ph id, 0, h1, (hR.dom _ _ h3).1, fun hn => hn.2.2 id (memN_iff.1 hi) h3, fun j A hj => ?_⟩
  have hlt : j < cells.length := by
    rw [← hl]
    rcases Nat.lt_or_ge j As.length with q | q
    · exact q
    · rw [List.getElem?_eq_none q] at hj; cases hj
  obtain ⟨y, q1, q2, q3⟩ := h5 j _ (List.getElem?_eq_getElem hlt)
  exact ⟨y, by rw [Nat.zero_add, cell_at h2]; exact q1, q2, (hg j _ A (List.getElem?_eq_getElem hlt) hj).rep hA hI hR q3⟩
theorem gp_bor {ids : List Nat} {x : Operand} {k : Nat} {es : List (List PV)} (hx : S.opd x = .bor k es) (hF : ∀ k ∈ opdN x, k ∈ F) : GivesP F S ids x (.bor k es) := fun n C T g a w hA hR => by
  have h := opd_rep (x := x) hA hF hR
  rw [hx] at h
  exact lst_bor (fun b hb => (nnL hb).2.1) h
theorem gp_lst {ids : List Nat} {x : Operand} {k : Nat} {es : List (List PV)} (hx : S.opd x = .per (lstP k es)) (hF : ∀ k ∈ opdN x, k ∈ F) : GivesP F S ids x (.bor k es) := fun n C T g a w hA hR => by
  have h := opd_rep (x := x) hA hF hR
  rw [hx] at h
  exact lst_bor (fun b hb => (nnL hb).2.1) h
theorem gp_row {ids : List Nat} {x : Operand} {id vr e k : Nat} {es : List (List PV)} (hx : S.opd x = .row id vr) (hv : S.ver id = vr) (hb : S.blk id = .row e k es) (hF : ∀ k ∈ opdN x, k ∈ F) (hF' : 2 * id + 1 ∈ F) : GivesP F S ids x (.bor k es) := fun n C T g a w hA hR => by
  obtain ⟨h1, h2⟩ := row_at (x := x) hA hF hF' hR hx hv hb
  rw [h1]
  exact lst_bor (fun b hb => (nnL hb).2.1) (row_bor (top := fun _ => False) (fun _ _ h => h) hR h2)
inductive GivesPL (F : List Nat) (S : St) (ids : List Nat) : List Operand → List Cnt → Prop
  | nil : GivesPL F S ids [] []
  | cons {x : Operand} {c : Cnt} {xs : List Operand} {cs : List Cnt} (h : GivesP F S ids x c) (t : GivesPL F S ids xs cs) : GivesPL F S ids (x :: xs) (c :: cs)
theorem GivesPL.rep {ids : List Nat} {xs : List Operand} {cs : List Cnt} (h : GivesPL F S ids xs cs) (hA : Agree F T S) (hR : RG C n T g a w) : argsRep (lessN C g w ids) w (xs.map a.eval) cs := by
  induction h with
  | nil => exact ⟨rfl, fun i v c hi => by simp at hi⟩
  | cons h t ih =>
    refine ⟨by simp [ih.1], fun i v c hi hc => ?_⟩
    cases i with
    | zero =>
      simp at hi hc; subst hi; subst hc
      exact h n C T g a w hA hR
    | succ i => exact ih.2 i v c (by simpa using hi) (by simpa using hc)
theorem op_callP {ids : List Nat} {f : FuncId} {xs : List Operand} {As : List Cnt} {r : Ret} (hp : Pl n o t) (ho : isCall o f xs) (hf : Fn P f As r) (hpl : r.plain = true) (ha : AbsR r) (hg : GivesPL F S ids xs As) : OpOk n P ops o F (ansC t 0 r) [] S := by
  refine ⟨?_⟩
  intro C T hA a w ⟨g, hR⟩
  unfold Exec
  rw [if_pos (hp.wanted a)]
  refine callWp hf.ent ho (hf.run _ w (xs.map a.eval) (fun b h => h.1) (hg.rep hA hR)) ?_
  rintro v w' ⟨hx, hr⟩
  exact ⟨g, hR.app0 hx hp.dOk (ans_plain hR hpl (ha.h hr))⟩
end
end Go.Proofs.Ytpndnlnjgnckdaa
