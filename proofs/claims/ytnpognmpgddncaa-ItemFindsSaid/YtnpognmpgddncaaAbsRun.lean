/- Regions, run in the order of their text, whatever order is drawn. No program in sight. -/
import Derived.Test.YtnpognmpgddncaaAbs
namespace Go.Proofs.Ytnpognmpgddncaa
open Go.RowKit

def Agree (F : List Nat) (T S : St) : Prop := (∀ t, 2 * t ∈ F → T.get t = S.get t) ∧ (∀ id, 2 * id + 1 ∈ F → T.blk id = S.blk id ∧ T.ver id = S.ver id)
theorem Agree.refl (F : List Nat) (S : St) : Agree F S S := ⟨fun _ _ => rfl, fun _ _ => ⟨rfl, rfl⟩⟩

def Exec (P : Program) (ops : Array Oper) (o : Oper) (a : Act) (w : World) (K : Act → World → Prop) : Prop :=
  if Region.wanted o (yielded ops a.tmps) = true then o.wp P a w K (fun _ _ _ => False) else K (a.put o.dst undef) w

/-- the operation gives its slot the content c, and turns the block b; it looks at the names F alone -/
structure OpOk (n : Nat) (P : Program) (ops : Array Oper) (o : Oper) (F : List Nat) (c : Cnt) (b : Upd) (S : St) : Prop where
  run : ∀ (C : Ctx) (T : St), Agree F T S → ∀ a w, R C n T a w → Exec P ops o a w (R C n (T.app o.dst c b))

theorem Oper.wp_monoQ {P : Program} {o : Oper} {a : Act} {w : World} {K K' : Act → World → Prop} {Q Q' : Exit → Act → World → Prop} (hK : ∀ a w, K a w → K' a w) (hQ : ∀ e a w, Q e a w → Q' e a w)
    (h : o.wp P a w K Q) : o.wp P a w K' Q' := by
  unfold Oper.wp at *
  generalize (execOp a.eval o).run P w = r at *
  cases r with
  | ok x w' =>
    cases x <;> simp only [Oper.upon] at h ⊢ <;>
      first
        | exact hK _ _ h
        | exact Calls.mono h (fun e w'' he => by cases e <;> first | exact hK _ _ he | exact hQ _ _ _ he | (obtain ⟨a0, w0, hq⟩ := he; exact ⟨a0, w0, hQ _ _ _ hq⟩))
        | exact Rows.mono h (fun _ _ he => hK _ _ he)
  | halt x w' => cases x <;> simp only [Oper.upon] at h ⊢ <;> first | exact hQ _ _ _ h | exact h

structure AL (P : Program) (n : Nat) (ops : Array Oper) (Q : St → Prop) (l : List Oper) (S : St) : Prop where
  run : ∀ (C : Ctx) a w, R C n S a w → wpList P ops (fun e a w => e = .normal ∧ ∃ S', Q S' ∧ R C n S' a w) l a w
theorem AL_nil {P : Program} {n : Nat} {ops : Array Oper} {Q : St → Prop} {S : St} (h : Q S) : AL P n ops Q [] S := ⟨fun _ _ _ hr => ⟨rfl, S, h, hr⟩⟩
theorem AL_cons {P : Program} {n : Nat} {ops : Array Oper} {Q : St → Prop} {l : List Oper} {S : St} {o : Oper} {F : List Nat} {c : Cnt} {b : Upd}
    (h : OpOk n P ops o F c b S) (k : AL P n ops Q l (S.app o.dst c b)) : AL P n ops Q (o :: l) S := by
  refine ⟨?_⟩
  intro C a w hr
  have h1 := h.run C S (Agree.refl F S) a w hr
  unfold wpList
  unfold Exec at h1
  split
  · rename_i hw
    rw [if_pos hw] at h1
    exact .inl (Oper.wp_monoQ (fun a w h => k.run C a w h) (fun _ _ _ h => h.elim) h1)
  · rename_i hw
    rw [if_neg hw] at h1
    exact k.run C _ _ h1

structure Rec where
  F : List Nat
  d : Option Nat
  c : Cnt
  b : Upd
def wrN (d : Option Nat) (b : Upd) : List Nat := (match d with | none => [] | some d => [2 * d]) ++ b.map fun x => 2 * x.1 + 1
def hits (xs ys : List Nat) : Bool := xs.any fun x => ys.any fun y => Nat.beq x y
theorem hits_of {xs ys : List Nat} {x : Nat} (h1 : x ∈ xs) (h2 : x ∈ ys) : hits xs ys = true := by
  unfold hits
  exact List.any_eq_true.2 ⟨x, h1, List.any_eq_true.2 ⟨x, h2, Nat.beq_refl x⟩⟩
def conf (r s : List Nat × List Nat) : Bool := hits r.2 (s.1 ++ s.2) || hits r.1 s.2

inductive TR (n : Nat) (P : Program) (ops : Array Oper) : List Oper → St → List Rec → Prop
  | nil {S : St} : TR n P ops [] S []
  | cons {o : Oper} {l : List Oper} {S : St} {F : List Nat} {c : Cnt} {b : Upd} {rs : List Rec} (h : OpOk n P ops o F c b S) (t : TR n P ops l (S.app o.dst c b) rs) :
      TR n P ops (o :: l) S (⟨F, o.dst, c, b⟩ :: rs)
def runR (S : St) (rs : List Rec) : St := rs.foldl (fun S r => S.app r.d r.c r.b) S

def edgeMask (acc : List Nat) : List Edge → Nat
  | [] => 0
  | e :: l => (if Region.binds .any e then 2 ^ e.on ||| acc.getD e.on 0 else 0) ||| edgeMask acc l
def masks : List Oper → List Nat → List Nat
  | [], acc => acc
  | o :: l, acc => masks l (acc ++ [edgeMask acc o.after.toList])
def chkRow (m : Nat) (s : List Nat × List Nat) : Nat → List (List Nat × List Nat) → Bool
  | _, [] => true
  | i, r :: l => (!conf r s || m.testBit i) && chkRow m s (i + 1) l
def chkAll (ms : List Nat) : List (List Nat × List Nat) → List (List Nat × List Nat) → Nat → Bool
  | _, [], _ => true
  | prev, s :: l, j => chkRow (ms.getD j 0) s 0 prev && chkAll ms (prev ++ [s]) l (j + 1)
def edgesOk : Nat → List Oper → Bool
  | _, [] => true
  | i, o :: l => o.after.toList.all (fun e => !Region.binds .any e || Nat.blt e.on i) && edgesOk (i + 1) l
def chk (l : List Oper) (fs : List (List Nat × List Nat)) : Bool := edgesOk 0 l && chkAll (masks l []) [] fs 0

/-! the check's meaning -/
theorem chkRow_spec {m : Nat} {s : List Nat × List Nat} : ∀ {l : List (List Nat × List Nat)} {i : Nat}, chkRow m s i l = true → ∀ k r, l[k]? = some r → conf r s = true → m.testBit (i + k) = true := by
  intro l
  induction l with
  | nil => intro i _ k r hk; simp at hk
  | cons x l ih =>
    intro i h k r hk hc
    simp only [chkRow, Bool.and_eq_true, Bool.or_eq_true, Bool.not_eq_true'] at h
    cases k with
    | zero =>
      simp at hk; subst hk
      rcases h.1 with q | q
      · rw [hc] at q; cases q
      · exact q
    | succ k =>
      simp at hk
      have := ih h.2 k r hk hc
      rw [show i + (k + 1) = i + 1 + k by omega]; exact this
theorem chkAll_spec {ms : List Nat} : ∀ {l prev : List (List Nat × List Nat)} {j : Nat}, chkAll ms prev l j = true → prev.length = j →
    ∀ i k r s, (prev ++ l)[i]? = some r → (prev ++ l)[k]? = some s → i < k → j ≤ k → conf r s = true → (ms.getD k 0).testBit i = true := by
  intro l
  induction l with
  | nil =>
    intro prev j _ hp i k r s _ hk _ hjk
    rw [List.append_nil, List.getElem?_eq_none (by omega)] at hk; cases hk
  | cons x l ih =>
    intro prev j h hp i k r s hi hk hik hjk hc
    simp only [chkAll, Bool.and_eq_true] at h
    rcases Nat.lt_or_ge j k with hlt | hge
    · refine ih h.2 (by simp [hp]) i k r s ?_ ?_ hik hlt hc
      · rw [List.append_assoc]; exact hi
      · rw [List.append_assoc]; exact hk
    · obtain rfl : k = j := by omega
      rw [List.getElem?_append_right (by omega), hp, Nat.sub_self] at hk
      simp at hk; subst hk
      rw [List.getElem?_append_left (by omega)] at hi
      have := chkRow_spec h.1 i r hi hc
      simpa using this
theorem edgesOk_spec : ∀ {l : List Oper} {i : Nat}, edgesOk i l = true → ∀ k o, l[k]? = some o → ∀ e ∈ o.after, Region.binds .any e = true → e.on < i + k := by
  intro l
  induction l with
  | nil => intro i _ k o hk; simp at hk
  | cons x l ih =>
    intro i h k o hk e he hb
    simp only [edgesOk, Bool.and_eq_true, List.all_eq_true] at h
    cases k with
    | zero =>
      simp at hk; subst hk
      have := h.1 e (by simpa using he)
      simp only [hb, Bool.not_true, Bool.false_or] at this
      exact Nat.le_of_ble_eq_true this
    | succ k =>
      simp at hk
      have := ih h.2 k o hk e he hb
      omega
theorem edgeMask_spec {acc : List Nat} {i : Nat} : ∀ {l : List Edge}, (edgeMask acc l).testBit i = true → ∃ e ∈ l, Region.binds .any e = true ∧ (i = e.on ∨ (acc.getD e.on 0).testBit i = true) := by
  intro l
  induction l with
  | nil => intro h; simp [edgeMask] at h
  | cons e l ih =>
    intro h
    simp only [edgeMask, Nat.testBit_or, Bool.or_eq_true] at h
    rcases h with h | h
    · split at h
      · rename_i hb
        rw [Nat.testBit_or, Bool.or_eq_true] at h
        refine ⟨e, by simp, hb, ?_⟩
        rcases h with h | h
        · rw [Nat.testBit_two_pow] at h; exact .inl (of_decide_eq_true h).symm
        · exact .inr h
      · simp at h
    · obtain ⟨e', h1, h2⟩ := ih h
      exact ⟨e', by simp [h1], h2⟩
theorem masks_spec {E : Nat → Prop} : ∀ {l : List Oper} {acc : List Nat}, (∀ k o, l[k]? = some o → E (acc.length + k) → ∀ e ∈ o.after, Region.binds .any e = true → E e.on) →
    (∀ j i, (acc.getD j 0).testBit i = true → E j → E i) → ∀ j i, ((masks l acc).getD j 0).testBit i = true → E j → E i := by
  intro l
  induction l with
  | nil => intro acc _ h; exact h
  | cons o l ih =>
    intro acc hc h
    refine ih (fun k o' hk hE => ?_) (fun j i hb hE => ?_)
    · rw [List.length_append, List.length_singleton, Nat.add_assoc, Nat.add_comm 1 k] at hE
      exact hc (k + 1) o' (by simpa using hk) hE
    · rcases Nat.lt_trichotomy j acc.length with hj | hj | hj
      · refine h j i ?_ hE
        rw [List.getD_eq_getElem?_getD, List.getElem?_append_left hj] at hb
        rw [List.getD_eq_getElem?_getD]; exact hb
      · subst hj
        rw [List.getD_eq_getElem?_getD, List.getElem?_append_right (Nat.le_refl _)] at hb
        simp at hb
        obtain ⟨e, he, h2, h3⟩ := edgeMask_spec hb
        have hEe := hc 0 o (by simp) (by simpa using hE) e (by simpa using he) h2
        rcases h3 with rfl | h3
        · exact hEe
        · exact h e.on i h3 hEe
      · rw [List.getD_eq_getElem?_getD, List.getElem?_eq_none (by simp; omega)] at hb
        simp at hb

/-! states of some of the operations -/
def runE (E : Nat → Bool) : Nat → St → List Rec → St
  | _, S, [] => S
  | i, S, r :: l => runE E (i + 1) (if E i then S.app r.d r.c r.b else S) l
def lastG (E : Nat → Bool) (t : Nat) : Nat → List Rec → Option Cnt
  | _, [] => none
  | i, r :: l => match lastG E t (i + 1) l with
    | some c => some c
    | none => if E i = true ∧ r.d = some t then some r.c else none
def lastB (E : Nat → Bool) (id : Nat) : Nat → List Rec → Option (Nat × Blk)
  | _, [] => none
  | i, r :: l => match lastB E id (i + 1) l with
    | some c => some c
    | none => if E i = true then ub r.b id else none

theorem runE_get (E : Nat → Bool) (t : Nat) : ∀ (l : List Rec) (i : Nat) (S : St), (runE E i S l).get t = (lastG E t i l).getD (S.get t) := by
  intro l
  induction l with
  | nil => intro i S; rfl
  | cons r l ih =>
    intro i S
    simp only [runE, lastG]
    rw [ih]
    cases lastG E t (i + 1) l with
    | some c => rfl
    | none =>
      simp only [Option.getD_none]
      by_cases hE : E i = true
      · simp only [hE, if_true, true_and]
        rw [St.app_get]
        cases hd : r.d with
        | none => simp [St.put]
        | some d =>
          rw [St.put_get]
          by_cases h : t = d
          · subst h; simp
          · simp [h, Ne.symm h]
      · simp [hE]
theorem runE_blk (E : Nat → Bool) (id : Nat) : ∀ (l : List Rec) (i : Nat) (S : St), (runE E i S l).blk id = ((lastB E id i l).map (·.2)).getD (S.blk id) ∧ (runE E i S l).ver id = ((lastB E id i l).map (·.1)).getD (S.ver id) := by
  intro l
  induction l with
  | nil => intro i S; exact ⟨rfl, rfl⟩
  | cons r l ih =>
    intro i S
    simp only [runE, lastB]
    rw [(ih _ _).1, (ih _ _).2]
    cases lastB E id (i + 1) l with
    | some c => exact ⟨rfl, rfl⟩
    | none =>
      simp only [Option.map_none, Option.getD_none]
      by_cases hE : E i = true
      · simp only [hE, if_true]
        exact ⟨St.app_blk _ _ _ _ _, St.app_ver _ _ _ _ _⟩
      · simp [hE]
theorem lastG_congr {E E' : Nat → Bool} {t : Nat} : ∀ {l : List Rec} {i : Nat}, (∀ k r, l[k]? = some r → r.d = some t → E (i + k) = E' (i + k)) → lastG E t i l = lastG E' t i l := by
  intro l
  induction l with
  | nil => intro i _; rfl
  | cons r l ih =>
    intro i h
    simp only [lastG]
    rw [ih (i := i + 1) (fun k r' hk hd => by have := h (k + 1) r' (by simpa using hk) hd; rw [show i + 1 + k = i + (k + 1) by omega]; exact this)]
    by_cases hd : r.d = some t
    · have := h 0 r (by simp) hd
      simp only [Nat.add_zero] at this
      rw [this]
    · simp [hd]
theorem lastB_congr {E E' : Nat → Bool} {id : Nat} : ∀ {l : List Rec} {i : Nat}, (∀ k r, l[k]? = some r → (∃ x, ub r.b id = some x) → E (i + k) = E' (i + k)) → lastB E id i l = lastB E' id i l := by
  intro l
  induction l with
  | nil => intro i _; rfl
  | cons r l ih =>
    intro i h
    simp only [lastB]
    rw [ih (i := i + 1) (fun k r' hk hd => by have := h (k + 1) r' (by simpa using hk) hd; rw [show i + 1 + k = i + (k + 1) by omega]; exact this)]
    cases hb : ub r.b id with
    | none => simp
    | some x =>
      have := h 0 r (by simp) ⟨x, hb⟩
      simp only [Nat.add_zero] at this
      simp only [this]
theorem lastG_none {E : Nat → Bool} {t : Nat} : ∀ {l : List Rec} {i : Nat}, (∀ k r, l[k]? = some r → r.d = some t → E (i + k) = false) → lastG E t i l = none := by
  intro l i h
  rw [lastG_congr (E' := fun _ => false) h]
  clear h
  induction l generalizing i with
  | nil => rfl
  | cons r l ih => simp [lastG, ih]
theorem lastB_none {E : Nat → Bool} {id : Nat} : ∀ {l : List Rec} {i : Nat}, (∀ k r, l[k]? = some r → (∃ x, ub r.b id = some x) → E (i + k) = false) → lastB E id i l = none := by
  intro l i h
  rw [lastB_congr (E' := fun _ => false) h]
  clear h
  induction l generalizing i with
  | nil => rfl
  | cons r l ih => simp [lastB, ih]
theorem lastG_at {E : Nat → Bool} {t : Nat} : ∀ {l : List Rec} {i j : Nat} {r : Rec}, l[j]? = some r → r.d = some t → E (i + j) = true → (∀ k r', l[k]? = some r' → r'.d = some t → j < k → E (i + k) = false) → lastG E t i l = some r.c := by
  intro l
  induction l with
  | nil => intro i j r hj; simp at hj
  | cons x l ih =>
    intro i j r hj hd hE hno
    simp only [lastG]
    cases j with
    | zero =>
      simp at hj; subst hj
      rw [lastG_none (fun k r' hk hd' => by have := hno (k + 1) r' (by simpa using hk) hd' (by omega); rw [show i + 1 + k = i + (k + 1) by omega]; exact this)]
      simp only [Nat.add_zero] at hE
      simp [hE, hd]
    | succ j =>
      simp at hj
      rw [ih (i := i + 1) hj hd (by rw [show i + 1 + j = i + (j + 1) by omega]; exact hE) (fun k r' hk hd' hlt => by have := hno (k + 1) r' (by simpa using hk) hd' (by omega); rw [show i + 1 + k = i + (k + 1) by omega]; exact this)]
theorem lastB_at {E : Nat → Bool} {id : Nat} {x : Nat × Blk} : ∀ {l : List Rec} {i j : Nat} {r : Rec}, l[j]? = some r → ub r.b id = some x → E (i + j) = true → (∀ k r', l[k]? = some r' → (∃ x, ub r'.b id = some x) → j < k → E (i + k) = false) → lastB E id i l = some x := by
  intro l
  induction l with
  | nil => intro i j r hj; simp at hj
  | cons y l ih =>
    intro i j r hj hd hE hno
    simp only [lastB]
    cases j with
    | zero =>
      simp at hj; subst hj
      rw [lastB_none (fun k r' hk hd' => by have := hno (k + 1) r' (by simpa using hk) hd' (by omega); rw [show i + 1 + k = i + (k + 1) by omega]; exact this)]
      simp only [Nat.add_zero] at hE
      simp [hE, hd]
    | succ j =>
      simp at hj
      rw [ih (i := i + 1) hj hd (by rw [show i + 1 + j = i + (j + 1) by omega]; exact hE) (fun k r' hk hd' hlt => by have := hno (k + 1) r' (by simpa using hk) hd' (by omega); rw [show i + 1 + k = i + (k + 1) by omega]; exact this)]
theorem St.ext' {S T : St} (h1 : ∀ t, S.get t = T.get t) (h2 : ∀ i, S.blk i = T.blk i ∧ S.ver i = T.ver i) : S = T := by
  cases S; cases T
  simp only [St.mk.injEq]
  exact ⟨funext h1, funext fun i => (h2 i).1, funext fun i => (h2 i).2⟩
theorem mem_wrN_d {d : Nat} {b : Upd} : 2 * d ∈ wrN (some d) b := by simp [wrN]
theorem mem_wrN_b {d : Option Nat} {bs : Upd} {id : Nat} {x : Nat × Blk} (h : ub bs id = some x) : 2 * id + 1 ∈ wrN d bs := by
  have : ∃ y ∈ bs, y.1 = id := by
    induction bs with
    | nil => cases h
    | cons y r ih =>
      obtain ⟨i, v, B⟩ := y
      unfold ub at h
      cases hb : Nat.beq id i with
      | true => exact ⟨_, List.mem_cons_self, (nbeq_true.1 hb).symm⟩
      | false =>
        rw [hb] at h
        obtain ⟨y, h1, h2⟩ := ih h
        exact ⟨y, List.mem_cons_of_mem _ h1, h2⟩
  obtain ⟨y, h1, h2⟩ := this
  unfold wrN
  refine List.mem_append_right _ (List.mem_map.2 ⟨y, h1, by rw [h2]⟩)

def Rec.fp (r : Rec) : List Nat × List Nat := (r.F, wrN r.d r.b)

section
variable {n : Nat} {P : Program} {ops : Array Oper} {C : Ctx} {S : St} {rs : List Rec}
theorem TR.get {l : List Oper} {S : St} {rs : List Rec} (h : TR n P ops l S rs) : l.length = rs.length ∧ ∀ j o r, l[j]? = some o → rs[j]? = some r → r.d = o.dst ∧ OpOk n P ops o r.F r.c r.b (runR S (rs.take j)) := by
  induction h with
  | nil => exact ⟨rfl, fun j o r hj => by simp at hj⟩
  | cons h t ih =>
    refine ⟨by simp [ih.1], fun j o r hj hr => ?_⟩
    cases j with
    | zero => simp at hj hr; subst hj; subst hr; exact ⟨rfl, h⟩
    | succ j =>
      simp at hj hr
      exact ih.2 j o r hj hr
theorem runE_all : ∀ (rs : List Rec) (S : St) (i : Nat) (E : Nat → Bool), (∀ k, k < rs.length → E (i + k) = true) → runE E i S rs = runR S rs := by
  intro rs
  induction rs with
  | nil => intro S i E _; rfl
  | cons r l ih =>
    intro S i E h
    have h0 := h 0 (by simp)
    simp only [Nat.add_zero] at h0
    simp only [runE, runR, List.foldl_cons, h0, if_true]
    exact ih _ _ _ (fun k hk => by rw [show i + 1 + k = i + (k + 1) by omega]; exact h (k + 1) (by simp; omega))
theorem runE_none : ∀ (rs : List Rec) (S : St) (i : Nat) (E : Nat → Bool), (∀ k, k < rs.length → E (i + k) = false) → runE E i S rs = S := by
  intro rs
  induction rs with
  | nil => intro S i E _; rfl
  | cons r l ih =>
    intro S i E h
    have h0 := h 0 (by simp)
    simp only [Nat.add_zero] at h0
    simp only [runE, h0]
    exact ih _ _ _ (fun k hk => by rw [show i + 1 + k = i + (k + 1) by omega]; exact h (k + 1) (by simp; omega))
theorem runE_take : ∀ (rs : List Rec) (S : St) (i j : Nat), runE (fun k => decide (k < i + j)) i S rs = runR S (rs.take j) := by
  intro rs
  induction rs with
  | nil => intro S i j; simp [runE, runR]
  | cons r l ih =>
    intro S i j
    cases j with
    | zero =>
      rw [List.take_zero]
      exact runE_none _ _ _ _ (fun k _ => by simp)
    | succ j =>
      simp only [runE, List.take_succ_cons, runR, List.foldl_cons]
      rw [if_pos (by simp)]
      have := ih (S.app r.d r.c r.b) (i + 1) j
      rw [show i + 1 + j = i + (j + 1) by omega] at this
      exact this

theorem conf_of_w {r s : Rec} {x : Nat} (h1 : x ∈ wrN r.d r.b) (h2 : x ∈ s.F ∨ x ∈ wrN s.d s.b) : conf r.fp s.fp = true := by
  unfold conf
  rw [Bool.or_eq_true]
  exact .inl (hits_of h1 (by simpa [Rec.fp] using h2))
theorem conf_of_r {r s : Rec} {x : Nat} (h1 : x ∈ r.F) (h2 : x ∈ wrN s.d s.b) : conf r.fp s.fp = true := by
  unfold conf
  rw [Bool.or_eq_true]
  exact .inr (hits_of h1 h2)

/-- any order that the edges let by ends in the state that the order of the text ends in -/
theorem wpAny_of (hT : TR n P ops ops.toList S rs) (hc : chk ops.toList (rs.map Rec.fp) = true) (K : Exit → Act → World → Prop) (hK : ∀ a w, R C n (runR S rs) a w → K .normal a w) :
    ∀ (fuel : Nat) (E : Array Bool), E.size = ops.size → (∀ i o, ops[i]? = some o → E.getD i true = true → ∀ e ∈ o.after, Region.binds .any e = true → E.getD e.on false = true) →
      (fuel + ((List.range ops.size).filter fun i => E.getD i true).length ≥ ops.size) →
      ∀ a w, R C n (runE (fun i => E.getD i true) 0 S rs) a w → wpAny P .any ops K fuel E a w := by
  obtain ⟨hlen, hget⟩ := hT.get
  simp only [chk, Bool.and_eq_true] at hc
  have hedge := edgesOk_spec hc.1
  have hconf : ∀ i k r s, rs[i]? = some r → rs[k]? = some s → i < k → conf r.fp s.fp = true → ((masks ops.toList []).getD k 0).testBit i = true := by
    intro i k r s hi hk hik hcf
    refine chkAll_spec hc.2 rfl i k r.fp s.fp ?_ ?_ hik (Nat.zero_le _) hcf
    · simp [hi]
    · simp [hk]
  have hanc : ∀ (E : Array Bool), (∀ i o, ops[i]? = some o → E.getD i true = true → ∀ e ∈ o.after, Region.binds .any e = true → E.getD e.on false = true) →
      ∀ j i, ((masks ops.toList []).getD j 0).testBit i = true → E.getD j false = true → E.getD i false = true := by
    intro E hE j i hb hj
    refine masks_spec (E := fun i => E.getD i false = true) (fun k o hk hk' e he hbb => ?_) (fun j i hb => by simp at hb) j i hb hj
    refine hE k o (by simpa using hk) ?_ e he hbb
    simp only [List.length_nil, Nat.zero_add] at hk'
    by_cases hks : k < E.size
    · simpa [Array.getD, hks] using hk'
    · simp [Array.getD, hks]
  have hsz : rs.length = ops.size := by rw [← hlen]; simp
  have done : ∀ (E : Array Bool), E.size = ops.size → (∀ i o, ops[i]? = some o → E.getD i true = true → ∀ e ∈ o.after, Region.binds .any e = true → E.getD e.on false = true) →
      Region.ready .any ops E = [] → ∀ k, k < ops.size → E.getD k true = true := by
    intro E hsE _ hready
    intro k
    induction k using Nat.strongRecOn with
    | _ k ih =>
      intro hk
      cases hEk : E.getD k true with
      | true => rfl
      | false =>
        exfalso
        have : k ∈ Region.ready .any ops E := by
          unfold Region.ready
          rw [List.mem_filter]
          refine ⟨by simp [hk], ?_⟩
          simp only [hEk, Bool.not_false, Bool.true_and]
          rw [Array.getElem?_eq_getElem hk]
          simp only [Option.map_some, Option.getD_some, Array.all_eq_true_iff_forall_mem]
          intro e he
          by_cases hb : Region.binds .any e = true
          · have h1 := hedge k ops[k] (by simp [hk]) e he hb
            have h2 := ih e.on (by omega) (by omega)
            have h3 : e.on < E.size := by omega
            simp only [hb, Bool.not_true, Bool.false_or]
            simpa [Array.getD, h3] using h2
          · simp [hb]
        rw [hready] at this; simp at this
  have fin : ∀ (E : Array Bool), E.size = ops.size → (∀ i o, ops[i]? = some o → E.getD i true = true → ∀ e ∈ o.after, Region.binds .any e = true → E.getD e.on false = true) →
      Region.ready .any ops E = [] → ∀ a w, R C n (runE (fun i => E.getD i true) 0 S rs) a w → K .normal a w := by
    intro E h1 h2 h3 a w hr
    refine hK a w ?_
    rw [← runE_all rs S 0 (fun i => E.getD i true) (fun k hk => by rw [Nat.zero_add]; exact done E h1 h2 h3 k (by omega))]
    exact hr
  intro fuel
  induction fuel with
  | zero =>
    intro E h1 h2 h3 a w hr
    have hall : ∀ k, k < ops.size → E.getD k true = true := by
      intro k hk
      have hle := List.length_filter_le (fun i => E.getD i true) (List.range ops.size)
      rw [List.length_range] at hle
      have heq : ((List.range ops.size).filter fun i => E.getD i true).length = (List.range ops.size).length := by rw [List.length_range]; omega
      have := List.length_filter_eq_length_iff.1 heq k (by simp [hk])
      exact this
    have hready : Region.ready .any ops E = [] := by
      unfold Region.ready
      rw [List.filter_eq_nil_iff]
      intro i hi
      have hi' : i < ops.size := by simpa using hi
      have := hall i hi'
      simp [this]
    exact ⟨hready, fin E h1 h2 hready a w hr⟩
  | succ fuel ih =>
    intro E h1 h2 h3 a w hr
    refine ⟨fun hready => fin E h1 h2 hready a w hr, fun i hi => ?_⟩
    unfold Region.ready at hi
    rw [List.mem_filter] at hi
    obtain ⟨hi1, hi2⟩ := hi
    have his : i < ops.size := by simpa using hi1
    simp only [Bool.and_eq_true, Bool.not_eq_true', Array.getElem?_eq_getElem his, Option.map_some, Option.getD_some, Array.all_eq_true_iff_forall_mem] at hi2
    obtain ⟨hEi, hin⟩ := hi2
    have hEif : E.getD i false = false := by
      have : i < E.size := by omega
      simpa [Array.getD, this] using hEi
    obtain ⟨r, hrr⟩ : ∃ r, rs[i]? = some r := ⟨rs[i]'(by omega), List.getElem?_eq_getElem _⟩
    obtain ⟨hd, hop⟩ := hget i ops[i] r (by simp [his]) hrr
    have hsE : ∀ k, k < rs.length → E.getD k true = E.getD k false := fun k hk => by
      have : k < E.size := by omega
      simp [Array.getD, this]
    have hlt : ∀ k r', rs[k]? = some r' → k < rs.length := fun k r' h => by
      rcases Nat.lt_or_ge k rs.length with q | q
      · exact q
      · rw [List.getElem?_eq_none q] at h; cases h
    -- what stands before
    have hbefore : ∀ k r', rs[k]? = some r' → conf r'.fp r.fp = true → k < i → E.getD k true = true := by
      intro k r' hk hcf hki
      have hb := hconf k i r' r hk hrr hki hcf
      have hE' : ∀ j o, ops[j]? = some o → (E.setIfInBounds i true).getD j true = true → ∀ e ∈ o.after, Region.binds .any e = true → (E.setIfInBounds i true).getD e.on false = true := by
        intro j o hj hjE e he hbb
        by_cases hji : j = i
        · subst hji
          rw [Array.getElem?_eq_getElem his] at hj; cases hj
          have := hin e he
          simp only [hbb, Bool.not_true, Bool.false_or] at this
          by_cases hei : e.on = j
          · rw [hei]; simp [Array.getD_eq_getD_getElem?, h1, his]
          · simp only [Array.getD_eq_getD_getElem?, Array.getElem?_setIfInBounds_ne (Ne.symm hei)]
            simpa [Array.getD_eq_getD_getElem?] using this
        · have := h2 j o hj (by simpa [Array.getD_eq_getD_getElem?, Array.getElem?_setIfInBounds_ne (Ne.symm hji)] using hjE) e he hbb
          by_cases hei : e.on = i
          · rw [hei, hEif] at this; cases this
          · simpa [Array.getD_eq_getD_getElem?, Array.getElem?_setIfInBounds_ne (Ne.symm hei)] using this
      have := hanc _ hE' i k hb (by simp [Array.getD_eq_getD_getElem?, h1, his])
      have hki' : k ≠ i := by omega
      rw [hsE k (hlt k r' hk)]
      simpa [Array.getD_eq_getD_getElem?, Array.getElem?_setIfInBounds_ne (Ne.symm hki')] using this
    have hafter : ∀ k r', rs[k]? = some r' → conf r.fp r'.fp = true → i < k → E.getD k true = false := by
      intro k r' hk hcf hik
      cases hEk : E.getD k true with
      | false => rfl
      | true =>
        have hb := hconf i k r r' hrr hk hik hcf
        have := hanc E h2 k i hb (by rw [← hsE k (hlt k r' hk)]; exact hEk)
        rw [hEif] at this; cases this
    have hagree : Agree r.F (runE (fun i => E.getD i true) 0 S rs) (runR S (rs.take i)) := by
      rw [← runE_take rs S 0 i]
      refine ⟨fun t ht => ?_, fun id hid => ?_⟩
      · rw [runE_get, runE_get]
        congr 1
        refine lastG_congr (fun k r' hk hd' => ?_)
        simp only [Nat.zero_add]
        rcases Nat.lt_trichotomy k i with q | q | q
        · rw [hbefore k r' hk (conf_of_w (x := 2 * t) (by rw [hd']; exact mem_wrN_d) (.inl ht)) q]; simp [q]
        · subst q; rw [hEi]; simp
        · rw [hafter k r' hk (conf_of_r (x := 2 * t) ht (by rw [hd']; exact mem_wrN_d)) q]; simp; omega
      · rw [(runE_blk _ id rs 0 S).1, (runE_blk _ id rs 0 S).2, (runE_blk _ id rs 0 S).1, (runE_blk _ id rs 0 S).2]
        have hEq : lastB (fun i => E.getD i true) id 0 rs = lastB (fun k => decide (k < 0 + i)) id 0 rs := by
          refine lastB_congr (fun k r' hk hd' => ?_)
          obtain ⟨x, hd'⟩ := hd'
          simp only [Nat.zero_add]
          rcases Nat.lt_trichotomy k i with q | q | q
          · rw [hbefore k r' hk (conf_of_w (x := 2 * id + 1) (mem_wrN_b hd') (.inl hid)) q]; simp [q]
          · subst q; rw [hEi]; simp
          · rw [hafter k r' hk (conf_of_r (x := 2 * id + 1) hid (mem_wrN_b hd')) q]; simp; omega
        rw [hEq]; exact ⟨rfl, rfl⟩
    have hstate : runE (fun j => (E.setIfInBounds i true).getD j true) 0 S rs = (runE (fun i => E.getD i true) 0 S rs).app ops[i].dst r.c r.b := by
      have hnew : ∀ k, (E.setIfInBounds i true).getD k true = if k = i then true else E.getD k true := by
        intro k
        by_cases hk : k = i
        · subst hk; simp [Array.getD_eq_getD_getElem?, h1, his]
        · simp [Array.getD_eq_getD_getElem?, Array.getElem?_setIfInBounds_ne (Ne.symm hk), hk]
      rw [← hd]
      refine St.ext' (fun t => ?_) (fun id => ?_)
      · rw [runE_get, St.app_get]
        by_cases ht : r.d = some t
        · rw [lastG_at (j := i) hrr ht (by simp only [Nat.zero_add]; rw [hnew]; simp) (fun k r' hk hd' hik => by
            simp only [Nat.zero_add]
            rw [hnew, if_neg (by omega)]
            exact hafter k r' hk (conf_of_w (x := 2 * t) (by rw [ht]; exact mem_wrN_d) (.inr (by rw [hd']; exact mem_wrN_d))) hik)]
          rw [ht, St.put_get]; simp
        · rw [lastG_congr (E' := fun i => E.getD i true) (fun k r' hk hd' => by
            simp only [Nat.zero_add]
            rw [hnew, if_neg (fun e => by subst e; rw [hrr] at hk; cases hk; exact ht hd')])]
          cases hdd : r.d with
          | none => simp only [St.put]; rw [runE_get]
          | some d =>
            rw [St.put_get, if_neg (fun e => ht (by rw [hdd, e])), runE_get]
      · rw [(runE_blk _ id rs 0 S).1, (runE_blk _ id rs 0 S).2, St.app_blk, St.app_ver]
        cases hb : ub r.b id with
        | some x =>
          rw [lastB_at (j := i) hrr hb (by simp only [Nat.zero_add]; rw [hnew]; simp) (fun k r' hk hd' hik => by
            simp only [Nat.zero_add]
            rw [hnew, if_neg (by omega)]
            obtain ⟨x', hd'⟩ := hd'
            exact hafter k r' hk (conf_of_w (x := 2 * id + 1) (mem_wrN_b hb) (.inr (mem_wrN_b hd'))) hik)]
          exact ⟨rfl, rfl⟩
        | none =>
          rw [lastB_congr (E' := fun i => E.getD i true) (fun k r' hk hd' => by
              simp only [Nat.zero_add]
              rw [hnew, if_neg (fun e => by subst e; rw [hrr] at hk; cases hk; obtain ⟨x, hx⟩ := hd'; rw [hb] at hx; cases hx)]), (runE_blk _ id rs 0 S).1, (runE_blk _ id rs 0 S).2]
          exact ⟨rfl, rfl⟩
    have hex := hop.run C _ hagree a w hr
    rw [← hstate] at hex
    have hnext : ∀ a w, R C n (runE (fun j => (E.setIfInBounds i true).getD j true) 0 S rs) a w → wpAny P .any ops K fuel (E.setIfInBounds i true) a w := by
      refine ih _ (by simp [h1]) ?_ ?_
      · intro j o hj hjE e he hbb
        by_cases hji : j = i
        · subst hji
          rw [Array.getElem?_eq_getElem his] at hj; cases hj
          have := hin e he
          simp only [hbb, Bool.not_true, Bool.false_or] at this
          by_cases hei : e.on = j
          · rw [hei]; simp [Array.getD_eq_getD_getElem?, h1, his]
          · simp only [Array.getD_eq_getD_getElem?, Array.getElem?_setIfInBounds_ne (Ne.symm hei)]
            simpa [Array.getD_eq_getD_getElem?] using this
        · have := h2 j o hj (by simpa [Array.getD_eq_getD_getElem?, Array.getElem?_setIfInBounds_ne (Ne.symm hji)] using hjE) e he hbb
          by_cases hei : e.on = i
          · rw [hei]; simp [Array.getD_eq_getD_getElem?, h1, his]
          · simpa [Array.getD_eq_getD_getElem?, Array.getElem?_setIfInBounds_ne (Ne.symm hei)] using this
      · have hcount : ((List.range ops.size).filter fun k => E.getD k true).length < ((List.range ops.size).filter fun k => (E.setIfInBounds i true).getD k true).length := by
          rw [← List.countP_eq_length_filter, ← List.countP_eq_length_filter]
          have key : ∀ (l : List Nat), i ∈ l → l.Nodup → List.countP (fun k => E.getD k true) l < List.countP (fun k => (E.setIfInBounds i true).getD k true) l := by
            intro l hm _
            induction l with
            | nil => simp at hm
            | cons x l ihl =>
              have hx : ∀ k, (E.setIfInBounds i true).getD k true = if k = i then true else E.getD k true := by
                intro k
                by_cases hk : k = i
                · subst hk; simp [Array.getD_eq_getD_getElem?, h1, his]
                · simp [Array.getD_eq_getD_getElem?, Array.getElem?_setIfInBounds_ne (Ne.symm hk), hk]
              have hle : ∀ (m : List Nat), List.countP (fun k => E.getD k true) m ≤ List.countP (fun k => (E.setIfInBounds i true).getD k true) m := by
                intro m
                refine List.countP_mono_left (fun k _ hk => ?_)
                rw [hx]; split
                · rfl
                · exact hk
              rw [List.countP_cons, List.countP_cons]
              by_cases hxi : x = i
              · subst hxi
                have := hle l
                rw [hEi, hx x, if_pos rfl]
                simp only [if_true, Bool.false_eq_true, if_false]
                omega
              · have hm' : i ∈ l := by
                  rcases List.mem_cons.1 hm with q | q
                  · exact absurd q.symm hxi
                  · exact q
                have := ihl hm' (by rename_i hnd; exact (List.nodup_cons.1 hnd).2)
                rw [hx x, if_neg hxi]; omega
          exact key _ hi1 List.nodup_range
        omega
    unfold wpOp
    rw [Array.getElem?_eq_getElem his]
    unfold Exec at hex
    simp only
    split
    · rename_i hw
      rw [if_pos hw] at hex
      exact .inl (Oper.wp_monoQ hnext (fun _ _ _ h => h.elim) hex)
    · rename_i hw
      rw [if_neg hw] at hex
      exact hnext _ _ hex
end
end Go.Proofs.Ytnpognmpgddncaa
