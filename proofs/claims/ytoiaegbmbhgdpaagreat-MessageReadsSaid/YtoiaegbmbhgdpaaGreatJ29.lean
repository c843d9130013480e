/- Texts joined: AbsO. -/
import Derived.Test.YtoiaegbmbhgdpaaGreatJ09
namespace Go.Proofs.YtoiaegbmbhgdpaaGreat
open Go.RowKit
/-! ### owned things -/
/-- what is owned, as one who only reads sees it -/
def Lends (O : OV) (A : PV) : Prop := ∀ {F N N' : BP} {w : World} {v : Value}, O.p F N w v → (∀ b, F b → b < w.heap.size ∧ ¬ N' b) → (∀ b, N' b → N b) → A.p N' w v
inductive LendsL : List OV → List PV → Prop
  | nil : LendsL [] []
  | cons {O : OV} {A : PV} {l : List OV} {l' : List PV} (h : Lends O A) (k : LendsL l l') : LendsL (O :: l) (A :: l')
theorem LendsL.get {l : List OV} {l' : List PV} (h : LendsL l l') : l'.length = l.length ∧ ∀ (j : Nat) (O : OV) (A : PV), l[j]? = some O → l'[j]? = some A → Lends O A := by
  induction h with
  | nil => exact ⟨rfl, fun j O A h => by simp at h⟩
  | cons h k ih =>
    refine ⟨by simp [ih.1], fun j O' A' h1 h2 => ?_⟩
    cases j with
    | zero => simp at h1 h2; subst h1; subst h2; exact h
    | succ j => exact ih.2 j O' A' (by simpa using h1) (by simpa using h2)
/-! ### cells of what is unfolded -/
inductive UC where
  | p (A : PV) (h : OneP A)
  | o (id : Nat) (O : OV)
def UC.cell (vr : Nat → Nat) : UC → Cnt
  | .p A _ => .per A
  | .o id _ => .row id (vr id)
def memN (i : Nat) : List Nat → Bool
  | [] => false
  | j :: l => bif Nat.beq i j then true else memN i l
theorem memN_iff {i : Nat} {l : List Nat} : memN i l = true ↔ i ∈ l := by
  induction l with
  | nil => simp [memN]
  | cons j l ih =>
    unfold memN
    cases hb : Nat.beq i j with
    | true => simp [nbeq_true.1 hb]
    | false =>
      have : i ≠ j := fun e => by rw [nbeq_true.2 e] at hb; cases hb
      simp [ih, this]
section
variable {P : Program} {n : Nat} {S : St} {C : Ctx} {g g' : Gh} {w w' : World} {I : Nat → Prop}
/-! ### unfolded -/
/-! ### folded -/
/-- what is to be folded lies ready -/
inductive ReadyU (S : St) : List UC → Prop
  | nil : ReadyU S []
  | p {A : PV} {h : OneP A} {l : List UC} (k : ReadyU S l) : ReadyU S (.p A h :: l)
  | o {i : Nat} {O : OV} {l : List UC} (h : S.blk i = .obj O) (k : ReadyU S l) : ReadyU S (.o i O :: l)
theorem ReadyU.get {us : List UC} (h : ReadyU S us) {j i : Nat} {O : OV} (hj : us[j]? = some (.o i O)) : S.blk i = .obj O := by
  induction h generalizing j with
  | nil => simp at hj
  | p k ih => cases j with
    | zero => simp at hj
    | succ j => exact ih (by simpa using hj)
  | o h k ih => cases j with
    | zero => simp at hj; obtain ⟨rfl, rfl⟩ := hj; exact h
    | succ j => exact ih (by simpa using hj)
end

/-! ### lent to readers -/
/-- a content that means the same whatever blocks may be turned -/
class AbsP (A : PV) : Prop where
  h : ∀ {N N' : BP} {w : World} {v : Value}, A.p N w v → A.p N' w v
instance {v : Value} : AbsP (rawP v) := ⟨fun h => h⟩
class AbsL (l : List PV) : Prop where
  h : ∀ A ∈ l, AbsP A
instance : AbsL [] := ⟨fun _ h => by simp at h⟩
instance {A : PV} {l : List PV} [h : AbsP A] [k : AbsL l] : AbsL (A :: l) := ⟨fun B hB => by
  rcases List.mem_cons.1 hB with e | e
  · subst e; exact h
  · exact k.h B e⟩
instance {l : List PV} [k : AbsL l] : AbsP (aggP l) := ⟨fun ⟨vs, e, h1, h2⟩ => ⟨vs, e, h1, fun j A hj => let ⟨y, q1, q2, q3⟩ := h2 j A hj; ⟨y, q1, q2, (k.h A (List.mem_of_getElem? hj)).h q3⟩⟩⟩
class AbsR (r : Ret) : Prop where
  h : ∀ {N N' : BP} {w w' : World} {v : Value}, r.rep N w w' v → r.rep N' w w' v
instance {A : PV} [h : AbsP A] : AbsR (.per A) := ⟨fun q => h.h q⟩
instance {c d : Ret} [h : AbsR c] [k : AbsR d] : AbsR (.tup2 c d) := ⟨fun ⟨x, y, e, h1, h2⟩ => ⟨x, y, e, h.h h1, k.h h2⟩⟩
class AbsE (es : List (List PV)) : Prop where
  h : ∀ ps ∈ es, AbsL ps
instance {α : Type} {f : α → List PV} {l : List α} [h : ∀ x, AbsL (f x)] : AbsE (l.map f) := ⟨fun ps hp => by
  obtain ⟨x, _, rfl⟩ := List.mem_map.1 hp
  exact h x⟩
instance {e k : Nat} {es : List (List PV)} [h : AbsE es] : AbsR (.own e k es) := ⟨fun q => by
  rcases q with q | ⟨q, cap, cs, h1, h2, h3, h4, h5, h6, h7⟩
  · exact .inl q
  · exact .inr ⟨q, cap, cs, h1, h2, h3, h4, h5, h6, fun i ps hi => ⟨(h7 i ps hi).1, fun j A hj => let ⟨y, q1, q2, q3⟩ := (h7 i ps hi).2 j A hj; ⟨y, q1, q2, ((h.h ps (List.mem_of_getElem? hi)).h A (List.mem_of_getElem? hj)).h q3⟩⟩⟩⟩
section
variable {P : Program} {n : Nat} {ops : Array Oper} {o : Oper} {F : List Nat} {S T : St} {C : Ctx} {g : Gh} {a : Act} {w w' : World} {t : Nat}
/-- the blocks that a reader must not see turned, without what is lent to it -/
def lessN (C : Ctx) (g : Gh) (w : World) (ids : List Nat) : BP := fun b => b < w.heap.size ∧ g.N C b ∧ ∀ i ∈ ids, g.ow b ≠ some i
def GivesP (F : List Nat) (S : St) (ids : List Nat) (x : Operand) (c : Cnt) : Prop := ∀ (n : Nat) (C : Ctx) (T : St) (g : Gh) (a : Act) (w : World), Agree F T S → RG C n T g a w →
  crep ⟨w, lessN C g w ids, fun _ => False, g0⟩ (fun _ => 0) g0 w (a.eval x) c
theorem nnL {ids : List Nat} {b : Nat} (h : (g0.N ⟨w, lessN C g w ids, fun _ => False, g0⟩) b) : lessN C g w ids b := by
  rcases h with h | h
  · exact h
  · exact absurd rfl h
/-- what a content says to a reader -/
inductive Sees (S : St) (ids : List Nat) : Cnt → PV → Prop
  | per {A : PV} : Sees S ids (.per A) A
  | obj {id vr : Nat} {O : OV} {A : PV} (hv : S.ver id = vr) (hb : S.blk id = .obj O) (hl : Lends O A) (hi : memN id ids = true) : Sees S ids (.row id vr) A
  | row {id vr e k : Nat} {es : List (List PV)} (hv : S.ver id = vr) (hb : S.blk id = .row e k es) (hi : memN id ids = true) : Sees S ids (.row id vr) (lstP k es)
inductive SeesL (S : St) (ids : List Nat) : List Cnt → List PV → Prop
  | nil : SeesL S ids [] []
  | cons {c : Cnt} {A : PV} {l : List Cnt} {l' : List PV} (h : Sees S ids c A) (k : SeesL S ids l l') : SeesL S ids (c :: l) (A :: l')
theorem SeesL.get {ids : List Nat} {l : List Cnt} {l' : List PV} (h : SeesL S ids l l') : l'.length = l.length ∧ ∀ (j : Nat) (c : Cnt) (A : PV), l[j]? = some c → l'[j]? = some A → Sees S ids c A := by
  induction h with
  | nil => exact ⟨rfl, fun j O A h => by simp at h⟩
  | cons h k ih =>
    refine ⟨by simp [ih.1], fun j O' A' h1 h2 => ?_⟩
    cases j with
    | zero => simp at h1 h2; subst h1; subst h2; exact h
    | succ j => exact ih.2 j O' A' (by simpa using h1) (by simpa using h2)
theorem Sees.rep {ids : List Nat} {c : Cnt} {A : PV} (h : Sees S ids c A) (hA : Agree F T S) (hF : ∀ i ∈ ids, 2 * i + 1 ∈ F) (hR : RG C n T g a w) {v : Value} (hc : crep C T.ver g w v c) : A.p (lessN C g w ids) w v := by
  cases h with
  | per => exact A.mono (Nat.le_refl _) (fun _ _ _ => rfl) (fun b _ hb => hb.2.1) hc
  | @obj id vr O A hv hb hl hi =>
    have hF' := hF id (memN_iff.1 hi)
    have h1 := hR.blks id
    rw [(hA.2 id hF').1, hb] at h1
    rw [hc.2 (by rw [(hA.2 id hF').2, hv])]
    exact hl h1 (fun b hb => ⟨(hR.dom b id hb).1, fun q => q.2.2 id (memN_iff.1 hi) hb⟩) (fun b hb => hb.2.1)
  | @row id vr e k es hv hb hi =>
    have hF' := hF id (memN_iff.1 hi)
    have h1 := hR.blks id
    rw [(hA.2 id hF').1, hb] at h1
    rw [hc.2 (by rw [(hA.2 id hF').2, hv])]
    show lstAt _ _ k es w (g.rh id)
    rcases h1 with ⟨q1, rfl⟩ | ⟨cap, cs, q1, q2, q3, q4, q5, q6, q7⟩
    · exact ⟨none, 0, 0, 0, by rw [q1]; rfl, by simp, by decide, fun _ => rfl, by simp, fun i cs hi => by simp at hi⟩
    · refine ⟨_, cap, g.ph id, 0, q1, q4, q5, by simp, fun _ => ⟨rfl, (hR.dom _ _ q3).1, fun hn => hn.2.2 id (memN_iff.1 hi) q3⟩, fun i ps hi => ?_⟩
      obtain ⟨r1, r2⟩ := q7 i ps hi
      refine ⟨r1, fun j A hj => ?_⟩
      obtain ⟨y, s1, s2, s3⟩ := r2 j A hj
      exact ⟨y, by rw [Nat.zero_add, cell_at q2]; exact s1, s2, A.mono (Nat.le_refl _) (fun _ _ _ => rfl) (fun b _ hb => hb.2.1) s3⟩
inductive GivesPL (F : List Nat) (S : St) (ids : List Nat) : List Operand → List Cnt → Prop
  | nil : GivesPL F S ids [] []
  | cons {x : Operand} {c : Cnt} {xs : List Operand} {cs : List Cnt} (h : GivesP F S ids x c) (t : GivesPL F S ids xs cs) : GivesPL F S ids (x :: xs) (c :: cs)
theorem GivesPL.rep {ids : List Nat} {xs : List Operand} {cs : List Cnt} (h : GivesPL F S ids xs cs) (hA : Agree F T S) (hR : RG C n T g a w) : argsRep (lessN C g w ids) w (xs.map a.eval) cs := by
  induction h with
  | nil => exact ⟨rfl, fun i v c hi => by simp at hi⟩
  | cons h t ih =>
    refine ⟨by simp [ih.1], fun i v c hi hc => ?_⟩
    cases i with
    | zero =>
      simp at hi hc; subst hi; subst hc
      exact h n C T g a w hA hR
    | succ i => exact ih.2 i v c (by simpa using hi) (by simpa using hc)
theorem op_callP {ids : List Nat} {f : FuncId} {xs : List Operand} {As : List Cnt} {r : Ret} (hp : Pl n o t) (ho : isCall o f xs) (hf : Fn P f As r) (hpl : r.plain = true) (ha : AbsR r) (hg : GivesPL F S ids xs As) : OpOk n P ops o F (ansC t 0 r) [] S := by
  refine ⟨?_⟩
  intro C T hA a w ⟨g, hR⟩
  unfold Exec
  rw [if_pos (hp.wanted a)]
  refine callWp hf.ent ho (hf.run _ w (xs.map a.eval) (fun b h => h.1) (hg.rep hA hR)) ?_
  rintro v w' ⟨hx, hr⟩
  exact ⟨g, hR.app0 hx hp.dOk (ans_plain hR hpl (ha.h hr))⟩
end
end Go.Proofs.YtoiaegbmbhgdpaaGreat
