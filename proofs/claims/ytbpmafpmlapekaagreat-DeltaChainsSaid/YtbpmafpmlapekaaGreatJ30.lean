/- Texts joined: VsP KnP. -/
import Derived.Test.YtbpmafpmlapekaaGreatJ23
import Derived.Test.YtbpmafpmlapekaaGreatJ29
namespace Go.Proofs.YtbpmafpmlapekaaGreat
open Go.RowKit
theorem knsOk_init {l : List Kn} {k : Kn} (h : knsOk (l ++ [k])) : knsOk l := fun i hi hi' => by
  have h1 := h i (by simp; omega) (by simp; omega)
  have e1 : (l ++ [k])[i]'(by simp; omega) = l[i] := List.getElem_append_left hi
  rw [e1] at h1
  refine ⟨h1.1, h1.2.1, h1.2.2.1, h1.2.2.2.1, fun q => ?_⟩
  have := h1.2.2.2.2 q
  rw [List.getElem_append_left (by omega)] at this
  exact this
theorem knsOk_last {l : List Kn} {k : Kn} (h : knsOk (l ++ [k])) : ∀ (d i : Nat) (hi : i < l.length) (_ : i + d + 1 = l.length), l[i].rep < k.rep := by
  intro d
  induction d with
  | zero =>
    intro i hi hd
    have := (h (i + 1) (by simp; omega) (by simp; omega)).2.2.2.2 (by omega)
    simp only [Nat.add_sub_cancel] at this
    rw [List.getElem_append_left hi, List.getElem_append_right (by omega)] at this
    simpa using this
  | succ d ihd =>
    intro i hi hd
    have := (h (i + 1) (by simp; omega) (by simp; omega)).2.2.2.2 (by omega)
    simp only [Nat.add_sub_cancel] at this
    rw [List.getElem_append_left hi, List.getElem_append_left (by omega)] at this
    have := ihd (i + 1) (by omega) (by omega)
    omega
theorem tabAt_none {l : List Kn} {r : Nat} (h : ∀ x ∈ l, x.rep ≠ (r : Int) + 1) : tabAt l r = [] := by
  unfold tabAt
  rw [List.flatMap_eq_nil_iff]
  intro x hx
  rw [if_neg (h x hx)]
theorem setFrom_nils : ∀ (T : List (List Rn)) (i : Nat), (∀ l ∈ T, l = []) → setFrom id i T = [] := by
  intro T
  induction T with
  | nil => intro i _; rfl
  | cons l T ih =>
    intro i h
    have := h l List.mem_cons_self
    subst this
    rw [setFrom, ih _ (fun l hl => h l (List.mem_cons_of_mem _ hl))]
    rfl
theorem vsOf_right (s : List Kn) (h : knsOk s) : vsOf id s = s := by
  induction s using snoc_ind with
  | h0 => exact setFrom_nils _ _ (fun l hl => by
      obtain ⟨r, _, rfl⟩ := List.mem_map.1 hl
      rfl)
  | h1 l k ih =>
    have hl := knsOk_init h
    have ih := ih hl
    obtain ⟨a1, a2, a3, a4⟩ := knsOk_get h (i := l.length) (by simp)
    rw [show (l ++ [k])[l.length]'(by simp) = k by simp] at a1 a2 a3 a4
    obtain ⟨r, hr⟩ : ∃ r : Nat, k.rep = (r : Int) + 1 := ⟨(k.rep - 1).toNat, by omega⟩
    have hlt : ∀ x ∈ l, x.rep < k.rep := fun x hx => by
      obtain ⟨i, hi, rfl⟩ := List.getElem_of_mem hx
      exact knsOk_last h (l.length - 1 - i) i hi (by omega)
    have hn : ∀ j, r ≤ j → tabAt l j = [] := fun j hj => tabAt_none (fun x hx => by have := hlt x hx; omega)
    have hr16 : r < 16 := by omega
    unfold vsOf at ih ⊢
    rw [tabOf_in l k hr16 hr, hn r (Nat.le_refl _), List.nil_append]
    have hsp : tabOf l = (tabOf l).take r ++ ([] :: (tabOf l).drop (r + 1)) := by
      have hg := tabOf_get l hr16
      rw [hn r (Nat.le_refl _)] at hg
      obtain ⟨hlen, hg⟩ := List.getElem?_eq_some_iff.1 hg
      conv => lhs; rw [← List.take_append_drop r (tabOf l), List.drop_eq_getElem_cons hlen, hg]
    have hlen : ((tabOf l).take r).length = r := by rw [List.length_take, tabOf_len]; omega
    have hnil : ∀ x ∈ (tabOf l).drop (r + 1), x = [] := fun x hx => by
      obtain ⟨i, hi, rfl⟩ := List.getElem_of_mem hx
      rw [List.getElem_drop]
      have hi' : r + 1 + i < 16 := by rw [List.length_drop, tabOf_len] at hi; omega
      have := tabOf_get l hi'
      obtain ⟨_, hg⟩ := List.getElem?_eq_some_iff.1 this
      rw [hg]; exact hn _ (by omega)
    rw [hsp, setFrom_app, hlen] at ih
    rw [setFrom, setFrom_nils _ _ hnil] at ih
    rw [List.set_eq_take_append_cons_drop, if_pos (by rw [tabOf_len]; exact hr16), setFrom_app, hlen, setFrom, setFrom_nils _ _ hnil, Nat.zero_add]
    rw [show (if (id ([] : List Rn)).length = 0 then ([] : List Kn) else [⟨((0 + r : Nat) : Int) + 1, id []⟩]) = [] from rfl, List.append_nil, List.append_nil] at ih
    rw [ih, if_neg (by simpa using a3), List.append_nil]
    congr 1
    rw [show id k.runs = k.runs from rfl, ← hr]
theorem knsTot_few {s : List Kn} (h : knsOk s) (hf : fewS s) : knsTot s := by
  have h16 := knsOk_len h
  refine ⟨by omega, ?_⟩
  have : ∀ l : List Kn, (∀ k ∈ l, k.runs.length ≤ 4096) → (l.flatMap Kn.runs).length ≤ 4096 * l.length := by
    intro l
    induction l with
    | nil => intro _; simp
    | cons x l ih =>
      intro h
      have h1 := h x List.mem_cons_self
      have h2 := ih (fun y hy => h y (List.mem_cons_of_mem _ hy))
      rw [List.flatMap_cons, List.length_append, List.length_cons]; omega
  have := this s hf
  omega
section
set_option maxRecDepth 10000
set_option maxHeartbeats 8000000
theorem vs_Of_ok (s : List Kn) (hs : knsTot s) (h : knsOk s) : Fn Tryz.prog 70 [knsB s] (.own 64 2 (s.map knP)) := by
  have h1 := vs_Of id s hs (fun l hl => by
    have hok := tab_rnsOk h l hl
    obtain ⟨r, _, rfl⟩ := List.mem_map.1 hl
    exact cnt_Of_ok _ (by have := tabAt_len s r; have := hs.2; omega) hok)
  rw [vsOf_right s h] at h1
  exact h1
theorem vs_Same_ok (a b : List Kn) (ha : knsTot a) (hb : knsTot b) (h : knsOk a) (h' : knsOk b) : Fn Tryz.prog 37 [knsB a, knsB b] (boR (decide (a = b))) :=
  vs_Same a b a b (vs_Of_ok a ha h) (vs_Of_ok b hb h') ha.sz
end
end Go.Proofs.YtbpmafpmlapekaaGreat
namespace Go.Proofs.YtbpmafpmlapekaaGreat
/-! ### sets -/
theorem knsOk_nil : knsOk [] := fun i hi => by simp at hi
theorem knsOk_cons (k : Kn) (l : List Kn) : knsOk (k :: l) ↔ (1 ≤ k.rep ∧ k.rep ≤ 16 ∧ k.runs ≠ [] ∧ rnsOk k.runs) ∧ (∀ q, l.head? = some q → k.rep < q.rep) ∧ knsOk l := by
  constructor
  · intro h
    have h0 := h 0 (by simp) (by simp)
    refine ⟨⟨h0.1, h0.2.1, h0.2.2.1, h0.2.2.2.1⟩, fun q hq => ?_, fun i hi hi' => ?_⟩
    · cases l with
      | nil => cases hq
      | cons z l =>
        cases hq
        exact (h 1 (by simp) (by simp)).2.2.2.2 (by omega)
    · have h1 := h (i + 1) (by simpa using hi) (by simpa using hi)
      simp only [List.getElem_cons_succ, Nat.add_sub_cancel] at h1
      refine ⟨h1.1, h1.2.1, h1.2.2.1, h1.2.2.2.1, fun h0 => ?_⟩
      have h2 := h1.2.2.2.2 (by omega)
      obtain ⟨j, rfl⟩ : ∃ j, i = j + 1 := ⟨i - 1, by omega⟩
      exact h2
  · rintro ⟨⟨h1, h2, h2', h2''⟩, h3, h4⟩ i hi hi'
    cases i with
    | zero => exact ⟨h1, h2, h2', h2'', fun q => absurd q (Nat.lt_irrefl _)⟩
    | succ i =>
      have h5 := h4 i (by simpa using hi) (by simpa using hi)
      simp only [List.getElem_cons_succ, Nat.add_sub_cancel]
      refine ⟨h5.1, h5.2.1, h5.2.2.1, h5.2.2.2.1, fun _ => ?_⟩
      cases i with
      | zero =>
        cases l with
        | nil => simp at hi
        | cons z l => exact h3 z rfl
      | succ i => exact h5.2.2.2.2 (by omega)
theorem setFrom_ok : ∀ (T : List (List Rn)) (i : Nat), i + T.length ≤ 16 → knsOk (setFrom ofR i T) ∧ ∀ q, (setFrom ofR i T).head? = some q → (i : Int) < q.rep := by
  intro T
  induction T with
  | nil => intro i _; exact ⟨knsOk_nil, fun q hq => by cases hq⟩
  | cons l T ih =>
    intro i hi
    rw [List.length_cons] at hi
    obtain ⟨h1, h2⟩ := ih (i + 1) (by omega)
    rw [setFrom]
    by_cases c : (ofR l).length = 0
    · rw [if_pos c, List.nil_append]
      exact ⟨h1, fun q hq => by have := h2 q hq; omega⟩
    · rw [if_neg c]
      refine ⟨(knsOk_cons _ _).2 ⟨⟨by simp only; omega, by simp only; omega, fun e => c (by simp only at e; rw [e]; rfl), ofR_ok l⟩, fun q hq => ?_, h1⟩, fun q hq => ?_⟩
      · have := h2 q hq; simp only; omega
      · cases hq; simp only; omega
theorem vsOf_ok (s : List Kn) : knsOk (vsOf ofR s) := (setFrom_ok _ 0 (by rw [tabOf_len]; omega)).1
theorem setFrom_id : ∀ (T : List (List Rn)) (i : Nat), (∀ l ∈ T, rnsOk l) → setFrom ofR i T = setFrom id i T := by
  intro T
  induction T with
  | nil => intro i _; rfl
  | cons l T ih =>
    intro i h
    rw [setFrom, setFrom, ofR_id (h l (by simp)), ih _ (fun l hl => h l (List.mem_cons_of_mem _ hl))]
    rfl
theorem vsOf_id {s : List Kn} (h : knsOk s) : vsOf ofR s = s := by
  have := vsOf_right s h
  unfold vsOf at this ⊢
  rw [setFrom_id _ _ (tab_rnsOk h)]
  exact this
/-- what a table's set has of a replica -/
theorem tabAt_from : ∀ (T : List (List Rn)) (i r : Nat), tabAt (setFrom ofR i T) r = if h : i ≤ r ∧ r - i < T.length then ofR (T[r - i]'h.2) else [] := by
  intro T
  induction T with
  | nil => intro i r; rw [dif_neg (by simp)]; rfl
  | cons l T ih =>
    intro i r
    rw [setFrom]
    have happ : ∀ a b : List Kn, tabAt (a ++ b) r = tabAt a r ++ tabAt b r := fun a b => by unfold tabAt; rw [List.flatMap_append]
    rw [happ, ih]
    have hhead : tabAt (if (ofR l).length = 0 then [] else [⟨(i : Int) + 1, ofR l⟩]) r = if i = r then ofR l else [] := by
      by_cases c : (ofR l).length = 0
      · rw [if_pos c]
        split
        · exact (List.eq_nil_of_length_eq_zero c).symm
        · rfl
      · rw [if_neg c]
        unfold tabAt
        simp only [List.flatMap_cons, List.flatMap_nil, List.append_nil]
        by_cases e : i = r
        · rw [if_pos (by omega), if_pos e]
        · rw [if_neg (by omega), if_neg e]
    rw [hhead]
    by_cases e : i = r
    · subst e
      rw [if_pos rfl, dif_neg (by omega), List.append_nil, dif_pos ⟨Nat.le_refl _, by simp⟩]
      simp
    · rw [if_neg e, List.nil_append]
      by_cases c : i + 1 ≤ r ∧ r - (i + 1) < T.length
      · rw [dif_pos c, dif_pos ⟨by omega, by rw [List.length_cons]; omega⟩]
        obtain ⟨d, hd⟩ : ∃ d, r - i = d + 1 := ⟨r - i - 1, by omega⟩
        have hd' : r - (i + 1) = d := by omega
        simp only [hd, hd', List.getElem_cons_succ]
      · rw [dif_neg c, dif_neg (by rw [List.length_cons]; omega)]
theorem tabOf_vsOf (s : List Kn) : tabOf (vsOf ofR s) = (tabOf s).map ofR := by
  apply List.ext_getElem?
  intro i
  by_cases hi : i < 16
  · have hT := tabOf_len s
    rw [tabOf_get _ hi, List.getElem?_map, tabOf_get _ hi]
    unfold vsOf
    rw [tabAt_from, dif_pos ⟨Nat.zero_le _, by omega⟩]
    have := tabOf_get s hi
    obtain ⟨h1, h2⟩ := List.getElem?_eq_some_iff.1 this
    simp only [Nat.sub_zero, h2, Option.map_some]
  · rw [List.getElem?_eq_none (by rw [tabOf_len]; omega), List.getElem?_eq_none (by rw [List.length_map, tabOf_len]; omega)]
/-- two sets, replica by replica -/
def mkSet (g : List Rn → List Rn → List Rn) (a b : List Kn) : List Kn := setFrom id 0 (List.zipWith g (tabOf a) (tabOf b))
def orR (a b : List Rn) : List Rn := opR (byR (fun x y => x || y) a b) a b
theorem orR_eq (a b : List Rn) : orR a b = ofR (a ++ b) := opR_or a b
theorem setFrom_map : ∀ (T : List (List Rn)) (i : Nat), setFrom id i (T.map ofR) = setFrom ofR i T := by
  intro T
  induction T with
  | nil => intro i; rfl
  | cons l T ih => intro i; rw [List.map_cons, setFrom, setFrom, ih]; rfl
theorem tabOf_app (a b : List Kn) : tabOf (a ++ b) = List.zipWith (· ++ ·) (tabOf a) (tabOf b) := by
  apply List.ext_getElem?
  intro i
  by_cases hi : i < 16
  · rw [tabOf_get _ hi, List.getElem?_zipWith, tabOf_get _ hi, tabOf_get _ hi]
    simp only
    unfold tabAt
    rw [List.flatMap_append]
  · rw [List.getElem?_eq_none (by rw [tabOf_len]; omega), List.getElem?_eq_none (by rw [List.length_zipWith, tabOf_len, tabOf_len]; omega)]
theorem zip_congr {g h : List Rn → List Rn → List Rn} : ∀ (T U : List (List Rn)), (∀ t u, t ∈ T → u ∈ U → g t u = h t u) → List.zipWith g T U = List.zipWith h T U := by
  intro T
  induction T with
  | nil => intro U _; rfl
  | cons t T ih =>
    intro U hh
    cases U with
    | nil => rfl
    | cons u U =>
      rw [List.zipWith_cons_cons, List.zipWith_cons_cons, hh t u (by simp) (by simp), ih U (fun t u a b => hh t u (List.mem_cons_of_mem _ a) (List.mem_cons_of_mem _ b))]
/-- joined set by set, or made right at once -/
theorem mkSet_or (X Y : List Kn) : mkSet orR (vsOf ofR X) (vsOf ofR Y) = vsOf ofR (X ++ Y) := by
  unfold mkSet
  rw [tabOf_vsOf, tabOf_vsOf, List.zipWith_map]
  unfold vsOf
  rw [tabOf_app, ← setFrom_map, List.map_zipWith]
  congr 1
  refine zip_congr _ _ (fun t u _ _ => ?_)
  rw [orR_eq]
  exact ofR_cong (fun n => by rw [hasR_app, hasR_app, ofR_has, ofR_has])
theorem mkSet_nil (X : List Kn) : mkSet orR (vsOf ofR X) [] = vsOf ofR X := by
  have := mkSet_or X []
  rw [List.append_nil] at this
  exact this
/-! ### what is known of a text -/
def atK (k : List Pc) (s : ByteArray) : List Kn := vsOf ofR (k.flatMap fun p => if rgHas p.rg s then p.set else [])
theorem atK_ok (k : List Pc) (s : ByteArray) : knsOk (atK k s) := vsOf_ok _
theorem atK_app (a b : List Pc) (s : ByteArray) : mkSet orR (atK a s) (atK b s) = atK (a ++ b) s := by
  unfold atK
  rw [mkSet_or, List.flatMap_append]
theorem atK_nil (a : List Pc) (s : ByteArray) : mkSet orR (atK a s) (atK [] s) = atK a s := by rw [atK_app, List.append_nil]
theorem flat_none {k : List Pc} {s : ByteArray} (h : ∀ p ∈ k, rgHas p.rg s = false) : (k.flatMap fun p => if rgHas p.rg s then p.set else []) = [] := by
  rw [List.flatMap_eq_nil_iff]
  intro p hp
  rw [h p hp]; rfl
theorem flat_getK {k : List Pc} (h : pcsOk k) (s : ByteArray) : (k.flatMap fun p => if rgHas p.rg s then p.set else []) = getK k s := by
  induction k with
  | nil => rfl
  | cons p k ih =>
    obtain ⟨⟨hp, _, _⟩, _, hk⟩ := (pcsOk_cons _ _).1 h
    rw [List.flatMap_cons, ih hk]
    by_cases c : rgHas p.rg s = true
    · rw [if_pos c, getK_in c]
      have : getK k s = [] := by
        refine Classical.byContradiction fun z => ?_
        obtain ⟨x, y⟩ := pcsOk_low h z
        rcases ((rgHas_iff hp s).1 c).2 with w | w
        · rw [x] at w; cases w
        · grind
      rw [this, List.append_nil]
    · rw [if_neg c, List.nil_append, getK_out c]
theorem getK_ok {k : List Pc} (h : pcsOk k) (s : ByteArray) : knsOk (getK k s) := by
  induction k with
  | nil => exact knsOk_nil
  | cons p k ih =>
    obtain ⟨⟨_, _, h3⟩, _, hk⟩ := (pcsOk_cons _ _).1 h
    rw [getK]
    split
    · exact h3
    · exact ih hk
theorem atK_get {k : List Pc} (h : pcsOk k) (s : ByteArray) : atK k s = getK k s := by
  unfold atK
  rw [flat_getK h, vsOf_id (getK_ok h s)]
/-! ### edges -/
def rgsOf (k : List Pc) : List Rg := k.map Pc.rg
def edgK (k : List Pc) : List ByteArray := edgT [emB] (rgsOf k)
theorem edgK_up (k : List Pc) : upT (edgK k) := edgT_up _ _ (by simp)
theorem edgK_em (k : List Pc) : emB ∈ edgK k := (edgT_mem _ _ _).2 (.inl (by simp))
theorem edgK_ok (k : List Pc) : edgOk (edgK k) := fun m hm => by
  rcases (edgT_mem _ _ _).1 hm with h | ⟨r, _, h1, h2⟩
  · have h : m = emB := by simpa using h
    rw [h]; decide
  · have := (rgR_iff r).1 h1
    rcases h2 with h2 | ⟨_, h2⟩ <;> rw [h2]
    · exact this.1
    · exact this.2.1
theorem rgHas_mid {r : Rg} {e n : ByteArray} (hen : e ≤ n) (h : ∀ m, isEdge r m → m ≤ e ∨ n < m) : rgHas r e = rgHas r n := by
  cases c : rgR r with
  | false => unfold rgHas; rw [c]; rfl
  | true =>
    rw [Bool.eq_iff_iff, rgHas_iff c, rgHas_iff c]
    have h1 := h r.lo ⟨c, .inl rfl⟩
    cases o : r.op with
    | true =>
      constructor
      · rintro ⟨a, _⟩; exact ⟨by grind, .inl rfl⟩
      · rintro ⟨a, _⟩; exact ⟨by grind, .inl rfl⟩
    | false =>
      have h2 := h r.hi ⟨c, .inr ⟨o, rfl⟩⟩
      constructor
      · rintro ⟨a, b | b⟩
        · cases b
        · exact ⟨by grind, .inr (by grind)⟩
      · rintro ⟨a, b | b⟩
        · cases b
        · exact ⟨by grind, .inr (by grind)⟩
theorem atK_mid {k : List Pc} {e n : ByteArray} (hen : e ≤ n) (h : ∀ p ∈ k, ∀ m, isEdge p.rg m → m ≤ e ∨ n < m) : atK k e = atK k n := by
  unfold atK
  congr 1
  rw [List.flatMap_def, List.flatMap_def]
  congr 1
  exact List.map_congr_left fun p hp => by rw [rgHas_mid hen (h p hp)]
theorem edgK_isEdge {k : List Pc} {p : Pc} (hp : p ∈ k) {m : ByteArray} (h : isEdge p.rg m) : m ∈ edgK k := (edgT_mem _ _ _).2 (.inr ⟨p.rg, List.mem_map_of_mem hp, h⟩)
/-! ### made right, joined, less -/
def ofK (k : List Pc) : List Pc := bldK (atK k) (edgK k)
theorem ofK_cst (k : List Pc) : CstT (atK k) (edgK k) := fun _ _ hen h => atK_mid hen (fun _ hp m hm => h m (edgK_isEdge hp hm))
theorem ofK_ok (k : List Pc) : pcsOk (ofK k) ∧ ∀ s, getK (ofK k) s = atK k s := bldK_ok (atK_ok k) (edgK_up k) (edgK_ok k) (edgK_em k) (ofK_cst k)
theorem ofK_id {k : List Pc} (h : pcsOk k) : ofK k = k := bldK_eq (atK_ok k) (edgK_up k) (edgK_ok k) (edgK_em k) (ofK_cst k) h (fun s => (atK_get h s).symm)
end Go.Proofs.YtbpmafpmlapekaaGreat
