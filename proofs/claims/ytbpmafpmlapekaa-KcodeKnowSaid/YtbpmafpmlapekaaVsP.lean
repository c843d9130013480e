/- A right set is what its table says. -/
import Derived.Test.YtbpmafpmlapekaaVsW
namespace Go.Proofs.Ytbpmafpmlapekaa
open Go.RowKit
theorem knsOk_init {l : List Kn} {k : Kn} (h : knsOk (l ++ [k])) : knsOk l := fun i hi hi' => by
  have h1 := h i (by simp; omega) (by simp; omega)
  have e1 : (l ++ [k])[i]'(by simp; omega) = l[i] := List.getElem_append_left hi
  rw [e1] at h1
  refine ⟨h1.1, h1.2.1, h1.2.2.1, h1.2.2.2.1, fun q => ?_⟩
  have := h1.2.2.2.2 q
  rw [List.getElem_append_left (by omega)] at this
  exact this
theorem knsOk_last {l : List Kn} {k : Kn} (h : knsOk (l ++ [k])) : ∀ (d i : Nat) (hi : i < l.length) (_ : i + d + 1 = l.length), l[i].rep < k.rep := by
  intro d
  induction d with
  | zero =>
    intro i hi hd
    have := (h (i + 1) (by simp; omega) (by simp; omega)).2.2.2.2 (by omega)
    simp only [Nat.add_sub_cancel] at this
    rw [List.getElem_append_left hi, List.getElem_append_right (by omega)] at this
    simpa using this
  | succ d ihd =>
    intro i hi hd
    have := (h (i + 1) (by simp; omega) (by simp; omega)).2.2.2.2 (by omega)
    simp only [Nat.add_sub_cancel] at this
    rw [List.getElem_append_left hi, List.getElem_append_left (by omega)] at this
    have := ihd (i + 1) (by omega) (by omega)
    omega
theorem tabAt_none {l : List Kn} {r : Nat} (h : ∀ x ∈ l, x.rep ≠ (r : Int) + 1) : tabAt l r = [] := by
  unfold tabAt
  rw [List.flatMap_eq_nil_iff]
  intro x hx
  rw [if_neg (h x hx)]
theorem setFrom_nils : ∀ (T : List (List Rn)) (i : Nat), (∀ l ∈ T, l = []) → setFrom id i T = [] := by
  intro T
  induction T with
  | nil => intro i _; rfl
  | cons l T ih =>
    intro i h
    have := h l List.mem_cons_self
    subst this
    rw [setFrom, ih _ (fun l hl => h l (List.mem_cons_of_mem _ hl))]
    rfl
theorem vsOf_right (s : List Kn) (h : knsOk s) : vsOf id s = s := by
  induction s using snoc_ind with
  | h0 => exact setFrom_nils _ _ (fun l hl => by
      obtain ⟨r, _, rfl⟩ := List.mem_map.1 hl
      rfl)
  | h1 l k ih =>
    have hl := knsOk_init h
    have ih := ih hl
    obtain ⟨a1, a2, a3, a4⟩ := knsOk_get h (i := l.length) (by simp)
    rw [show (l ++ [k])[l.length]'(by simp) = k by simp] at a1 a2 a3 a4
    obtain ⟨r, hr⟩ : ∃ r : Nat, k.rep = (r : Int) + 1 := ⟨(k.rep - 1).toNat, by omega⟩
    have hlt : ∀ x ∈ l, x.rep < k.rep := fun x hx => by
      obtain ⟨i, hi, rfl⟩ := List.getElem_of_mem hx
      exact knsOk_last h (l.length - 1 - i) i hi (by omega)
    have hn : ∀ j, r ≤ j → tabAt l j = [] := fun j hj => tabAt_none (fun x hx => by have := hlt x hx; omega)
    have hr16 : r < 16 := by omega
    unfold vsOf at ih ⊢
    rw [tabOf_in l k hr16 hr, hn r (Nat.le_refl _), List.nil_append]
    have hsp : tabOf l = (tabOf l).take r ++ ([] :: (tabOf l).drop (r + 1)) := by
      have hg := tabOf_get l hr16
      rw [hn r (Nat.le_refl _)] at hg
      obtain ⟨hlen, hg⟩ := List.getElem?_eq_some_iff.1 hg
      conv => lhs; rw [← List.take_append_drop r (tabOf l), List.drop_eq_getElem_cons hlen, hg]
    have hlen : ((tabOf l).take r).length = r := by rw [List.length_take, tabOf_len]; omega
    have hnil : ∀ x ∈ (tabOf l).drop (r + 1), x = [] := fun x hx => by
      obtain ⟨i, hi, rfl⟩ := List.getElem_of_mem hx
      rw [List.getElem_drop]
      have hi' : r + 1 + i < 16 := by rw [List.length_drop, tabOf_len] at hi; omega
      have := tabOf_get l hi'
      obtain ⟨_, hg⟩ := List.getElem?_eq_some_iff.1 this
      rw [hg]; exact hn _ (by omega)
    rw [hsp, setFrom_app, hlen] at ih
    rw [setFrom, setFrom_nils _ _ hnil] at ih
    rw [List.set_eq_take_append_cons_drop, if_pos (by rw [tabOf_len]; exact hr16), setFrom_app, hlen, setFrom, setFrom_nils _ _ hnil, Nat.zero_add]
    rw [show (if (id ([] : List Rn)).length = 0 then ([] : List Kn) else [⟨((0 + r : Nat) : Int) + 1, id []⟩]) = [] from rfl, List.append_nil, List.append_nil] at ih
    rw [ih, if_neg (by simpa using a3), List.append_nil]
    congr 1
    rw [show id k.runs = k.runs from rfl, ← hr]
theorem knsTot_few {s : List Kn} (h : knsOk s) (hf : fewS s) : knsTot s := by
  have h16 := knsOk_len h
  refine ⟨by omega, ?_⟩
  have : ∀ l : List Kn, (∀ k ∈ l, k.runs.length ≤ 4096) → (l.flatMap Kn.runs).length ≤ 4096 * l.length := by
    intro l
    induction l with
    | nil => intro _; simp
    | cons x l ih =>
      intro h
      have h1 := h x List.mem_cons_self
      have h2 := ih (fun y hy => h y (List.mem_cons_of_mem _ hy))
      rw [List.flatMap_cons, List.length_append, List.length_cons]; omega
  have := this s hf
  omega
section
set_option maxRecDepth 10000
set_option maxHeartbeats 8000000
theorem vs_Of_ok (s : List Kn) (hs : knsTot s) (h : knsOk s) : Fn Try.prog 151 [knsB s] (.own 135 2 (s.map knP)) := by
  have h1 := vs_Of id s hs (fun l hl => by
    have hok := tab_rnsOk h l hl
    obtain ⟨r, _, rfl⟩ := List.mem_map.1 hl
    exact cnt_Of_ok _ (by have := tabAt_len s r; have := hs.2; omega) hok)
  rw [vsOf_right s h] at h1
  exact h1
theorem vs_Same_ok (a b : List Kn) (ha : knsTot a) (hb : knsTot b) (h : knsOk a) (h' : knsOk b) : Fn Try.prog 131 [knsB a, knsB b] (boR (decide (a = b))) :=
  vs_Same a b a b (vs_Of_ok a ha h) (vs_Of_ok b hb h') ha.sz
end
end Go.Proofs.Ytbpmafpmlapekaa
