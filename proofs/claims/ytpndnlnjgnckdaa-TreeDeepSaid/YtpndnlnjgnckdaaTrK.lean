/- Trees and lists, on: the references' lists are the trees' items. No program in sight. -/
import Derived.Test.YtpndnlnjgnckdaaTrL
import Derived.Test.YtpndnlnjgnckdaaRefU
namespace Go.Proofs.Ytpndnlnjgnckdaa
theorem rPut_true : ∀ (L : List It) (x : It), (∀ y ∈ L, x.key < y.key) → rPut L x true = L
  | [], _, _ => rfl
  | y :: L, x, h => by
    have h1 := h y (by simp)
    have h2 := rPut_true L x (fun z hz => h z (by simp [hz]))
    have h3 : y.key ≠ x.key := by grind
    simp only [rPut, Bool.true_or, if_true, if_neg h3, h2, List.nil_append, List.singleton_append]
theorem rPut_ins : ∀ (L : List (It × Int)) (x : It) (o : Int), srtP L → rPut (L.map (·.1)) x false = (insP L x o).map (·.1)
  | [], _, _, _ => rfl
  | y :: L, x, o, h => by
    have h0 := List.pairwise_cons.1 h
    have ih := rPut_ins L x o h0.2
    have gt : ∀ z ∈ L, y.1.key < z.1.key := h0.1
    rw [List.map_cons, rPut, insP]
    by_cases c1 : x.key < y.1.key
    · have c2 : ¬ cmpB y.1.key x.key < 0 := fun q => by have := (o_lt _ _).1 q; grind
      have c3 : y.1.key ≠ x.key := by grind
      rw [decide_eq_false c2, if_pos c1, if_neg c3]
      have := rPut_true (L.map (·.1)) x (fun z hz => by
        obtain ⟨u, hu, rfl⟩ := List.mem_map.1 hz
        have := gt u hu; grind)
      simp [this]
    · rw [if_neg c1]
      by_cases c2 : y.1.key < x.key
      · have c3 : y.1.key ≠ x.key := by grind
        rw [decide_eq_true ((o_lt _ _).2 c2), if_pos c2, if_neg c3]
        simp [ih]
      · have c3 : y.1.key = x.key := by grind
        have c4 : ¬ cmpB y.1.key x.key < 0 := fun q => c2 ((o_lt _ _).1 q)
        rw [decide_eq_false c4, if_neg c2, if_pos c3]
        have := rPut_true (L.map (·.1)) x (fun z hz => by
          obtain ⟨u, hu, rfl⟩ := List.mem_map.1 hz
          have := gt u hu; grind)
        simp [this]
theorem lst_put (t : Tr) (x : It) (o : Int) (h : srtP t.pl) : (putT t x o).lst = rPut t.lst x false := by
  rw [lst_pl, lst_pl, pl_put t x o h, rPut_ins _ _ _ h]
theorem lst_drop (t : Tr) (k : ByteArray) (h : srtP t.pl) : (dropT t k).lst = t.lst.filter (fun x => decide (x.key ≠ k)) := by
  rw [lst_pl, lst_pl, pl_drop t k h, List.filter_map]
  rfl
theorem srt_drop' (t : Tr) (k : ByteArray) (h : srtP t.pl) : srtP (dropT t k).pl := by
  rw [pl_drop t k h]
  exact List.Pairwise.sublist List.filter_sublist h
theorem srt_put (t : Tr) (x : It) (o : Int) (h : srtP t.pl) : srtP (putT t x o).pl := by
  rw [pl_put t x o h]
  exact insP_srt _ _ _ h
theorem plcF_spec : ∀ (l : List It) (k : ByteArray) (i : Nat), (plcF l k i = -1 ∧ ∀ x ∈ l, x.key ≠ k) ∨ ∃ j, ∃ h : j < l.length, plcF l k i = ((i + j : Nat) : Int) ∧ l[j].key = k ∧ l.find? (fun x => decide (x.key = k)) = some l[j]
  | [], _, _ => .inl ⟨rfl, fun x hx => by simp at hx⟩
  | y :: l, k, i => by
    rw [plcF]
    by_cases c : y.key = k
    · rw [if_pos c]
      exact .inr ⟨0, by simp, rfl, c, by simp [c]⟩
    · rw [if_neg c]
      rcases plcF_spec l k (i + 1) with ⟨h1, h2⟩ | ⟨j, h, h1, h2, h3⟩
      · refine .inl ⟨h1, fun x hx => ?_⟩
        rcases List.mem_cons.1 hx with rfl | hx
        · exact c
        · exact h2 x hx
      · refine .inr ⟨j + 1, by simp; omega, by rw [h1]; omega, by simpa using h2, ?_⟩
        rw [List.find?_cons_of_neg (by simpa using c), h3]
        rfl
theorem has_lst (t : Tr) (k : ByteArray) (h : srtP t.pl) : hasT t k = decide (plcF t.lst k 0 ≥ 0) := by
  have h1 := has_pl t k h
  rcases plcF_spec t.lst k 0 with ⟨h2, h3⟩ | ⟨j, hj, h2, h3, _⟩
  · rw [h2, decide_eq_false (by decide)]
    rw [← Bool.not_eq_true]
    intro q
    obtain ⟨p, hp, e⟩ := h1.1 q
    exact h3 p.1 (by rw [lst_pl]; exact List.mem_map_of_mem hp) e
  · rw [h2, decide_eq_true (by omega)]
    refine h1.2 ?_
    have hm := List.getElem_mem hj
    generalize t.lst[j] = z at h3 hm
    rw [lst_pl] at hm
    obtain ⟨p, hp, e⟩ := List.mem_map.1 hm
    exact ⟨p, hp, by rw [e]; exact h3⟩
theorem get_lst : ∀ (t : Tr) (k : ByteArray), srtP t.pl → getT t k = t.lst.find? (fun x => decide (x.key = k))
  | .nil, _, _ => rfl
  | .node l y p r, k, h => by
    rw [Tr.pl] at h
    obtain ⟨hl, hr, hlt, hgt⟩ := srtP_node h
    have h1 := get_lst l k hl
    have h2 := get_lst r k hr
    rw [getT, Tr.lst, List.find?_append]
    have noL : y.key ≤ k → l.lst.find? (fun x => decide (x.key = k)) = none := fun c => by
      rw [List.find?_eq_none]
      intro x hx
      rw [lst_pl] at hx
      obtain ⟨q, hq, rfl⟩ := List.mem_map.1 hx
      have := hlt q hq
      simp only at this
      simp only [decide_eq_true_eq]
      grind
    have noR : k < y.key → r.lst.find? (fun x => decide (x.key = k)) = none := fun c => by
      rw [List.find?_eq_none]
      intro x hx
      rw [lst_pl] at hx
      obtain ⟨q, hq, rfl⟩ := List.mem_map.1 hx
      have := hgt q hq
      simp only at this
      simp only [decide_eq_true_eq]
      grind
    by_cases c1 : cmpB k y.key < 0
    · have c2 : k < y.key := (o_lt _ _).1 c1
      rw [if_pos c1, h1, List.find?_cons_of_neg (by simp; grind), noR c2]
      cases l.lst.find? (fun x => decide (x.key = k)) <;> rfl
    · rw [if_neg c1]
      by_cases c2 : cmpB k y.key > 0
      · have c3 : y.key < k := (o_gt _ _).1 c2
        rw [if_pos c2, h2, noL (by grind), List.find?_cons_of_neg (by simp; grind)]
        rfl
      · have c3 : k = y.key := (o_eq _ _).1 (by omega)
        rw [if_neg c2, noL (by grind), List.find?_cons_of_pos (by simp [c3])]
        rfl
theorem at_lst : ∀ (t : Tr) (i : Nat), i < t.siz → t.lst[i]? = some (atT t i)
  | .nil, i, h => by simp [Tr.siz] at h
  | .node l y p r, i, h => by
    have h1 := at_lst l i
    have h2 := at_lst r (i - (l.siz + 1))
    have e : l.lst.length = l.siz := by rw [lst_pl, List.length_map, siz_pl]
    simp only [Tr.siz] at h
    rw [atT, Tr.lst]
    split
    · rw [List.getElem?_append_left (by omega)]
      exact h1 (by assumption)
    · split
      · rw [List.getElem?_append_right (by omega), e, show i - l.siz = i - (l.siz + 1) + 1 by omega, List.getElem?_cons_succ]
        exact h2 (by omega)
      · have : i = l.siz := by omega
        rw [List.getElem?_append_right (by omega), e, this, Nat.sub_self]
        rfl
/-- what is done: an item put, or its key dropped -/
structure Dt where
  drop : Bool
  x : It
def stepT (s : Int) (t : Tr) (d : Dt) : Tr := if d.drop then (if hasT t d.x.key then dropT t d.x.key else t) else if itR d.x then putT t d.x (hItem s d.x) else t
/-- in order, each item right, by its hash -/
def okT (s : Int) (t : Tr) : Prop := srtP t.pl ∧ ∀ p ∈ t.pl, itR p.1 = true ∧ p.2 = hItem s p.1
theorem okT_nil (s : Int) : okT s .nil := ⟨List.Pairwise.nil, fun p hp => by simp [Tr.pl] at hp⟩
theorem okT_step {s : Int} {t : Tr} (h : okT s t) (d : Dt) : okT s (stepT s t d) := by
  unfold stepT
  split
  · split
    · refine ⟨srt_drop' t _ h.1, fun p hp => ?_⟩
      rw [pl_drop t _ h.1] at hp
      exact h.2 p (List.mem_filter.1 hp).1
    · exact h
  · split
    · rename_i c
      refine ⟨srt_put t _ _ h.1, fun p hp => ?_⟩
      rw [pl_put t _ _ h.1] at hp
      rcases insP_mem _ _ _ p hp with rfl | hp
      · exact ⟨c, rfl⟩
      · exact h.2 p hp
    · exact h
theorem okT_pl {s : Int} {t : Tr} (h : okT s t) : t.pl = t.lst.map (fun x => (x, hItem s x)) := by
  rw [lst_pl, List.map_map]
  refine (List.map_id' _).symm.trans (List.map_congr_left fun p hp => ?_)
  rw [Function.comp, ← (h.2 p hp).2]
end Go.Proofs.Ytpndnlnjgnckdaa
