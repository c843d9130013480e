/- Trees and lists: what a tree's items are behind a put, a drop; where a key stands. No program in sight. -/
import Derived.Test.YtpndnlnjgnckdaaOrd
import Derived.Test.YtpndnlnjgnckdaaTrM
namespace Go.Proofs.Ytpndnlnjgnckdaa
def Tr.pl : Tr → List (It × Int)
  | .nil => []
  | .node l x o r => l.pl ++ (x, o) :: r.pl
theorem lst_pl : ∀ t : Tr, t.lst = t.pl.map (·.1)
  | .nil => rfl
  | .node l x o r => by
    have h1 := lst_pl l
    have h2 := lst_pl r
    simp only [Tr.lst, Tr.pl, List.map_append, List.map_cons, h1, h2]
theorem siz_pl : ∀ t : Tr, t.siz = t.pl.length
  | .nil => rfl
  | .node l x o r => by
    have h1 := siz_pl l
    have h2 := siz_pl r
    simp only [Tr.siz, Tr.pl, List.length_append, List.length_cons]; omega
theorem pl_turnR (t : Tr) : (turnR t).pl = t.pl := by
  unfold turnR; split <;> simp [Tr.pl]
theorem pl_turnL (t : Tr) : (turnL t).pl = t.pl := by
  unfold turnL; split <;> simp [Tr.pl]
theorem pl_level (l : Tr) (x : It) (o : Int) (r : Tr) : (levelT l x o r).pl = l.pl ++ (x, o) :: r.pl := by
  unfold levelT
  split
  · split
    · rw [pl_turnR]; simp [Tr.pl, pl_turnL]
    · rw [pl_turnR]; rfl
  · split
    · split
      · rw [pl_turnL]; simp [Tr.pl, pl_turnR]
      · rw [pl_turnL]; rfl
    · rfl
/-- in order -/
def srtP (l : List (It × Int)) : Prop := l.Pairwise (fun a b => a.1.key < b.1.key)
def insP : List (It × Int) → It → Int → List (It × Int)
  | [], x, o => [(x, o)]
  | y :: l, x, o => if x.key < y.1.key then (x, o) :: y :: l else if y.1.key < x.key then y :: insP l x o else (x, o) :: l
theorem insP_left (a : List (It × Int)) (y : It × Int) (b : List (It × Int)) (x : It) (o : Int) (h : x.key < y.1.key) : insP (a ++ y :: b) x o = insP a x o ++ y :: b := by
  induction a with
  | nil => simp [insP, h]
  | cons z a ih =>
    simp only [List.cons_append, insP, ih]
    split
    · rfl
    · split <;> rfl
theorem insP_right (a : List (It × Int)) (b : List (It × Int)) (x : It) (o : Int) (h : ∀ z ∈ a, z.1.key < x.key) : insP (a ++ b) x o = a ++ insP b x o := by
  induction a with
  | nil => rfl
  | cons z a ih =>
    have h1 := h z (by simp)
    have h2 : ¬ x.key < z.1.key := by grind
    simp only [List.cons_append, insP, if_neg h2, if_pos h1, ih (fun u hu => h u (by simp [hu]))]
theorem insP_end (a : List (It × Int)) (x : It) (o : Int) (h : ∀ z ∈ a, z.1.key < x.key) : insP a x o = a ++ [(x, o)] := by
  have := insP_right a [] x o h
  rwa [List.append_nil] at this
theorem insP_front (a : List (It × Int)) (x : It) (o : Int) (h : ∀ z ∈ a, x.key < z.1.key) : insP a x o = (x, o) :: a := by
  cases a with
  | nil => rfl
  | cons y a => simp only [insP, if_pos (h y (by simp))]
theorem insP_mem (l : List (It × Int)) (x : It) (o : Int) : ∀ p ∈ insP l x o, p = (x, o) ∨ p ∈ l := by
  induction l with
  | nil => intro p hp; simp [insP] at hp; exact .inl hp
  | cons y l ih =>
    intro p hp
    unfold insP at hp
    split at hp
    · simp at hp; rcases hp with h | h | h <;> simp [h]
    · split at hp
      · simp at hp
        rcases hp with h | h
        · simp [h]
        · rcases ih p h with h | h <;> simp [h]
      · simp at hp; rcases hp with h | h <;> simp [h]
theorem insP_srt (l : List (It × Int)) (x : It) (o : Int) (h : srtP l) : srtP (insP l x o) := by
  unfold srtP at *
  induction l with
  | nil => simp [insP]
  | cons y l ih =>
    have h1 := List.pairwise_cons.1 h
    unfold insP
    split
    · rename_i c
      refine List.pairwise_cons.2 ⟨fun z hz => ?_, h⟩
      rcases List.mem_cons.1 hz with rfl | hz
      · exact c
      · have := h1.1 z hz; simp only; grind
    · split
      · rename_i c1 c2
        refine List.pairwise_cons.2 ⟨fun z hz => ?_, ih h1.2⟩
        rcases insP_mem l x o z hz with rfl | hz
        · exact c2
        · exact h1.1 z hz
      · rename_i c1 c2
        have e : x.key = y.1.key := by grind
        refine List.pairwise_cons.2 ⟨fun z hz => ?_, h1.2⟩
        have := h1.1 z hz
        simp only [e]; exact this
theorem srtP_node {l r : List (It × Int)} {y : It × Int} (h : srtP (l ++ y :: r)) : srtP l ∧ srtP r ∧ (∀ z ∈ l, z.1.key < y.1.key) ∧ (∀ z ∈ r, y.1.key < z.1.key) := by
  unfold srtP at *
  have h1 := List.pairwise_append.1 h
  have h2 := List.pairwise_cons.1 h1.2.1
  exact ⟨h1.1, h2.2, fun z hz => h1.2.2 z hz y (by simp), h2.1⟩
theorem pl_put : ∀ (t : Tr) (x : It) (o : Int), srtP t.pl → (putT t x o).pl = insP t.pl x o
  | .nil, x, o, _ => rfl
  | .node l y p r, x, o, h => by
    rw [Tr.pl] at h
    obtain ⟨hl, hr, hlt, hgt⟩ := srtP_node h
    have h1 := pl_put l x o hl
    have h2 := pl_put r x o hr
    rw [putT]
    by_cases c1 : cmpB x.key y.key < 0
    · rw [if_pos c1, pl_level, h1, Tr.pl, insP_left _ _ _ _ _ ((o_lt _ _).1 c1)]
    · rw [if_neg c1]
      by_cases c2 : cmpB x.key y.key > 0
      · have c3 : y.key < x.key := (o_gt _ _).1 c2
        have c4 : ¬ x.key < y.key := by grind
        rw [if_pos c2, pl_level, h2, Tr.pl, insP_right _ _ _ _ (fun z hz => by have := hlt z hz; simp only at this; grind)]
        simp only [insP, if_neg c4, if_pos c3]
      · have c3 : x.key = y.key := (o_eq _ _).1 (by omega)
        have c4 : ¬ x.key < y.key := by grind
        have c5 : ¬ y.key < x.key := by grind
        rw [if_neg c2, pl_level, Tr.pl, insP_right _ _ _ _ (fun z hz => by have := hlt z hz; simp only at this; rw [c3]; exact this)]
        simp only [insP, if_neg c4, if_neg c5]
theorem pl_frT : ∀ (l : Tr) (x : It) (o : Int) (r : Tr), ((frT l x o r).1, (frT l x o r).2.1) :: (frT l x o r).2.2.pl = l.pl ++ (x, o) :: r.pl
  | .nil, x, o, r => by simp [frT, Tr.pl]
  | .node l y p q, x, o, r => by
    have h := pl_frT l y p q
    rw [frT]
    simp only [pl_level, Tr.pl, ← h, List.cons_append]
theorem pl_drop : ∀ (t : Tr) (k : ByteArray), srtP t.pl → (dropT t k).pl = t.pl.filter (fun p => decide (p.1.key ≠ k))
  | .nil, _, _ => rfl
  | .node l y p r, k, h => by
    rw [Tr.pl] at h
    obtain ⟨hl, hr, hlt, hgt⟩ := srtP_node h
    have h1 := pl_drop l k hl
    have h2 := pl_drop r k hr
    have keepL : ∀ (c : ¬ k < y.key), ¬ (y.key < k ∧ False) → y.key ≤ k → l.pl.filter (fun p => decide (p.1.key ≠ k)) = l.pl := fun c _ c' => List.filter_eq_self.2 fun z hz => by
      have := hlt z hz; simp only at this; exact decide_eq_true (by grind)
    have keepR : k ≤ y.key → r.pl.filter (fun p => decide (p.1.key ≠ k)) = r.pl := fun c' => List.filter_eq_self.2 fun z hz => by
      have := hgt z hz; simp only at this; exact decide_eq_true (by grind)
    rw [dropT.eq_def]
    simp only
    rw [Tr.pl, List.filter_append, List.filter_cons]
    by_cases c1 : cmpB k y.key < 0
    · have c2 : k < y.key := (o_lt _ _).1 c1
      rw [if_pos c1, pl_level, h1, keepR (by grind), if_pos (by simp; grind)]
    · rw [if_neg c1]
      by_cases c2 : cmpB k y.key > 0
      · have c3 : y.key < k := (o_gt _ _).1 c2
        rw [if_pos c2, pl_level, h2, keepL (by grind) (by simp) (by grind), if_pos (by simp; grind)]
      · have c3 : k = y.key := (o_eq _ _).1 (by omega)
        rw [if_neg c2, keepL (by grind) (by simp) (by grind), keepR (by grind), if_neg (by simp; grind)]
        cases r with
        | nil => simp [Tr.pl]
        | node rl z q rr =>
          have := pl_frT rl z q rr
          simp only [pl_level, Tr.pl]
          rw [← this]
theorem has_pl : ∀ (t : Tr) (k : ByteArray), srtP t.pl → (hasT t k = true ↔ ∃ p ∈ t.pl, p.1.key = k)
  | .nil, _, _ => by simp [hasT, Tr.pl]
  | .node l y p r, k, h => by
    rw [Tr.pl] at h
    obtain ⟨hl, hr, hlt, hgt⟩ := srtP_node h
    have h1 := has_pl l k hl
    have h2 := has_pl r k hr
    rw [hasT, Tr.pl]
    simp only [List.mem_append, List.mem_cons]
    by_cases c1 : cmpB k y.key < 0
    · have c2 : k < y.key := (o_lt _ _).1 c1
      rw [if_pos c1, h1]
      refine ⟨fun ⟨p, hp, e⟩ => ⟨p, .inl hp, e⟩, fun ⟨p, hp, e⟩ => ?_⟩
      rcases hp with hp | rfl | hp
      · exact ⟨p, hp, e⟩
      · simp only at e; grind
      · have := hgt p hp; simp only at this; grind
    · rw [if_neg c1]
      by_cases c2 : cmpB k y.key > 0
      · have c3 : y.key < k := (o_gt _ _).1 c2
        rw [if_pos c2, h2]
        refine ⟨fun ⟨p, hp, e⟩ => ⟨p, .inr (.inr hp), e⟩, fun ⟨p, hp, e⟩ => ?_⟩
        rcases hp with hp | rfl | hp
        · have := hlt p hp; simp only at this; grind
        · simp only at e; grind
        · exact ⟨p, hp, e⟩
      · have c3 : k = y.key := (o_eq _ _).1 (by omega)
        rw [if_neg c2]
        exact ⟨fun _ => ⟨(y, p), .inr (.inl rfl), c3.symm⟩, fun _ => rfl⟩
def sumI (l : List (It × Int)) : Int := (l.map (·.2)).sum
theorem tot_pl : ∀ t : Tr, t.tot % 18446744073709551616 = sumI t.pl % 18446744073709551616 ∧ IntKind.u64.wrap t.tot = t.tot
  | .nil => ⟨rfl, by decide⟩
  | .node l x o r => by
    have h1 := (tot_pl l).1
    have h2 := (tot_pl r).1
    simp only [Tr.tot, Tr.pl, sumI, wu_mod, List.map_append, List.map_cons, List.sum_append, List.sum_cons] at *
    constructor <;> omega
theorem ahead_pl : ∀ (t : Tr) (k : ByteArray), srtP t.pl → (aheadT t k).1 = (t.pl.filter (fun p => decide (p.1.key < k))).length ∧ (aheadT t k).2 % 18446744073709551616 = sumI (t.pl.filter (fun p => decide (p.1.key < k))) % 18446744073709551616
  | .nil, _, _ => ⟨rfl, rfl⟩
  | .node l y p r, k, h => by
    rw [Tr.pl] at h
    obtain ⟨hl, hr, hlt, hgt⟩ := srtP_node h
    obtain ⟨a1, a2⟩ := ahead_pl l k hl
    obtain ⟨b1, b2⟩ := ahead_pl r k hr
    have t1 := (tot_pl l).1
    rw [aheadT, Tr.pl, List.filter_append, List.filter_cons]
    by_cases c1 : cmpB y.key k < 0
    · have c2 : y.key < k := (o_lt _ _).1 c1
      have e : l.pl.filter (fun p => decide (p.1.key < k)) = l.pl := List.filter_eq_self.2 fun z hz => by
        have := hlt z hz; simp only at this; exact decide_eq_true (by grind)
      rw [if_pos c1, if_pos (by simpa using c2), e]
      simp only [b1, siz_pl, sumI, List.length_append, List.length_cons, List.map_append, List.map_cons, List.sum_append, List.sum_cons] at *
      constructor <;> omega
    · have c2 : ¬ y.key < k := fun q => c1 ((o_lt _ _).2 q)
      have e : r.pl.filter (fun p => decide (p.1.key < k)) = [] := List.filter_eq_nil_iff.2 fun z hz => by
        have := hgt z hz; simp only at this; simp only [decide_eq_true_eq]; grind
      rw [if_neg c1, if_neg (by simpa using c2), e, List.append_nil]
      exact ⟨a1, a2⟩
theorem ofT_eq {t u : Tr} (r : Rg) (ht : srtP t.pl) (h : t.pl = u.pl) : ofT t r = ofT u r := by
  have hu : srtP u.pl := h ▸ ht
  have a := ahead_pl t r.lo ht
  have b := ahead_pl t r.hi ht
  have c := ahead_pl u r.lo hu
  have d := ahead_pl u r.hi hu
  have e := (tot_pl t).1
  have f := (tot_pl u).1
  have g := siz_pl t
  have k := siz_pl u
  rw [h] at a b e g
  unfold ofT
  split
  · split
    · rw [g, k, a.1, c.1]
      congr 1
      simp only [wu_mod]
      omega
    · rw [a.1, b.1, c.1, d.1]
      congr 1
      simp only [wu_mod]
      omega
  · rfl
end Go.Proofs.Ytpndnlnjgnckdaa
