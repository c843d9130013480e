/- Texts joined: ChP. -/
import Derived.Test.YtbpmafpmlapekaaGreatJ38
namespace Go.Proofs.YtbpmafpmlapekaaGreat
/-! ### how many runs a set has -/
theorem one_sum (c : Int) (m : Nat) : ∀ n : Nat, ((List.range n).map fun r : Nat => if c = (r : Int) + 1 then m else 0).sum = if 1 ≤ c ∧ c ≤ (n : Int) then m else 0 := by
  intro n
  induction n with
  | zero =>
    rw [if_neg (by omega)]; rfl
  | succ n ih =>
    rw [List.range_succ, List.map_append, List.sum_append, ih]
    simp only [List.map_cons, List.map_nil, List.sum_cons, List.sum_nil]
    by_cases h1 : 1 ≤ c ∧ c ≤ (n : Int)
    · rw [if_pos h1, if_neg (by omega), if_pos (by omega)]; omega
    · rw [if_neg h1]
      by_cases h2 : c = (n : Int) + 1
      · rw [if_pos h2, if_pos (by omega)]; omega
      · rw [if_neg h2, if_neg (by omega)]; rfl
theorem sum_add (f g : Nat → Nat) : ∀ l : List Nat, (l.map fun r => f r + g r).sum = (l.map f).sum + (l.map g).sum := by
  intro l
  induction l with
  | nil => rfl
  | cons x l ih => simp only [List.map_cons, List.sum_cons, ih]; omega
theorem tabs_sum (X : List Kn) (n : Nat) : ((List.range n).map fun r => (tabAt X r).length).sum ≤ (X.flatMap Kn.runs).length := by
  induction X with
  | nil =>
    have : ∀ l : List Nat, (l.map fun r => (tabAt [] r).length).sum = 0 := by
      intro l
      induction l with
      | nil => rfl
      | cons x l ih => rw [List.map_cons, List.sum_cons, ih]; rfl
    rw [this]; omega
  | cons k X ih =>
    have e : (fun r => (tabAt (k :: X) r).length) = fun r : Nat => (if k.rep = (r : Int) + 1 then k.runs.length else 0) + (tabAt X r).length := by
      funext r
      show ((if k.rep = (r : Int) + 1 then k.runs else []) ++ tabAt X r).length = _
      rw [List.length_append]
      split <;> simp
    rw [e, sum_add, one_sum, List.flatMap_cons, List.length_append]
    split <;> omega
theorem setFrom_runs : ∀ (T : List (List Rn)) (i : Nat), ((setFrom ofR i T).flatMap Kn.runs).length ≤ (T.map List.length).sum := by
  intro T
  induction T with
  | nil => intro i; simp [setFrom]
  | cons l T ih =>
    intro i
    have h1 := ih (i + 1)
    have h2 := ofR_len l
    rw [setFrom, List.flatMap_append, List.length_append, List.map_cons, List.sum_cons]
    split
    · simp only [List.flatMap_nil, List.length_nil]; omega
    · simp only [List.flatMap_cons, List.flatMap_nil, List.append_nil]; omega
theorem vsOf_runs (X : List Kn) : ((vsOf ofR X).flatMap Kn.runs).length ≤ (X.flatMap Kn.runs).length := by
  have h1 := setFrom_runs (tabOf X) 0
  have h2 := tabs_sum X 16
  unfold tabOf at h1
  rw [List.map_map] at h1
  exact Nat.le_trans h1 h2
/-! ### how many edges a list has -/
theorem upT_sub : ∀ {l m : List ByteArray}, upT l → upT m → (∀ s ∈ l, s ∈ m) → l.length ≤ m.length := by
  intro l
  induction l with
  | nil => intro m _ _ _; simp
  | cons x l ih =>
    intro m hl hm hs
    obtain ⟨m1, m2, rfl⟩ := List.append_of_mem (hs x List.mem_cons_self)
    obtain ⟨h1, h2⟩ := List.pairwise_cons.1 hl
    obtain ⟨g1, g2, g3⟩ := List.pairwise_append.1 hm
    obtain ⟨g4, g5⟩ := List.pairwise_cons.1 g2
    have := ih h2 g5 (fun s hsl => by
      have q := h1 s hsl
      rcases List.mem_append.1 (hs s (List.mem_cons_of_mem _ hsl)) with h | h
      · have q2 := g3 s h x List.mem_cons_self
        grind
      · rcases List.mem_cons.1 h with rfl | h
        · grind
        · exact h)
    rw [List.length_append, List.length_cons, List.length_cons]; omega
theorem mgT_edges : ∀ (l : List Pc) (c : Pc), ∀ p ∈ mgT c l, (∃ q ∈ c :: l, p.rg.lo = q.rg.lo) ∧ ∃ q ∈ c :: l, p.rg.hi = q.rg.hi ∧ p.rg.op = q.rg.op := by
  intro l
  induction l with
  | nil =>
    intro c p hp
    have e : p = c := by simpa [mgT] using hp
    rw [e]
    exact ⟨⟨c, by simp, rfl⟩, c, by simp, rfl, rfl⟩
  | cons r l ih =>
    intro c p hp
    rw [mgT] at hp
    split at hp
    · obtain ⟨⟨q, hq, e⟩, q', hq', e'⟩ := ih _ p hp
      refine ⟨?_, ?_⟩
      · rcases List.mem_cons.1 hq with rfl | hq
        · exact ⟨c, by simp, e⟩
        · exact ⟨q, by simp [hq], e⟩
      · rcases List.mem_cons.1 hq' with rfl | hq'
        · exact ⟨r, by simp, e'⟩
        · exact ⟨q', by simp [hq'], e'⟩
    · rcases List.mem_cons.1 hp with rfl | hp
      · exact ⟨⟨p, by simp, rfl⟩, p, by simp, rfl, rfl⟩
      · obtain ⟨⟨q, hq, e⟩, q', hq', e'⟩ := ih _ p hp
        exact ⟨⟨q, List.mem_cons_of_mem _ hq, e⟩, q', List.mem_cons_of_mem _ hq', e'⟩
theorem segT_edges (F : ByteArray → List Kn) : ∀ (E : List ByteArray), ∀ p ∈ segT F E, p.rg.lo ∈ E ∧ (p.rg.op = false → p.rg.hi ∈ E) := by
  intro E
  induction E with
  | nil => intro p hp; simp [segT] at hp
  | cons e E ih =>
    intro p hp
    rw [segT, List.mem_append] at hp
    rcases hp with hp | hp
    · split at hp
      · simp at hp
      · have hp : p = ⟨nextR e E, F e⟩ := by simpa using hp
        rw [hp]
        cases E with
        | nil => exact ⟨by simp [nextR], fun h => by simp [nextR] at h⟩
        | cons t E => exact ⟨by simp [nextR], fun _ => by simp [nextR]⟩
    · obtain ⟨h1, h2⟩ := ih p hp
      exact ⟨List.mem_cons_of_mem _ h1, fun h => List.mem_cons_of_mem _ (h2 h)⟩
theorem bldK_edges (F : ByteArray → List Kn) (E : List ByteArray) : ∀ p ∈ bldK F E, p.rg.lo ∈ E ∧ (p.rg.op = false → p.rg.hi ∈ E) := by
  intro p hp
  unfold bldK mergeK at hp
  have h3 := segT_edges F E
  generalize segT F E = T at *
  cases T with
  | nil => simp at hp
  | cons c l =>
    obtain ⟨⟨q, hq, e⟩, q', hq', e1, e2⟩ := mgT_edges l c p hp
    rw [e, e1, e2]
    exact ⟨(h3 q hq).1, (h3 q' hq').2⟩
theorem edgK_app (a b : List Pc) : (edgK (a ++ b)).length ≤ (edgK a).length + 2 * b.length := by
  have h := edgT_len (rgsOf b) (edgK a)
  have e : edgK (a ++ b) = edgT (edgK a) (rgsOf b) := by
    unfold edgK rgsOf edgT
    rw [List.map_append, List.foldl_append]
  rw [e]
  unfold rgsOf at *
  rwa [List.length_map] at h
theorem edgK_join (a b : List Pc) : (edgK (ofK (a ++ b))).length ≤ (edgK a).length + 2 * b.length := by
  refine Nat.le_trans (upT_sub (edgK_up _) (edgK_up (a ++ b)) (fun s hs => ?_)) (edgK_app a b)
  rcases (edgT_mem _ _ _).1 hs with h | ⟨r, hr, h1, h2⟩
  · have h : s = emB := by simpa using h
    rw [h]; exact edgK_em _
  · obtain ⟨p, hp, rfl⟩ := List.mem_map.1 hr
    obtain ⟨q1, q2⟩ := bldK_edges _ _ p hp
    rcases h2 with rfl | ⟨ho, rfl⟩
    · exact q1
    · exact q2 ho
theorem right_len {a : List Pc} (h : pcsOk a) : a.length ≤ (edgK a).length := by
  have := bldK_len (atK a) (edgK a)
  have e := ofK_id h
  unfold ofK at e
  rwa [e] at this
theorem getK_le {k : List Pc} {m : Nat} (h : ∀ p ∈ k, (p.set.flatMap Kn.runs).length ≤ m) (s : ByteArray) : ((getK k s).flatMap Kn.runs).length ≤ m := by
  induction k with
  | nil => simp [getK]
  | cons p k ih =>
    rw [getK]
    split
    · exact h p (by simp)
    · exact ih (fun q hq => h q (List.mem_cons_of_mem _ hq))
theorem join_set {a b : List Pc} {ma mb : Nat} (ha : pcsOk a) (hb : pcsOk b) (h1 : ∀ p ∈ a, (p.set.flatMap Kn.runs).length ≤ ma) (h2 : ∀ p ∈ b, (p.set.flatMap Kn.runs).length ≤ mb) :
    ∀ p ∈ ofK (a ++ b), p.set.length ≤ 16 ∧ (p.set.flatMap Kn.runs).length ≤ ma + mb := fun p hp => by
  obtain ⟨e, he⟩ := bldK_set _ _ p hp
  rw [he]
  refine ⟨knsOk_len (atK_ok _ _), ?_⟩
  unfold atK
  refine Nat.le_trans (vsOf_runs _) ?_
  rw [List.flatMap_append, flat_getK ha, flat_getK hb, List.flatMap_append, List.length_append]
  have := getK_le h1 e
  have := getK_le h2 e
  omega
theorem flat_bnd {α β : Type} (f : α → List β) (m : Nat) : ∀ l : List α, (∀ x ∈ l, (f x).length ≤ m) → (l.flatMap f).length ≤ l.length * m := by
  intro l
  induction l with
  | nil => intro _; simp
  | cons x l ih =>
    intro h
    have h1 := h x (by simp)
    have h2 := ih (fun y hy => h y (List.mem_cons_of_mem _ hy))
    rw [List.flatMap_cons, List.length_append, List.length_cons, Nat.add_mul, Nat.one_mul]; omega
theorem flat2_bnd (m : Nat) (k : List Pc) (h : ∀ p ∈ k, (p.set.flatMap Kn.runs).length ≤ m) : ((k.flatMap Pc.set).flatMap Kn.runs).length ≤ k.length * m := by
  have := flat_bnd (fun p : Pc => p.set.flatMap Kn.runs) m k h
  rwa [List.flatMap_assoc]
/-! ### what is read of some bytes -/
theorem runsB_ge2 : ∀ (l : List Rn) (was : Int), 2 * l.length ≤ (runsB was l).length := by
  intro l
  induction l with
  | nil => intro _; simp [runsB]
  | cons r l ih =>
    intro was
    have h1 := ih r.to
    have h2 := numI_pos (r.fr - was)
    have h3 := numI_pos (r.to - r.fr)
    rw [runsB, List.length_append, List.length_append, List.length_cons]
    omega
theorem setB_ge2 (s : List Kn) : 1 + 2 * (s.flatMap Kn.runs).length ≤ (setB s).length := by
  have : ∀ s : List Kn, 2 * (s.flatMap Kn.runs).length ≤ (s.flatMap knB).length := by
    intro s
    induction s with
    | nil => simp
    | cons k s ih =>
      have := runsB_ge2 k.runs 0
      have e : (knB k).length = (numI k.rep).length + ((numI (k.runs.length : Nat)).length + (runsB 0 k.runs).length) := by
        unfold knB
        rw [List.length_append, List.length_append]
      rw [List.flatMap_cons, List.flatMap_cons, List.length_append, List.length_append]; omega
  have := this s
  have := numI_pos (s.length : Nat)
  unfold setB
  rw [List.length_append]; omega
theorem pcB_ge2 (p : Pc) : 2 + 2 * (p.set.flatMap Kn.runs).length ≤ (pcB p).length := by
  have h1 := setB_ge2 p.set
  have h2 : 1 ≤ (rgB p.rg).length := by
    have a := numI_pos 1
    have b := numI_pos 0
    unfold rgB
    rw [List.length_append]
    split
    · omega
    · rw [List.length_append]; omega
  unfold pcB
  rw [List.length_append]; omega
theorem knowB_ge2 (k : List Pc) : 2 * k.length + 2 * ((k.flatMap Pc.set).flatMap Kn.runs).length ≤ (knowB k).length := by
  have : ∀ k : List Pc, 2 * k.length + 2 * ((k.flatMap Pc.set).flatMap Kn.runs).length ≤ (k.flatMap pcB).length := by
    intro k
    induction k with
    | nil => simp
    | cons p k ih =>
      have := pcB_ge2 p
      rw [List.flatMap_cons, List.flatMap_cons, List.flatMap_append, List.length_append, List.length_append, List.length_cons]; omega
  have := this k
  unfold knowB
  rw [List.length_append]; omega
theorem rdKnow_two {d : List UInt8} (h : (rdKnow d).2 = 0) : 2 * (rdKnow d).1.length + 2 * (((rdKnow d).1.flatMap Pc.set).flatMap Kn.runs).length ≤ d.length := by
  have := knowB_ge2 (rdKnow d).1
  rwa [(rdKnow_back h).2.2] at this
/-! ### chains of any bytes -/
def chainK : List Pc → List (List UInt8) → List Pc × Int
  | a, [] => (a, 0)
  | a, d :: ds => if (applyK a d).2 = 0 then chainK (applyK a d).1 ds else applyK a d
def midC : List Pc → List (List UInt8) → Prop
  | a, [] => pcsMid a
  | a, d :: ds => pcsMid a ∧ d.length ≤ 1000000000 ∧ pcsMid (a ++ (rdKnow d).1) ∧ ((applyK a d).2 = 0 → midC (applyK a d).1 ds)
def szK (n : Nat) (a : List Pc) : Prop := ∃ P V, P + V ≤ n ∧ (edgK a).length ≤ 17 + 2 * P ∧ ∀ p ∈ a, p.set.length ≤ 16 ∧ (p.set.flatMap Kn.runs).length ≤ 256 + V
def ready (n : Nat) (a : List Pc) : Prop := (a.length ≤ 5000 ∧ (a.flatMap Pc.set).length ≤ 100000 ∧ ((a.flatMap Pc.set).flatMap Kn.runs).length ≤ 990000) ∧ (pcsOk a → szK n a)
theorem prod_le {P V : Nat} (h : P + V ≤ 1000) : (17 + 2 * P) * (256 + V) ≤ 990000 := by
  have key : ∀ A B : Nat, 17 + 2 * P ≤ A → 256 + V ≤ B → A * B ≤ 990000 → (17 + 2 * P) * (256 + V) ≤ 990000 := fun A B h1 h2 h3 => Nat.le_trans (Nat.mul_le_mul h1 h2) h3
  rcases Nat.lt_or_ge P 351 with h1 | h1
  · exact key 717 1256 (by omega) (by omega) (by decide)
  rcases Nat.lt_or_ge P 521 with h2 | h2
  · exact key 1057 905 (by omega) (by omega) (by decide)
  rcases Nat.lt_or_ge P 651 with h3 | h3
  · exact key 1317 735 (by omega) (by omega) (by decide)
  rcases Nat.lt_or_ge P 801 with h4 | h4
  · exact key 1617 605 (by omega) (by omega) (by decide)
  · exact key 2017 455 (by omega) (by omega) (by decide)
theorem szK_ready {n : Nat} {a : List Pc} (ha : pcsOk a) (h : szK n a) (hn : n ≤ 1000) : ready n a := by
  refine ⟨?_, fun _ => h⟩
  obtain ⟨P, V, h1, h2, h3⟩ := h
  have hl := right_len ha
  have hp := prod_le (P := P) (V := V) (by omega)
  have q1 := flat_bnd Pc.set 16 a (fun p hp => (h3 p hp).1)
  have q2 := flat2_bnd (256 + V) a (fun p hp => (h3 p hp).2)
  have q3 : a.length * (256 + V) ≤ (17 + 2 * P) * (256 + V) := Nat.mul_le_mul_right _ (by omega)
  exact ⟨by omega, by omega, by omega⟩
theorem ready.mid {n : Nat} {a : List Pc} (h : ready n a) : pcsMid a := by
  obtain ⟨⟨h1, h2, h3⟩, _⟩ := h
  exact ⟨by omega, by omega, by omega⟩
theorem mid_app2 {a b : List Pc} (h1 : a.length + b.length ≤ 1000000) (h2 : (a.flatMap Pc.set).length + (b.flatMap Pc.set).length ≤ 1000000) (h3 : ((a.flatMap Pc.set).flatMap Kn.runs).length + ((b.flatMap Pc.set).flatMap Kn.runs).length ≤ 1000000) : pcsMid (a ++ b) := by
  refine ⟨by rw [List.length_append]; omega, by rw [List.flatMap_append, List.length_append]; omega, ?_⟩
  rw [List.flatMap_append, List.flatMap_append, List.length_append]; omega
theorem ready.app {n : Nat} {a : List Pc} (h : ready n a) {d : List UInt8} (hd : d.length ≤ 400) : pcsMid (a ++ (rdKnow d).1) := by
  obtain ⟨⟨h1, h2, h3⟩, _⟩ := h
  have := rdKnow_mid d
  exact mid_app2 (by omega) (by omega) (by omega)
theorem apply_ok {a : List Pc} {d : List UInt8} (h : (applyK a d).2 = 0) : pcsOk a ∧ (rdKnow d).2 = 0 ∧ (applyK a d).1 = ofK (a ++ (rdKnow d).1) := by
  unfold applyK at h ⊢
  by_cases c : pcsOk a
  · rw [if_pos c] at h
    by_cases c2 : (rdKnow d).2 = 0
    · exact ⟨c, c2, by rw [if_pos c, if_pos c2]⟩
    · rw [if_neg c2] at h; exact absurd h c2
  · rw [if_neg c] at h; simp at h
theorem apply_no {a : List Pc} {d : List UInt8} (h : (applyK a d).2 ≠ 0) : (applyK a d).1 = [] := by
  unfold applyK at h ⊢
  by_cases c : pcsOk a
  · rw [if_pos c] at h ⊢
    by_cases c2 : (rdKnow d).2 = 0
    · rw [if_pos c2] at h; exact absurd rfl h
    · rw [if_neg c2]
  · rw [if_neg c]
theorem ready.next {n : Nat} {a : List Pc} (h : ready n a) {d : List UInt8} (hd : d.length ≤ 400) (hn : n + 200 ≤ 1000) (e : (applyK a d).2 = 0) : pcsOk (applyK a d).1 ∧ ready (n + 200) (applyK a d).1 := by
  obtain ⟨ha, hr, e1⟩ := apply_ok e
  rw [e1]
  have hok := (ofK_ok (a ++ (rdKnow d).1)).1
  refine ⟨hok, szK_ready hok ?_ hn⟩
  obtain ⟨P, V, h1, h2, h3⟩ := h.2 ha
  have h4 := rdKnow_two hr
  have h5 := edgK_join a (rdKnow d).1
  have h6 := join_set ha (rdKnow_back hr).1 (fun p hp => (h3 p hp).2) (mb := (((rdKnow d).1.flatMap Pc.set).flatMap Kn.runs).length) (fun p hp => by
    rw [List.flatMap_assoc]
    have : ∀ (f : Pc → List Rn) (k : List Pc), p ∈ k → (f p).length ≤ (k.flatMap f).length := by
      intro f k
      induction k with
      | nil => intro h; cases h
      | cons q k ih =>
        intro h
        rw [List.flatMap_cons, List.length_append]
        rcases List.mem_cons.1 h with rfl | h
        · omega
        · have := ih h; omega
    exact this (fun p => p.set.flatMap Kn.runs) _ hp)
  refine ⟨P + (rdKnow d).1.length, V + (((rdKnow d).1.flatMap Pc.set).flatMap Kn.runs).length, by omega, by omega, fun p hp => ⟨(h6 p hp).1, by have := (h6 p hp).2; omega⟩⟩
theorem ready.chain : ∀ (ds : List (List UInt8)) (n : Nat) (a : List Pc), ready n a → (∀ d ∈ ds, d.length ≤ 400) → n + 200 * ds.length ≤ 1000 → midC a ds ∧ pcsMid (chainK a ds).1 ∧ (chainK a ds).1.length ≤ 5000 ∧ ((chainK a ds).2 ≠ 0 → (chainK a ds).1 = []) := by
  intro ds
  induction ds with
  | nil => intro n a h _ _; exact ⟨h.mid, h.mid, h.1.1, fun h => absurd rfl h⟩
  | cons d ds ih =>
    intro n a h hd hn
    have h1 := hd d (by simp)
    rw [List.length_cons] at hn
    by_cases e : (applyK a d).2 = 0
    · obtain ⟨q1, q2⟩ := h.next h1 (by omega) e
      obtain ⟨r1, r2⟩ := ih _ _ q2 (fun x hx => hd x (List.mem_cons_of_mem _ hx)) (by omega)
      rw [chainK, if_pos e]
      exact ⟨⟨h.mid, by omega, h.app h1, fun _ => r1⟩, r2⟩
    · have q := apply_no e
      rw [chainK, if_neg e]
      refine ⟨⟨h.mid, by omega, h.app h1, fun q => absurd q e⟩, ?_, ?_, fun _ => q⟩
      · rw [q]; exact ⟨by simp, by simp, by simp⟩
      · rw [q]; simp
theorem long_ready {k : List Pc} (h : longPcs k 8 = false) : ready 0 k := by
  have h1 := (longPcs_sz h).1
  have h2 := long_short h
  have h3 : ∀ p ∈ k, p.set.length ≤ 16 := fun p hp => by
    have := (longKns_sz ((longPcs_sz h).2 p hp).2.2).1
    omega
  have q1 := flat_bnd Pc.set 16 k h3
  have q2 := flat2_bnd 256 k h2
  have q3 := edgK_len k
  exact ⟨⟨by omega, by omega, by omega⟩, fun _ => ⟨0, 0, by omega, by omega, fun p hp => ⟨h3 p hp, by have := h2 p hp; omega⟩⟩⟩
/-! ### chains of deltas -/
def cov (A p : List Pc) : Prop := ∀ s r, r < 16 → ∀ n, hasR (tabAt (atK p s) r) n → hasR (tabAt (atK A s) r) n
theorem vs_cov {x y z : List Kn} (h : ∀ r, r < 16 → ∀ n, hasR (tabAt z r) n → hasR (tabAt x r) n) : vsOf ofR (x ++ vsLess y z) = vsOf ofR (x ++ y) := by
  refine knsOk_uniq (vsOf_ok _) (vsOf_ok _) (fun r hr n => ?_)
  rw [tabAt_vsOf _ hr, tabAt_vsOf _ hr, ofR_has, ofR_has, tabAt_app, tabAt_app, hasR_app, hasR_app, tabAt_vsLess _ _ hr, lessR_has]
  constructor
  · rintro (h | ⟨h, _⟩)
    · exact .inl h
    · exact .inr h
  · rintro (q | q)
    · exact .inl q
    · by_cases c : hasR (tabAt z r) n
      · exact .inl (h r hr n c)
      · exact .inr ⟨q, c⟩
theorem cov_join {A p x : List Pc} (h : cov A p) : ofK (A ++ lessKn x p) = ofK (A ++ x) := by
  refine pcsOk_uniq (ofK_ok _).1 (ofK_ok _).1 (fun s => ?_)
  rw [(ofK_ok _).2, (ofK_ok _).2, atK_or, atK_or, atK_get (lessKn_ok x p).1, (lessKn_ok x p).2]
  exact vs_cov (h s)
theorem cov_next (A x : List Pc) : cov (ofK (A ++ x)) x := fun s r hr n h => by
  rw [atK_get (ofK_ok _).1, (ofK_ok _).2, atK_or, tabAt_vsOf _ hr, ofR_has, tabAt_app, hasR_app]
  exact .inr h
def stpK : List Pc → List (List Pc) → List (List UInt8)
  | _, [] => []
  | p, x :: r => knowB (lessKn x p) :: stpK x r
def allK (A : List Pc) (r : List (List Pc)) : List Pc := r.foldl (fun A x => ofK (A ++ x)) A
def szL (i : Nat) (A : List Pc) : Prop := pcsOk A ∧ (edgK A).length ≤ 17 + 16 * i ∧ ∀ p ∈ A, p.set.length ≤ 16 ∧ (p.set.flatMap Kn.runs).length ≤ 256 * (i + 1)
theorem szL.next {i : Nat} {A x : List Pc} (h : szL i A) (hx : pcsOk x) (lx : longPcs x 8 = false) : szL (i + 1) (ofK (A ++ x)) := by
  obtain ⟨h1, h2, h3⟩ := h
  have q := edgK_join A x
  have q2 := join_set h1 hx (fun p hp => (h3 p hp).2) (long_short lx)
  have q3 := (longPcs_sz lx).1
  exact ⟨(ofK_ok _).1, by omega, fun p hp => ⟨(q2 p hp).1, by have := (q2 p hp).2; omega⟩⟩
theorem szL.mid {i : Nat} {A : List Pc} (h : szL i A) (hi : i ≤ 4) : A.length ≤ 100 ∧ (A.flatMap Pc.set).length ≤ 2000 ∧ ((A.flatMap Pc.set).flatMap Kn.runs).length ≤ 110000 := by
  obtain ⟨h1, h2, h3⟩ := h
  have hl := right_len h1
  have q1 := flat_bnd Pc.set 16 A (fun p hp => (h3 p hp).1)
  have q2 := flat2_bnd 1280 A (fun p hp => by have := (h3 p hp).2; omega)
  exact ⟨by omega, by omega, by omega⟩
theorem long_szL {k : List Pc} (h : pcsOk k) (hl : longPcs k 8 = false) : szL 0 k := by
  obtain ⟨P, V, h1, h2, h3⟩ := (long_ready hl).2 h
  exact ⟨h, by omega, fun p hp => ⟨(h3 p hp).1, by have := (h3 p hp).2; omega⟩⟩
end Go.Proofs.YtbpmafpmlapekaaGreat
