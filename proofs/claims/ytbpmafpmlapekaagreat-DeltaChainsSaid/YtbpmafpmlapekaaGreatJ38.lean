/- Texts joined: DeP DeZ. -/
import Derived.Test.YtbpmafpmlapekaaGreatJ35
import Derived.Test.YtbpmafpmlapekaaGreatJ37
namespace Go.Proofs.YtbpmafpmlapekaaGreat
/-- short knowledge is not too much -/
theorem long_mid {k : List Pc} {most : Int} (h : longPcs k most = false) (hm : most ≤ 1000) : pcsMid k := by
  obtain ⟨h1, h2⟩ := longPcs_sz h
  have hq : ∀ p ∈ k, p.set.length ≤ 16 ∧ (p.set.flatMap Kn.runs).length ≤ 256 := fun p hp => by
    obtain ⟨_, _, h3⟩ := h2 p hp
    obtain ⟨g1, g2⟩ := longKns_sz h3
    refine ⟨by omega, ?_⟩
    have : ∀ l : List Kn, (∀ k ∈ l, (k.runs.length : Int) ≤ 16) → (l.flatMap Kn.runs).length ≤ 16 * l.length := by
      intro l
      induction l with
      | nil => intro _; simp
      | cons x l ih =>
        intro h
        have h1 := h x List.mem_cons_self
        have h2 := ih (fun y hy => h y (List.mem_cons_of_mem _ hy))
        rw [List.flatMap_cons, List.length_append, List.length_cons]; omega
    have := this _ g2
    omega
  have hsum : ∀ l : List Pc, (∀ p ∈ l, p.set.length ≤ 16 ∧ (p.set.flatMap Kn.runs).length ≤ 256) → (l.flatMap Pc.set).length ≤ 16 * l.length ∧ ((l.flatMap Pc.set).flatMap Kn.runs).length ≤ 256 * l.length := by
    intro l
    induction l with
    | nil => intro _; simp
    | cons p l ih =>
      intro h
      have h1 := h p List.mem_cons_self
      have h2 := ih (fun y hy => h y (List.mem_cons_of_mem _ hy))
      rw [List.flatMap_cons, List.flatMap_append, List.length_append, List.length_append, List.length_cons]; omega
  have := hsum k hq
  exact ⟨by omega, by omega, by omega⟩
theorem pcsMid_app {a b : List Pc} (ha : a.length ≤ 500000 ∧ (a.flatMap Pc.set).length ≤ 500000 ∧ ((a.flatMap Pc.set).flatMap Kn.runs).length ≤ 500000) (hb : b.length ≤ 500000 ∧ (b.flatMap Pc.set).length ≤ 500000 ∧ ((b.flatMap Pc.set).flatMap Kn.runs).length ≤ 500000) : pcsMid (a ++ b) := by
  refine ⟨by rw [List.length_append]; omega, by rw [List.flatMap_append, List.length_append]; omega, ?_⟩
  rw [List.flatMap_append, List.flatMap_append, List.length_append]; omega
/-- a right set is what it has, replica by replica -/
theorem knsOk_uniq {a b : List Kn} (ha : knsOk a) (hb : knsOk b) (h : ∀ r, r < 16 → ∀ n, hasR (tabAt a r) n ↔ hasR (tabAt b r) n) : a = b := by
  have e : (tabOf a).map ofR = (tabOf b).map ofR := by
    apply List.ext_getElem?
    intro i
    by_cases hi : i < 16
    · rw [List.getElem?_map, List.getElem?_map, tabOf_get _ hi, tabOf_get _ hi]
      simp only [Option.map_some]
      rw [ofR_cong (h i hi)]
    · rw [List.getElem?_eq_none (by rw [List.length_map, tabOf_len]; omega), List.getElem?_eq_none (by rw [List.length_map, tabOf_len]; omega)]
  have := setFrom_map (tabOf a) 0
  rw [e, setFrom_map] at this
  have h1 := vsOf_id ha
  have h2 := vsOf_id hb
  unfold vsOf at h1 h2
  rw [← h1, ← h2, this]
theorem tabAt_vsLess (a b : List Kn) {r : Nat} (hr : r < 16) : tabAt (vsLess a b) r = lessR (tabAt a r) (tabAt b r) := by
  unfold vsLess
  rw [tabAt_from]
  have hl : (lessTab (tabOf a) (tabOf b)).length = 16 := by unfold lessTab; rw [List.length_zipWith, tabOf_len, tabOf_len]; rfl
  rw [dif_pos ⟨Nat.zero_le _, by omega⟩]
  have hg : (lessTab (tabOf a) (tabOf b))[r]? = some (lessR (tabAt a r) (tabAt b r)) := by
    unfold lessTab; rw [List.getElem?_zipWith, tabOf_get _ hr, tabOf_get _ hr]
  obtain ⟨h1, h2⟩ := List.getElem?_eq_some_iff.1 hg
  simp only [Nat.sub_zero, h2]
  exact ofR_id (opR_ok rfl _ _).1
theorem tabAt_vsOf (s : List Kn) {r : Nat} (hr : r < 16) : tabAt (vsOf ofR s) r = ofR (tabAt s r) := by
  have h := tabOf_vsOf s
  have h1 := tabOf_get (vsOf ofR s) hr
  rw [h, List.getElem?_map, tabOf_get _ hr] at h1
  exact (Option.some.inj h1).symm
theorem lessR_has (a b : List Rn) (n : Int) : hasR (lessR a b) n ↔ hasR a n ∧ ¬ hasR b n := by
  unfold lessR
  rw [(opR_ok rfl a b).2 n, byR, lessK, Bool.and_eq_true, hasRb_iff, Bool.not_eq_true', ← Bool.not_eq_true, hasRb_iff]
theorem tabAt_app (a b : List Kn) (r : Nat) : tabAt (a ++ b) r = tabAt a r ++ tabAt b r := by unfold tabAt; rw [List.flatMap_append]
/-- what one has, and what the other has more: what both have -/
theorem vs_both {x y : List Kn} : vsOf ofR (x ++ vsLess y x) = vsOf ofR (x ++ y) := by
  refine knsOk_uniq (vsOf_ok _) (vsOf_ok _) (fun r hr n => ?_)
  rw [tabAt_vsOf _ hr, tabAt_vsOf _ hr, ofR_has, ofR_has, tabAt_app, tabAt_app, hasR_app, hasR_app, tabAt_vsLess _ _ hr, lessR_has]
  constructor
  · rintro (h | ⟨h, _⟩)
    · exact .inl h
    · exact .inr h
  · rintro (h | h)
    · exact .inl h
    · by_cases c : hasR (tabAt x r) n
      · exact .inl c
      · exact .inr ⟨h, c⟩
theorem vs_self (x : List Kn) : vsLess x x = [] := by
  refine knsOk_uniq (vsLess_ok x x) knsOk_nil (fun r hr n => ?_)
  rw [tabAt_vsLess _ _ hr, lessR_has]
  refine ⟨fun ⟨a, b⟩ => absurd a b, fun h => ?_⟩
  exact absurd h (hasR_nil n)
/-! ### knowledge, text by text -/
theorem lessKn_cst (a b : List Pc) : CstT (fun s => vsLess (atK a s) (atK b s)) (edgK (a ++ b)) := fun e n hen h => by
  show vsLess (atK a e) (atK b e) = vsLess (atK a n) (atK b n)
  rw [atK_mid hen (fun p hp m hm => h m (edgK_isEdge (List.mem_append_left _ hp) hm)), atK_mid hen (fun p hp m hm => h m (edgK_isEdge (List.mem_append_right _ hp) hm))]
theorem lessKn_ok (a b : List Pc) : pcsOk (lessKn a b) ∧ ∀ s, getK (lessKn a b) s = vsLess (atK a s) (atK b s) := bldK_ok (fun _ => vsLess_ok _ _) (edgK_up _) (edgK_ok _) (edgK_em _) (lessKn_cst a b)
theorem atK_or (a b : List Pc) (s : ByteArray) : atK (a ++ b) s = vsOf ofR (atK a s ++ atK b s) := by
  rw [← atK_app]
  have := mkSet_or (atK a s) (atK b s)
  rw [vsOf_id (atK_ok a s), vsOf_id (atK_ok b s)] at this
  exact this
/-- a delta, applied, gives all that both have -/
theorem delta_join (a b : List Pc) : ofK (a ++ lessKn b a) = ofK (a ++ b) := by
  refine pcsOk_uniq (ofK_ok _).1 (ofK_ok _).1 (fun s => ?_)
  rw [(ofK_ok _).2, (ofK_ok _).2, atK_or, atK_or, atK_get (lessKn_ok b a).1, (lessKn_ok b a).2]
  exact vs_both
theorem delta_self (b : List Pc) : lessKn b b = [] := by
  refine pcsOk_uniq (lessKn_ok b b).1 pcsOk_nil (fun s => ?_)
  rw [(lessKn_ok b b).2, vs_self]
  rfl
end Go.Proofs.YtbpmafpmlapekaaGreat
namespace Go.Proofs.YtbpmafpmlapekaaGreat
theorem numI_pos (n : Int) : 1 ≤ (numI n).length := by
  unfold numI
  rw [numB]
  split <;> simp
theorem runsB_ge : ∀ (l : List Rn) (was : Int), l.length ≤ (runsB was l).length := by
  intro l
  induction l with
  | nil => intro _; simp [runsB]
  | cons r l ih =>
    intro was
    have h1 := ih r.to
    have h2 := numI_pos (r.fr - was)
    rw [runsB, List.length_append, List.length_append, List.length_cons]
    omega
theorem knB_ge (k : Kn) : 1 + k.runs.length ≤ (knB k).length := by
  have h1 := runsB_ge k.runs 0
  have h2 := numI_pos k.rep
  unfold knB
  rw [List.length_append, List.length_append]; omega
theorem setB_ge (s : List Kn) : s.length + (s.flatMap Kn.runs).length ≤ (setB s).length := by
  have : ∀ s : List Kn, s.length + (s.flatMap Kn.runs).length ≤ (s.flatMap knB).length := by
    intro s
    induction s with
    | nil => simp
    | cons k s ih =>
      have := knB_ge k
      rw [List.flatMap_cons, List.flatMap_cons, List.length_append, List.length_append, List.length_cons]; omega
  have := this s
  unfold setB
  rw [List.length_append]; omega
theorem knowB_ge (k : List Pc) : (k.flatMap Pc.set).length + ((k.flatMap Pc.set).flatMap Kn.runs).length ≤ (knowB k).length := by
  have : ∀ k : List Pc, (k.flatMap Pc.set).length + ((k.flatMap Pc.set).flatMap Kn.runs).length ≤ (k.flatMap pcB).length := by
    intro k
    induction k with
    | nil => simp
    | cons p k ih =>
      have h1 := setB_ge p.set
      rw [List.flatMap_cons, List.flatMap_cons, List.flatMap_append, List.length_append, List.length_append, List.length_append]
      unfold pcB at *
      rw [List.length_append]; omega
  have := this k
  unfold knowB
  rw [List.length_append]; omega
/-- what is read of bytes is no more than they are -/
theorem rdKnow_mid (d : List UInt8) : (rdKnow d).1.length ≤ 4096 ∧ ((rdKnow d).1.flatMap Pc.set).length ≤ d.length ∧ (((rdKnow d).1.flatMap Pc.set).flatMap Kn.runs).length ≤ d.length := by
  by_cases h : (rdKnow d).2 = 0
  · obtain ⟨_, h2, h3⟩ := rdKnow_back h
    have h4 := knowB_ge (rdKnow d).1
    rw [h3] at h4
    exact ⟨by omega, by omega, by omega⟩
  · have : (rdKnow d).1 = [] := by
      unfold rdKnow finL at *
      split
      · rfl
      · rename_i c
        split
        · rename_i c2
          rw [if_neg c, if_pos c2] at h
          exact absurd rfl h
        · rfl
    rw [this]
    simp
/-- each set of what is built is what was asked for somewhere -/
theorem bldK_set (F : ByteArray → List Kn) (E : List ByteArray) : ∀ p ∈ bldK F E, ∃ e, p.set = F e := by
  have h1 : ∀ (l : List Pc) (c : Pc), ∀ p ∈ mgT c l, ∃ q ∈ c :: l, p.set = q.set := by
    intro l
    induction l with
    | nil =>
      intro c p hp
      have e : p = c := by simpa [mgT] using hp
      exact ⟨c, by simp, by rw [e]⟩
    | cons r l ih =>
      intro c p hp
      rw [mgT] at hp
      split at hp
      · obtain ⟨q, hq, e⟩ := ih _ p hp
        rcases List.mem_cons.1 hq with rfl | hq
        · exact ⟨c, by simp, e⟩
        · exact ⟨q, by simp [hq], e⟩
      · rcases List.mem_cons.1 hp with rfl | hp
        · exact ⟨p, by simp, rfl⟩
        · obtain ⟨q, hq, e⟩ := ih _ p hp
          exact ⟨q, List.mem_cons_of_mem _ hq, e⟩
  have h2 : ∀ (E : List ByteArray), ∀ p ∈ segT F E, ∃ e, p.set = F e := by
    intro E
    induction E with
    | nil => intro p hp; simp [segT] at hp
    | cons e E ih =>
      intro p hp
      rw [segT, List.mem_append] at hp
      rcases hp with hp | hp
      · split at hp
        · simp at hp
        · have hp : p = ⟨nextR e E, F e⟩ := by simpa using hp
          exact ⟨e, by rw [hp]⟩
      · exact ih p hp
  intro p hp
  unfold bldK mergeK at hp
  have h3 := h2 E
  generalize segT F E = T at *
  cases T with
  | nil => simp at hp
  | cons c l =>
    obtain ⟨q, hq, e⟩ := h1 l c p hp
    obtain ⟨e', h⟩ := h3 q hq
    exact ⟨e', e.trans h⟩
def shortK (k : List Pc) : Prop := ∀ p ∈ k, (p.set.flatMap Kn.runs).length ≤ 256
theorem long_short {k : List Pc} {most : Int} (h : longPcs k most = false) : shortK k := fun p hp => by
  obtain ⟨_, h2⟩ := longPcs_sz h
  obtain ⟨_, _, h3⟩ := h2 p hp
  obtain ⟨g1, g2⟩ := longKns_sz h3
  have : ∀ l : List Kn, (∀ k ∈ l, (k.runs.length : Int) ≤ 16) → (l.flatMap Kn.runs).length ≤ 16 * l.length := by
    intro l
    induction l with
    | nil => intro _; simp
    | cons x l ih =>
      intro h
      have h1 := h x List.mem_cons_self
      have h2 := ih (fun y hy => h y (List.mem_cons_of_mem _ hy))
      rw [List.flatMap_cons, List.length_append, List.length_cons]; omega
  have := this _ g2
  omega
theorem getK_short {k : List Pc} (h : shortK k) (s : ByteArray) : ((getK k s).flatMap Kn.runs).length ≤ 256 := by
  induction k with
  | nil => simp [getK]
  | cons p k ih =>
    rw [getK]
    split
    · exact h p (by simp)
    · exact ih (fun q hq => h q (List.mem_cons_of_mem _ hq))
theorem lessKn_set {a b : List Pc} (ha : pcsOk a) (hb : pcsOk b) (sa : shortK a) (sb : shortK b) : ∀ p ∈ lessKn a b, p.set.length ≤ 16 ∧ (p.set.flatMap Kn.runs).length ≤ 16384 ∧ fewS p.set := fun p hp => by
  obtain ⟨e, he⟩ := bldK_set _ _ p hp
  have hl : (lessTab (tabOf (atK a e)) (tabOf (atK b e))).length = 16 := by unfold lessTab; rw [List.length_zipWith, tabOf_len, tabOf_len]; rfl
  have hT : ∀ l ∈ lessTab (tabOf (atK a e)) (tabOf (atK b e)), l.length ≤ 1024 := fun l hl' => by
    obtain ⟨t, u, ht, hu, rfl⟩ := zip_mem _ _ _ hl'
    have h1 := opR_len (byR lessK t u) t u
    obtain ⟨r, _, rfl⟩ := List.mem_map.1 ht
    obtain ⟨r', _, rfl⟩ := List.mem_map.1 hu
    have h2 := tabAt_len (atK a e) r
    have h3 := tabAt_len (atK b e) r'
    rw [atK_get ha] at h2
    rw [atK_get hb] at h3
    have h4 := getK_short sa e
    have h5 := getK_short sb e
    rw [atK_get ha, atK_get hb] at h1 ⊢
    unfold lessR
    omega
  have h := setFrom_sz (M := 1024) (lessTab (tabOf (atK a e)) (tabOf (atK b e))) 0 hT
  rw [hl] at h
  rw [he]
  refine ⟨h.1, h.2, fun k hk => ?_⟩
  have : ∀ (T : List (List Rn)) (i : Nat), (∀ l ∈ T, l.length ≤ 1024) → ∀ k ∈ setFrom ofR i T, k.runs.length ≤ 1024 := by
    intro T
    induction T with
    | nil => intro i _ k hk; simp [setFrom] at hk
    | cons l T ih =>
      intro i hT k hk
      rw [setFrom, List.mem_append] at hk
      rcases hk with hk | hk
      · split at hk
        · simp at hk
        · have hk : k = ⟨(i : Int) + 1, ofR l⟩ := by simpa using hk
          rw [hk]
          have := ofR_len l
          have := hT l (by simp)
          simp only; omega
      · exact ih _ (fun l hl => hT l (List.mem_cons_of_mem _ hl)) k hk
  have := this _ 0 hT k hk
  omega
theorem lessKn_mid {a b : List Pc} (ha : pcsOk a) (hb : pcsOk b) (sa : shortK a) (sb : shortK b) (la : a.length ≤ 10) (lb : b.length ≤ 10) : (lessKn a b).length ≤ 41 ∧ ((lessKn a b).flatMap Pc.set).length ≤ 656 ∧ (((lessKn a b).flatMap Pc.set).flatMap Kn.runs).length ≤ 671744 := by
  have hl : (lessKn a b).length ≤ 41 := by
    have h1 := bldK_len (fun s => vsLess (atK a s) (atK b s)) (edgK (a ++ b))
    have h2 := edgK_len (a ++ b)
    rw [List.length_append] at h2
    unfold lessKn
    omega
  have hs := lessKn_set ha hb sa sb
  generalize lessKn a b = L at *
  have : ∀ L : List Pc, (∀ p ∈ L, p.set.length ≤ 16 ∧ (p.set.flatMap Kn.runs).length ≤ 16384 ∧ fewS p.set) → (L.flatMap Pc.set).length ≤ 16 * L.length ∧ ((L.flatMap Pc.set).flatMap Kn.runs).length ≤ 16384 * L.length := by
    intro L
    induction L with
    | nil => intro _; simp
    | cons p L ih =>
      intro h
      have h1 := h p (by simp)
      have h2 := ih (fun q hq => h q (List.mem_cons_of_mem _ hq))
      rw [List.flatMap_cons, List.flatMap_append, List.length_append, List.length_append, List.length_cons]; omega
  have := this L hs
  exact ⟨hl, by omega, by omega⟩
/-- what a delta makes of knowledge -/
def applyK (a : List Pc) (d : List UInt8) : List Pc × Int := if pcsOk a then (if (rdKnow d).2 = 0 then (ofK (a ++ (rdKnow d).1), 0) else ([], (rdKnow d).2)) else ([], 2)
end Go.Proofs.YtbpmafpmlapekaaGreat
