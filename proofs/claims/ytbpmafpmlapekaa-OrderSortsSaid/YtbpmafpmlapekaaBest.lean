/- Items merged: of each key the one that wins; merging in parts comes to the same. No program in sight. -/
import Derived.Test.YtbpmafpmlapekaaWins
namespace Go.Proofs.Ytbpmafpmlapekaa
open Go.RowKit
/-- of two, the one that wins; the first, if neither does -/
def comb : Option It → Option It → Option It
  | none, b => b
  | some a, none => some a
  | some a, some b => if cmpI b a > 0 then some b else some a
theorem comb_none (a : Option It) : comb a none = a := by cases a <;> rfl
theorem cmpI_pos (x y : It) : cmpI x y > 0 ↔ (x.rank > y.rank ∨ x.rank = y.rank ∧ (x.rep > y.rep ∨ x.rep = y.rep ∧ x.cnt > y.cnt)) := by
  unfold cmpI cmpV
  split
  · exact ⟨fun _ => .inl (by assumption), fun _ => by decide⟩
  · split
    · exact ⟨fun h => absurd h (by decide), fun h => by omega⟩
    · split
      · exact ⟨fun h => absurd h (by decide), fun h => by omega⟩
      · split
        · exact ⟨fun h => absurd h (by decide), fun h => by omega⟩
        · exact ⟨fun h => by omega, fun h => by decide⟩
theorem comb_assoc (a b c : Option It) : comb (comb a b) c = comb a (comb b c) := by
  cases a with
  | none => rfl
  | some a =>
    cases b with
    | none => rfl
    | some b =>
      cases c with
      | none => simp only [comb_none]
      | some c =>
        simp only [comb]
        by_cases h1 : cmpI b a > 0 <;> by_cases h2 : cmpI c b > 0 <;> simp only [h1, h2, if_true, if_false]
        all_goals (rw [cmpI_pos] at h1 h2)
        · rw [if_pos]; rw [cmpI_pos]; omega
        · rw [if_neg]; rw [cmpI_pos]; omega
theorem comb_self (a : Option It) : comb a a = a := by
  cases a with
  | none => rfl
  | some a => simp only [comb]; rw [if_neg]; rw [cmpI_pos]; omega
def lkF (b : Option It) (x : It) : Option It := comb b (some x)
/-- the one that wins of a key -/
def lookK (k : ByteArray) (l : List It) : Option It := (l.filter fun x => x.key == k).foldl lkF none
theorem lkF_from (l : List It) : ∀ b, l.foldl lkF b = comb b (l.foldl lkF none) := by
  induction l with
  | nil => intro b; exact (comb_none b).symm
  | cons x l ih =>
    intro b
    rw [List.foldl_cons, List.foldl_cons, ih (lkF b x), ih (lkF none x)]
    exact comb_assoc b (some x) _
theorem look_app (k : ByteArray) (l r : List It) : lookK k (l ++ r) = comb (lookK k l) (lookK k r) := by
  unfold lookK
  rw [List.filter_append, List.foldl_append, lkF_from]
theorem look_one (k : ByteArray) (x : It) : lookK k [x] = if x.key == k then some x else none := by
  unfold lookK
  rw [List.filter_cons]
  split <;> rfl
theorem look_none {k : ByteArray} {l : List It} (h : ∀ x ∈ l, x.key ≠ k) : lookK k l = none := by
  unfold lookK
  rw [List.filter_eq_nil_iff.2 (fun x hx => by simpa [sbeq] using h x hx)]; rfl
/-! ### keys in order -/
theorem cmpL_anti : ∀ (a b : List UInt8), cmpL b a = - cmpL a b ∧ (cmpL a b = 0 → a = b) := by
  intro a
  induction a with
  | nil => intro b; cases b <;> simp [cmpL]
  | cons x a ih =>
    intro b
    cases b with
    | nil => simp [cmpL]
    | cons y b =>
      obtain ⟨h1, h2⟩ := ih b
      simp only [cmpL]
      refine ⟨?_, ?_⟩
      · split
        · split
          · omega
          · rfl
        · split
          · rfl
          · exact h1
      · split
        · intro h; cases h
        · split
          · intro h; cases h
          · intro h
            rw [h2 h, show x = y from UInt8.toNat_inj.1 (by omega)]
theorem cmpB_eq (s t : ByteArray) : cmpB s t = 0 ↔ s = t := by
  constructor
  · intro h
    have := (cmpL_anti s.data.toList t.data.toList).2 h
    cases s; cases t; simp only at this; rw [Array.toList_inj.1 this]
  · rintro rfl
    exact (cmpL_lt s.data.toList [] []).1
theorem cmpB_anti (s t : ByteArray) : cmpB t s = - cmpB s t := (cmpL_anti _ _).1
theorem eqv_key (x y : It) : eqv ltK x y = (y.key == x.key) := by
  have h1 := cmpB_eq y.key x.key
  have h2 := cmpB_anti y.key x.key
  rw [Bool.eq_iff_iff, sbeq, ← h1]
  unfold eqv ltK
  simp only [Bool.and_eq_true, Bool.not_eq_true', decide_eq_false_iff_not]
  omega
theorem eqv_fun (x : It) : eqv ltK x = fun y => y.key == x.key := funext (eqv_key x)
theorem look_alk {M N : List It} (h : Alk ltK M N) (k : ByteArray) : lookK k N = lookK k M := by
  have := h ⟨k, 0, 0, 0, 0, false, ⟨#[]⟩⟩
  simp only [eqv_fun] at this
  unfold lookK; rw [this]
/-- keys that rise -/
def Up (l : List It) : Prop := l.Pairwise fun x y => ltK x y = true
theorem Up.srt {l : List It} (h : Up l) : Srt ltK l := h.imp fun h => ltK_wo.asym h
theorem ltK_ne {x y : It} (h : ltK x y = true) : x.key ≠ y.key := fun e => by
  rw [ltK_t, e, (cmpB_eq _ _).2 rfl] at h; omega
theorem ltK_tri {x y : It} (h1 : ltK x y = false) (h2 : y.key ≠ x.key) : ltK y x = true := by
  rw [ltK_f] at h1
  have h3 := cmpB_anti x.key y.key
  have h4 : cmpB y.key x.key ≠ 0 := mt (cmpB_eq y.key x.key).1 h2
  rw [ltK_t]; omega
theorem Up.filter {l : List It} (h : Up l) (k : ByteArray) : l.filter (fun x => x.key == k) = (lookK k l).toList := by
  unfold lookK
  suffices hs : ∃ o : Option It, l.filter (fun x => x.key == k) = o.toList by
    obtain ⟨o, ho⟩ := hs
    rw [ho]; cases o <;> rfl
  induction l with
  | nil => exact ⟨none, rfl⟩
  | cons x l ih =>
    have h' := List.pairwise_cons.1 h
    rw [List.filter_cons]
    split
    · rename_i hx
      rw [sbeq] at hx
      refine ⟨some x, ?_⟩
      rw [List.filter_eq_nil_iff.2 (fun y hy e => by
        rw [sbeq] at e
        exact ltK_ne (h'.1 y hy) (hx.trans e.symm))]
      rfl
    · exact ih h'.2
theorem Up.uniq {M N : List It} (hM : Up M) (hN : Up N) (h : ∀ k, lookK k M = lookK k N) : M = N :=
  Srt.uniq ltK_wo hM.srt hN.srt fun x => by simp only [eqv_fun]; rw [hN.filter, hM.filter, h]
theorem mrg_spec : ∀ (r P out : List It), Srt ltK r → Up out → (∀ z ∈ out, ∀ x ∈ r, ltK x z = false) → (∀ z ∈ out, z ∈ P) → (∀ k, lookK k out = lookK k P) →
    Up (r.foldl mrgF out) ∧ (∀ z ∈ r.foldl mrgF out, z ∈ P ++ r) ∧ ∀ k, lookK k (r.foldl mrgF out) = lookK k (P ++ r) := by
  intro r
  induction r with
  | nil => intro P out _ h2 _ h4 h5; simpa using ⟨h2, h4, h5⟩
  | cons x r ih =>
    intro P out h1 h2 h3 h4 h5
    have h1' := List.pairwise_cons.1 h1
    have key : Up (mrgF out x) ∧ (∀ z ∈ mrgF out x, z = x ∨ z ∈ out) ∧ ∀ k, lookK k (mrgF out x) = comb (lookK k out) (lookK k [x]) := by
      unfold mrgF
      rcases snoc_cases out with rfl | ⟨o, y, rfl⟩
      · exact ⟨List.pairwise_singleton _ _, fun z hz => by simp at hz; exact .inl hz, fun k => rfl⟩
      · simp only [List.reverse_append, List.reverse_cons, List.reverse_nil, List.nil_append, List.singleton_append, List.reverse_reverse]
        have hu := List.pairwise_append.1 h2
        have hyx := h3 y (by simp) x (by simp)
        split
        · rename_i hk
          have ho : ∀ z ∈ o, z.key ≠ y.key := fun z hz => ltK_ne (hu.2.2 z hz y (by simp))
          split
          · rename_i hc
            refine ⟨List.pairwise_append.2 ⟨hu.1, List.pairwise_singleton _ _, fun z hz w hw => ?_⟩, fun z hz => ?_, fun k => ?_⟩
            · simp at hw; subst hw
              have := hu.2.2 z hz y (by simp)
              rw [ltK_t, hk] at this; rw [ltK_t]; exact this
            · simp at hz ⊢; rcases hz with q | q
              · exact .inr (.inl q)
              · exact .inl q
            · rw [look_app, look_app, look_one, look_one, hk]
              by_cases hkk : (x.key == k) = true
              · simp only [hkk, if_true]
                rw [look_none (fun z hz e => ho z hz (by rw [e, hk, (sbeq _ _).1 hkk]))]
                simp [comb, hc]
              · simp only [hkk]; simp [comb_none]
          · rename_i hc
            refine ⟨h2, fun z hz => .inr hz, fun k => ?_⟩
            rw [look_app, look_one, look_one, hk]
            by_cases hkk : (x.key == k) = true
            · simp only [hkk, if_true]
              rw [look_none (fun z hz e => ho z hz (by rw [e, hk, (sbeq _ _).1 hkk]))]
              simp only [comb]; rw [if_neg hc]
            · simp only [hkk]; simp [comb_none]
        · rename_i hk
          have hlt := ltK_tri hyx hk
          refine ⟨List.pairwise_append.2 ⟨h2, List.pairwise_singleton _ _, fun z hz w hw => ?_⟩, fun z hz => ?_, fun k => look_app k _ _⟩
          · simp at hw; subst hw
            rcases List.mem_append.1 hz with q | q
            · exact ltK_wo.tr z y _ (hu.2.2 z q y (by simp)) hlt
            · simp at q; subst q; exact hlt
          · rcases List.mem_append.1 hz with q | q
            · exact .inr q
            · simp at q; exact .inl q
    obtain ⟨k1, k2, k3⟩ := key
    have := ih (P ++ [x]) (mrgF out x) h1'.2 k1 (fun z hz w hw => ?_) (fun z hz => ?_) (fun k => by rw [k3, look_app, h5])
    · simpa using this
    · rcases k2 z hz with q | q
      · subst q; exact h1'.1 w hw
      · exact h3 z q w (by simp [hw])
    · rcases k2 z hz with q | q
      · subst q; simp
      · exact List.mem_append_left _ (h4 z q)
/-- of right items, of each key the one that wins, in order -/
theorem mergeK_spec (ls : List (List It)) : Up (mergeK ls) ∧ (∀ z ∈ mergeK ls, z ∈ ls.flatten.filter itR) ∧ ∀ k, lookK k (mergeK ls) = lookK k (ls.flatten.filter itR) := by
  unfold mergeK
  generalize ls.flatten.filter itR = T
  obtain ⟨h1, h2, h3⟩ := mrg_spec (srtK T) [] [] (srtK_srt T) List.Pairwise.nil (fun z h => by simp at h) (fun z h => by simp at h) (fun _ => rfl)
  exact ⟨h1, fun z hz => (srtK_alk T).mem ltK_wo (by simpa using h2 z hz), fun k => by rw [h3, List.nil_append, look_alk (srtK_alk T)]⟩
theorem mergeK_right {ls : List (List It)} : (mergeK ls).filter itR = mergeK ls := List.filter_eq_self.2 fun z hz => (List.mem_filter.1 ((mergeK_spec ls).2.1 z hz)).2
theorem mergeK_len (ls : List (List It)) : (mergeK ls).length ≤ (ls.flatten.filter itR).length := by
  unfold mergeK
  generalize ls.flatten.filter itR = T
  have : ∀ (r out : List It), (r.foldl mrgF out).length ≤ out.length + r.length := by
    intro r
    induction r with
    | nil => intro out; exact Nat.le_refl _
    | cons x r ih =>
      intro out
      rw [List.foldl_cons, List.length_cons]
      have h1 := ih (mrgF out x)
      have h2 := mrgF_len out x
      omega
  have := this (srtK T) []
  rw [srtK_len] at this
  simpa using this
theorem mergeK_ext {ls ms : List (List It)} (h : ∀ k, lookK k (ls.flatten.filter itR) = lookK k (ms.flatten.filter itR)) : mergeK ls = mergeK ms :=
  Up.uniq (mergeK_spec ls).1 (mergeK_spec ms).1 fun k => by rw [(mergeK_spec ls).2.2, (mergeK_spec ms).2.2, h]
theorem merge_left (a b c : List It) : mergeK [mergeK [a, b], c] = mergeK [a, b, c] := mergeK_ext fun k => by
  have := (mergeK_spec [a, b]).2.2 k
  simp only [List.flatten_cons, List.flatten_nil, List.append_nil, List.filter_append, mergeK_right, look_app] at *
  rw [this, comb_assoc]
theorem merge_right (a b c : List It) : mergeK [a, mergeK [b, c]] = mergeK [a, b, c] := mergeK_ext fun k => by
  have := (mergeK_spec [b, c]).2.2 k
  simp only [List.flatten_cons, List.flatten_nil, List.append_nil, List.filter_append, mergeK_right, look_app] at *
  rw [this]
theorem merge_same (ls : List (List It)) : mergeK [mergeK ls, mergeK ls] = mergeK ls := by
  refine Up.uniq (mergeK_spec _).1 (mergeK_spec _).1 fun k => ?_
  rw [(mergeK_spec _).2.2]
  simp only [List.flatten_cons, List.flatten_nil, List.append_nil, List.filter_append, mergeK_right, look_app, comb_self]
end Go.Proofs.Ytbpmafpmlapekaa
