/- Texts joined: SoP Span. -/
import Derived.Test.YtbpmafpmlapekaaGreatJ19
import Derived.Test.YtbpmafpmlapekaaGreatJ29
import Derived.Shelf.Slices.CompactS
import Derived.Test.YtbpmafpmlapekaaGreatJ28
namespace Go.Proofs.YtbpmafpmlapekaaGreat
open Go.RowKit Go.Shelf
abbrev ofLB (l : List UInt8) : ByteArray := ⟨l.toArray⟩
abbrev toLB (s : ByteArray) : List UInt8 := s.data.toList
theorem ofLB_to (s : ByteArray) : ofLB (toLB s) = s := by cases s; rfl
theorem toLB_of (l : List UInt8) : toLB (ofLB l) = l := rfl
def compB (l : List ByteArray) : List ByteArray := (Lib.compact (l.map toLB)).map ofLB
section
variable {d : Array (List UInt8)}
theorem cmp_mem : ∀ (m : Nat) (x : List UInt8), x ∈ Lib.compactUpTo d m ↔ ∃ j, j < m ∧ d[j]! = x := by
  intro m
  induction m with
  | zero => intro x; simp [Lib.compactUpTo]
  | succ m ih =>
    intro x
    rw [Lib.compactUpTo_succ, List.mem_append, ih]
    by_cases k : Lib.keeps d m = true
    · rw [if_pos k]
      constructor
      · rintro (⟨j, h1, h2⟩ | h)
        · exact ⟨j, by omega, h2⟩
        · exact ⟨m, by omega, by simpa using Eq.symm (List.mem_singleton.1 h)⟩
      · rintro ⟨j, h1, h2⟩
        rcases Nat.lt_or_ge j m with q | q
        · exact .inl ⟨j, q, h2⟩
        · obtain rfl : j = m := by omega
          exact .inr (by rw [h2]; exact List.mem_singleton.2 rfl)
    · rw [if_neg k]
      constructor
      · rintro (⟨j, h1, h2⟩ | h)
        · exact ⟨j, by omega, h2⟩
        · cases h
      · rintro ⟨j, h1, h2⟩
        rcases Nat.lt_or_ge j m with q | q
        · exact .inl ⟨j, q, h2⟩
        · obtain rfl : j = m := by omega
          have : ¬ (j = 0 ∨ d[j]! ≠ d[j - 1]!) := by
            intro z; exact k (by unfold Lib.keeps; exact decide_eq_true z)
          have h3 : d[j]! = d[j - 1]! := Classical.byContradiction fun z => this (.inr z)
          exact .inl ⟨j - 1, by omega, by rw [← h3]; exact h2⟩
theorem cmp_up (h : ∀ i j, i < j → j < d.size → ¬ ofLB d[j]! < ofLB d[i]!) : ∀ m, m ≤ d.size → ((Lib.compactUpTo d m).map ofLB).Pairwise (· < ·) := by
  intro m
  induction m with
  | zero => intro _; simp [Lib.compactUpTo]
  | succ m ih =>
    intro hm
    have h1 := ih (by omega)
    rw [Lib.compactUpTo_succ]
    by_cases k : Lib.keeps d m = true
    · rw [if_pos k, List.map_append, List.pairwise_append]
      refine ⟨h1, by simp, fun x hx y hy => ?_⟩
      have hy : y = ofLB d[m]! := by simpa using hy
      subst hy
      obtain ⟨z, hz, rfl⟩ := List.mem_map.1 hx
      obtain ⟨j, hj, rfl⟩ := (cmp_mem m z).1 hz
      have k' : m = 0 ∨ d[m]! ≠ d[m - 1]! := by unfold Lib.keeps at k; exact of_decide_eq_true k
      have a := h (m - 1) m (by omega) (by omega)
      have ne : ofLB d[m]! ≠ ofLB d[m - 1]! := fun e => by
        rcases k' with q | q
        · omega
        · exact q (by have := congrArg toLB e; exact this)
      rcases Nat.lt_or_ge j (m - 1) with q | q
      · have b := h j (m - 1) q (by omega)
        grind
      · obtain rfl : j = m - 1 := by omega
        grind
    · rw [if_neg k, List.append_nil]
      exact h1
end
theorem compB_spec {l : List ByteArray} (h : l.Pairwise (fun x y => ¬ y < x)) : upT (compB l) ∧ ∀ s, s ∈ compB l ↔ s ∈ l := by
  have get : ∀ i (hi : i < l.length), (l.map toLB).toArray[i]! = toLB l[i] := fun i hi => by
    rw [getElem!_pos _ i (by simpa using hi)]; simp
  unfold compB Lib.compact
  refine ⟨cmp_up (fun i j hij hj => ?_) _ (by simp), fun s => ?_⟩
  · have hj : j < l.length := by simpa using hj
    rw [get i (by omega), get j hj, ofLB_to, ofLB_to]
    exact List.pairwise_iff_getElem.1 h i j (by omega) hj hij
  · rw [List.mem_map]
    constructor
    · rintro ⟨x, hx, rfl⟩
      obtain ⟨j, hj, rfl⟩ := (cmp_mem _ _).1 hx
      have hj : j < l.length := by simpa using hj
      rw [get j hj, ofLB_to]
      exact List.getElem_mem hj
    · intro hs
      obtain ⟨i, hi, rfl⟩ := List.getElem_of_mem hs
      exact ⟨toLB l[i], (cmp_mem _ _).2 ⟨i, by simpa using hi, get i hi⟩, ofLB_to _⟩
theorem compB_len (l : List ByteArray) : (compB l).length ≤ l.length := by
  unfold compB Lib.compact Lib.compactUpTo
  simp only [List.length_map]
  have := List.length_filter_le (Lib.keeps (List.map toLB l).toArray) (List.range l.length)
  simpa using this
/-- sorted, each once -/
theorem sortC_eq {l E : List ByteArray} (h : ∀ s ∈ l, s.size ≤ 1000000000000) (hu : upT E) (hm : ∀ s, s ∈ E ↔ s ∈ l) : compB (sortT l) = E := by
  obtain ⟨h1, h2⟩ := sortT_spec h
  obtain ⟨h3, h4⟩ := compB_spec h2
  exact upT_uniq h3 hu (fun s => by rw [h4, h1.mem_iff, hm])
def coCompS_ren : Go.Shelf.Ren := ⟨fun | 194 => 76 | n => n, fun | 0 => 0 | 3 => 3 | 4 => 4 | 9 => 9 | 31 => 71 | n => n, fun n => n⟩
theorem coCompS (h : Tryz.f76 = Body.n194 coCompS_ren) : Lays.n194 Tryz.prog coCompS_ren := { mixed := by kernel_rfl, f194 := Tryz.func76.trans (congrArg some h), t0 := Tryz.underlying0, a0 := Tryz.isAgg0, z0 := Tryz.sizeOf0, v0 := Tryz.zeroValue0, t3 := Tryz.underlying3, a3 := Tryz.isAgg3, z3 := Tryz.sizeOf3, v3 := Tryz.zeroValue3, t4 := Tryz.underlying4, a4 := Tryz.isAgg4, z4 := Tryz.sizeOf4, v4 := Tryz.zeroValue4, t9 := Tryz.underlying9, a9 := Tryz.isAgg9, z9 := Tryz.sizeOf9, v9 := Tryz.zeroValue9, t31 := Tryz.underlying71, a31 := Tryz.isAgg71, z31 := Tryz.sizeOf71, v31 := Tryz.zeroValue71 }
theorem comp_str (l : List ByteArray) (hl : l.length ≤ 1000000000) :
    FnM Tryz.prog 76 [.row 2000 0] [(2000, .row 9 1 (l.map strP))] (.row 3000 0) [(3000, .row 9 1 ((compB l).map strP))] := by
  refine ⟨ent_of Tryz.func76 (by kernel_rfl) (by kernel_rfl), ?_⟩
  intro C w vs hW hN hO hvl hvs hb
  obtain ⟨v0, rfl⟩ : ∃ v0, vs = [v0] := by match vs, hvl with | [a], _ => exact ⟨a, rfl⟩
  have h0 := hvs 0 v0 _ rfl rfl
  have e0 : v0 = C.G0.rh 2000 := h0.2 rfl
  subst e0
  have hrow := hb 2000
  have L := coCompS (by kernel_rfl)
  rcases hrow with ⟨q1, q2⟩ | ⟨cap, cs, q1, q2, q3, q4, q5, q6, q7⟩
  · have hl0 : l = [] := by simpa using q2
    rw [q1]
    refine (Any.slices_Compact_string_empty L none 0 w).mono ?_
    rintro e' w' ⟨rfl, rfl⟩
    refine ⟨_, ⟨C.G0.ow, C.G0.ph, fun i => if i = 3000 then .slice none 0 0 else C.G0.rh i⟩, rfl, ⟨rfl, rfl, rfl, Nat.le_refl _, fun _ _ _ => rfl, fun b id h => ⟨(hO b id h).1, .inr (hO b id h).2⟩, fun id hf => ⟨rfl, ?_⟩⟩, ⟨Nat.le_refl _, fun _ => rfl⟩, fun id => ?_⟩
    · by_cases q : id = 3000
      · subst q; cases hf
      · exact if_neg q
    · by_cases hid : id = 3000
      · subst hid
        exact .inl ⟨rfl, by rw [hl0]; rfl⟩
      · rw [show lookB id [(3000, Blk.row 9 1 ((compB l).map strP))] = .none by simp [lookB, nbeq_false hid]]; trivial
  · rw [List.length_map] at q1 q4
    obtain ⟨b, hb0⟩ : ∃ b, b = C.G0.ph 2000 := ⟨_, rfl⟩
    rw [← hb0] at q1 q2 q3
    have hbl := hO b 2000 q3
    have hH : Sort.Holds encStr w b 0 (l.map toLB).toArray := by
      intro t ht
      have ht' : t < l.length := by simpa using ht
      obtain ⟨_, g⟩ := q7 t (strP l[t]) (by rw [List.getElem?_map, List.getElem?_eq_getElem ht']; rfl)
      obtain ⟨y, y1, _, y3⟩ := g 0 _ rfl
      have y3 : y = .string l[t] := y3
      subst y3
      rw [Nat.mul_one, Nat.add_zero] at y1
      rw [getElem!_pos _ t (by simpa using ht'), Nat.zero_add]
      refine ⟨?_, by simp [World.frozen?, q2]⟩
      have e : encStr ((l.map toLB).toArray[t]'(by simpa using ht')) = .string l[t] := by simp [encStr]
      rw [e]
      simp [World.cell?, q2, y1]
    have := Any.slices_Compact_string (P := Tryz.prog) (ρ := coCompS_ren) L b 0 cap (l.map toLB) w hH (by simp; omega) (by simpa using q4)
    rw [List.length_map] at this
    rw [q1]
    refine this.mono ?_
    have hcl := compB_len l
    have hcE : (compB l).map toLB = Lib.compact (l.map toLB) := by
      unfold compB; rw [List.map_map]; exact List.map_id' _
    have hcL : (Lib.compact (l.map toLB)).length = (compB l).length := by rw [← hcE, List.length_map]
    rw [hcL]
    generalize Lib.compact (l.map toLB) = Z at *
    rintro e' w' ⟨rfl, n, rfl⟩
    have hblock : ∀ (f : Array Value → Array Value) b', b' ≠ b → (Sort.mapBlock (Sort.ahead w n) b f).heap[b']? = w.heap[b']? := fun f b' h' => by
      show ((w.heap.modify b (Sort.onCells f)))[b']? = _
      rw [Array.getElem?_modify, if_neg (Ne.symm h')]
    have hthis : ∀ (f : Array Value → Array Value), (Sort.mapBlock (Sort.ahead w n) b f).heap[b]? = some (.cells (f cs) 9 (0, 0)) := fun f => by
      show ((w.heap.modify b (Sort.onCells f)))[b]? = _
      rw [Array.getElem?_modify, if_pos rfl, q2]
      rfl
    have hsz : ∀ (f : Array Value → Array Value), w.heap.size = (Sort.mapBlock (Sort.ahead w n) b f).heap.size := fun f => by
      show _ = (w.heap.modify b (Sort.onCells f)).size
      simp
    unfold Sort.putRow
    generalize hF : Sort.putCells encStr 0 (Z ++ List.replicate (l.length - (compB l).length) []).toArray = f
    refine ⟨_, ⟨fun i => if C.G0.ow i = some 2000 then some 3000 else C.G0.ow i, fun i => if i = 3000 then b else C.G0.ph i, fun i => if i = 3000 then .slice (some ⟨b, 0, none⟩) (compB l).length cap else C.G0.rh i⟩, rfl,
      ⟨rfl, rfl, rfl, Nat.le_of_eq (hsz f), fun b' _ h' => hblock f b' (fun e => h' (e ▸ hbl.2)), fun b' id h => ?_, fun id hf => ?_⟩, ⟨Nat.le_refl _, fun _ => rfl⟩, fun id => ?_⟩
    · simp only at h
      have : C.G0.ow b' ≠ none := by
        intro e; rw [if_neg (by rw [e]; simp), e] at h; cases h
      obtain ⟨id', he⟩ := Option.ne_none_iff_exists'.1 this
      have := hO b' id' he
      exact ⟨by rw [← hsz f]; exact this.1, .inr this.2⟩
    · by_cases q : id = 3000
      · subst q; cases hf
      · exact ⟨if_neg q, if_neg q⟩
    · by_cases hid : id = 3000
      · subst hid
        refine .inr ⟨cap, f cs, ?_, ?_, ?_, ?_, q5, ?_, ?_⟩
        · simp only [if_true, List.length_map]
        · simp only [if_true]; exact hthis f
        · simp only [if_true]; rw [q3]; rfl
        · rw [List.length_map]; omega
        · rw [← hF, putC_size]; exact q6
        · intro i ps hi
          rw [List.getElem?_map] at hi
          obtain ⟨x, hx, rfl⟩ := Option.map_eq_some_iff.1 hi
          refine ⟨rfl, fun j A hj => ?_⟩
          obtain rfl : j = 0 := by
            have h1 : j < 1 := (List.getElem?_eq_some_iff.1 hj).1
            omega
          cases hj
          obtain ⟨hi', hx'⟩ := List.getElem?_eq_some_iff.1 hx
          have hzl : Z.length = (compB l).length := by rw [← hcE, List.length_map]
          rw [Nat.mul_one, Nat.add_zero, ← hF, put_get _ _ _ _ (by rw [q6]; omega) (by simp; omega)]
          refine ⟨_, rfl, rfl, ?_⟩
          show Value.string _ = Value.string x
          rw [getElem!_pos _ i (by simp; omega)]
          have e3 : (Z ++ List.replicate (l.length - (compB l).length) []).toArray[i]'(by simp; omega) = toLB x := by
            have hiz : i < Z.length := by omega
            have e4 : Z[i]'hiz = toLB x := by
              have : (compB l).map toLB = Z := hcE
              subst this
              rw [List.getElem_map, hx']
            rw [List.getElem_toArray, List.getElem_append_left hiz, e4]
          rw [e3]
      · rw [show lookB id [(3000, Blk.row 9 1 ((compB l).map strP))] = .none by simp [lookB, nbeq_false hid]]; trivial
end Go.Proofs.YtbpmafpmlapekaaGreat
namespace Go.Proofs.YtbpmafpmlapekaaGreat
open Go.RowKit
section
set_option maxRecDepth 10000
set_option maxHeartbeats 4000000
theorem span_Has (r : Rg) (s : ByteArray) (hs : s.size ≤ 1000000000) : Fn Tryz.prog 79 [rgC r, sC s] (boR (rgHas r s)) := by
  have h1 := span_Right r
  obtain ⟨lo, hi, op⟩ := r
  have hR := rgR_iff ⟨lo, hi, op⟩
  have hH : rgHas ⟨lo, hi, op⟩ s = (rgR ⟨lo, hi, op⟩ && (decide (lo ≤ s) && (op || decide (s < hi)))) := rfl
  generalize rgHas ⟨lo, hi, op⟩ s = b at *
  generalize rgR ⟨lo, hi, op⟩ = q at *
  subst hH
  show Fn Tryz.prog _ [.per (aggP [rawP (.string lo), rawP (.string hi), rawP (.bool op)]), sC s] (boR _)
  cases q with
  | false =>
    refine fn_intro Tryz.func79 rfl (by kernel_rfl) Tryz.ntmps79 (Nat.le_of_ble_eq_true rfl) ?_
    (have kc1 := h1; refine w0 ?_; (repeat' (first | refine W2.mk ?_ ?_ | refine W1.mk fun hc => ?_)); all_goals clear kc1)
    (refine ⟨(by first | exact .inl rfl | exact .inr rfl), res1 rfl ?_⟩)
    exact rv_bool rfl rfl
  | true =>
    have hlo := (hR.1 rfl).1
    simp only at hlo
    clear hR
    have h2 := key_Cmp lo s (by omega)
    have h3 := key_Cmp s hi (by omega)
    by_cases q1 : cmpB lo s ≤ 0
    · rw [decide_eq_true (show lo ≤ s from q1)]
      cases op with
      | true =>
        refine fn_intro Tryz.func79 rfl (by kernel_rfl) Tryz.ntmps79 (Nat.le_of_ble_eq_true rfl) ?_
        (have kc1 := h1; have kf1 := h2; have kf2 := h3; refine w0 ?_; (repeat' (first | refine W2.mk ?_ ?_ | refine W1.mk fun hc => ?_)); all_goals clear kf2 kf1 kc1)
        (refine ⟨(by first | exact .inl rfl | exact .inr rfl), res1 rfl ?_⟩)
        exact rv_bool rfl rfl
      | false =>
        refine fn_intro Tryz.func79 rfl (by kernel_rfl) Tryz.ntmps79 (Nat.le_of_ble_eq_true rfl) ?_
        (have kc1 := h1; have kf1 := h2; have kf2 := h3; refine w0 ?_; (repeat' (first | refine W2.mk ?_ ?_ | refine W1.mk fun hc => ?_)); all_goals clear kf2 kf1 kc1)
        (refine ⟨(by first | exact .inl rfl | exact .inr rfl), res1 rfl ?_⟩)
        exact rv_bool rfl rfl
    · rw [decide_eq_false (show ¬ lo ≤ s from q1)]
      refine fn_intro Tryz.func79 rfl (by kernel_rfl) Tryz.ntmps79 (Nat.le_of_ble_eq_true rfl) ?_
      (have kc1 := h1; have kc2 := h2; refine w0 ?_; (repeat' (first | refine W2.mk ?_ ?_ | refine W1.mk fun hc => ?_)); all_goals clear kc2 kc1)
      (refine ⟨(by first | exact .inl rfl | exact .inr rfl), res1 rfl ?_⟩)
      exact rv_bool rfl rfl
theorem rspan_Has (r : Rg) (s : ByteArray) (hs : s.size ≤ 1000000000) : Fn Tryz.prog 110 [rgC r, sC s] (boR (rgHas r s)) := by
  have h1 := rspan_Right r
  obtain ⟨lo, hi, op⟩ := r
  have hR := rgR_iff ⟨lo, hi, op⟩
  have hH : rgHas ⟨lo, hi, op⟩ s = (rgR ⟨lo, hi, op⟩ && (decide (lo ≤ s) && (op || decide (s < hi)))) := rfl
  generalize rgHas ⟨lo, hi, op⟩ s = b at *
  generalize rgR ⟨lo, hi, op⟩ = q at *
  subst hH
  show Fn Tryz.prog _ [.per (aggP [rawP (.string lo), rawP (.string hi), rawP (.bool op)]), sC s] (boR _)
  cases q with
  | false =>
    refine fn_intro Tryz.func110 rfl (by kernel_rfl) Tryz.ntmps110 (Nat.le_of_ble_eq_true rfl) ?_
    (have kc1 := h1; refine w0 ?_; (repeat' (first | refine W2.mk ?_ ?_ | refine W1.mk fun hc => ?_)); all_goals clear kc1)
    (refine ⟨(by first | exact .inl rfl | exact .inr rfl), res1 rfl ?_⟩)
    exact rv_bool rfl rfl
  | true =>
    have hlo := (hR.1 rfl).1
    simp only at hlo
    clear hR
    have h2 := ref_Less s lo (by omega)
    have h3 := ref_Less s hi (by omega)
    by_cases q1 : cmpB s lo < 0
    · rw [decide_eq_false (show ¬ lo ≤ s by have := (o_lt s lo).1 q1; grind)]
      rw [decide_eq_true q1] at h2
      refine fn_intro Tryz.func110 rfl (by kernel_rfl) Tryz.ntmps110 (Nat.le_of_ble_eq_true rfl) ?_
      (have kc1 := h1; have kc2 := h2; refine w0 ?_; (repeat' (first | refine W2.mk ?_ ?_ | refine W1.mk fun hc => ?_)); all_goals clear kc2 kc1)
      (refine ⟨(by first | exact .inl rfl | exact .inr rfl), res1 rfl ?_⟩)
      exact rv_bool rfl rfl
    · rw [decide_eq_true (show lo ≤ s by rw [o_lt] at q1; grind)]
      rw [decide_eq_false q1] at h2
      cases op with
      | true =>
        refine fn_intro Tryz.func110 rfl (by kernel_rfl) Tryz.ntmps110 (Nat.le_of_ble_eq_true rfl) ?_
        (have kc1 := h1; have kc2 := h2; refine w0 ?_; (repeat' (first | refine W2.mk ?_ ?_ | refine W1.mk fun hc => ?_)); all_goals clear kc2 kc1)
        (refine ⟨(by first | exact .inl rfl | exact .inr rfl), res1 rfl ?_⟩)
        exact rv_bool rfl rfl
      | false =>
        refine fn_intro Tryz.func110 rfl (by kernel_rfl) Tryz.ntmps110 (Nat.le_of_ble_eq_true rfl) ?_
        (have kc1 := h1; have kf1 := h2; have kf2 := h3; refine w0 ?_; (repeat' (first | refine W2.mk ?_ ?_ | refine W1.mk fun hc => ?_)); all_goals clear kf2 kf1 kc1)
        (refine ⟨(by first | exact .inl rfl | exact .inr rfl), res1 rfl ?_⟩)
        exact rv_bool rfl rfl
theorem rrgs_Has (l : List Rg) (s : ByteArray) (hl : l.length ≤ 1000000000) (hs : s.size ≤ 1000000000) : Fn Tryz.prog 94 [rgsB l, sC s] (boR (anyR l s)) := by
  generalize hb : anyR l s = b
  refine fn_intro Tryz.func94 rfl (by kernel_rfl) Tryz.ntmps94 (Nat.le_of_ble_eq_true rfl) ?_
  (refine w0 ?_; (repeat' (first | refine W2.mk ?_ ?_ | refine W1.mk fun hc => ?_)))
  refine AW_loopP (X := Nat) (fun z => z ≤ l.length ∧ anyR (l.drop z) s = b)
    (fun z => mkSt [(0, rgsB l), (1, sC s), (5, iC .i64 (z : Nat))] []) (fun z => l.length - z) 0 ⟨Nat.zero_le _, by rw [List.drop_zero]; exact hb⟩ ?_ ?_
  · exact le_auto
  · rintro z ⟨h1, h2⟩
    by_cases hz : z < l.length
    · have h3 := rspan_Has l[z] s hs
      rw [List.drop_eq_getElem_cons hz, anyR, List.any_cons] at h2
      cases hr : rgHas l[z] s with
      | true =>
        rw [hr] at h3 h2
        rw [Bool.true_or] at h2
        subst h2
        clear hb
        (have kc1 := h3; refine w0 ?_; (repeat' (first | refine W2.mk ?_ ?_ | refine W1.mk fun hc => ?_)); all_goals clear kc1)
        (refine ⟨(by first | exact .inl rfl | exact .inr rfl), res1 rfl ?_⟩)
        exact rv_bool rfl rfl
      | false =>
        rw [hr] at h3 h2
        rw [Bool.false_or] at h2
        clear hb
        (have kc1 := h3; refine w0 ?_; (repeat' (first | refine W2.mk ?_ ?_ | refine W1.mk fun hc => ?_)); all_goals clear kc1)
        refine ⟨z + 1, ⟨by omega, h2⟩, by omega, ?_⟩
        exact le_auto
    · obtain rfl : z = l.length := by omega
      rw [List.drop_length] at h2
      simp only [anyR, List.any_nil] at h2
      subst h2
      clear hb
      (refine w0 ?_; (repeat' (first | refine W2.mk ?_ ?_ | refine W1.mk fun hc => ?_)))
      (refine ⟨(by first | exact .inl rfl | exact .inr rfl), res1 rfl ?_⟩)
      exact rv_bool rfl rfl
end
end Go.Proofs.YtbpmafpmlapekaaGreat
