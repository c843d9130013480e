/- Texts joined: Swp CntS. -/
import Derived.Test.YtbpmafpmlapekaaGreatJ24
namespace Go.Proofs.YtbpmafpmlapekaaGreat
theorem rnsOk_gap {l : List Rn} (h : rnsOk l) : ∀ (d i : Nat) (hd : i + d + 1 < l.length), l[i].to + 2 ≤ l[i + d + 1].fr := by
  intro d
  induction d with
  | zero =>
    intro i hd
    have := (h (i + 1) (by omega) (by omega)).2 (by omega)
    simpa using this
  | succ d ih =>
    intro i hd
    have h1 := ih i (by omega)
    have h2 := (h (i + d + 2) (by omega) (by omega)).2 (by omega)
    have h3 := rnsOk_get h (i := i + d + 1) (by omega)
    simp only [show i + d + 2 - 1 = i + d + 1 by omega] at h2
    have e : l[i + (d + 1) + 1] = l[i + d + 2] := by congr 1
    rw [e]; omega
theorem rnsOk_far {l : List Rn} (h : rnsOk l) {i j : Nat} (hij : i < j) (hj : j < l.length) : l[i].to + 2 ≤ l[j].fr := by
  have h1 := rnsOk_gap h (j - i - 1) i (by omega)
  have e : l[i + (j - i - 1) + 1]'(by omega) = l[j] := by congr 1; omega
  rw [e] at h1; exact h1
/-- where a sweep stands in a list -/
structure SwP (l : List Rn) (a : Int) (i : Nat) : Prop where
  le : i ≤ l.length
  lo : ∀ j (h : j < l.length), j < i → l[j].to < a
  hi : ∀ j (h : j < l.length), i ≤ j → a ≤ l[j].to
/-- is a count in, and up to where is that so -/
def inS (l : List Rn) (j : Nat) (a e : Int) : Bool × Int := if h : j < l.length then (if a < l[j].fr then (false, min e (l[j].fr - 1)) else (true, min e l[j].to)) else (false, e)
def nxS (l : List Rn) (i : Nat) (e : Int) : Nat := if h : i < l.length then (if l[i].to = e then i + 1 else i) else i
def cnS (l : List Rn) (i : Nat) (a : Int) : Nat := 2 * i + (if h : i < l.length then (if l[i].fr ≤ a then 1 else 0) else 0)
section
variable {l : List Rn} {a e : Int} {i : Nat}
theorem cnS_le (h : i ≤ l.length) : cnS l i a ≤ 2 * l.length := by
  unfold cnS; split
  · split <;> omega
  · omega
theorem in_end (h : rnsOk l) (p : SwP l a i) (he : a ≤ e) : a ≤ (inS l i a e).2 ∧ (inS l i a e).2 ≤ e ∧ ∀ h : i < l.length, (inS l i a e).2 ≤ l[i].to := by
  unfold inS
  by_cases c : i < l.length
  · rw [dif_pos c]
    have h1 := rnsOk_get h c
    have h2 := p.hi i c (Nat.le_refl _)
    split
    · refine ⟨?_, ?_, fun _ => ?_⟩ <;> simp only <;> omega
    · refine ⟨?_, ?_, fun _ => ?_⟩ <;> simp only <;> omega
  · rw [dif_neg c]
    exact ⟨he, Int.le_refl _, fun q => absurd q c⟩
theorem in_has (h : rnsOk l) (p : SwP l a i) {n : Int} (h1 : a ≤ n) (h2 : n ≤ (inS l i a e).2) : hasRb l n = (inS l i a e).1 := by
  unfold inS at *
  by_cases c : i < l.length
  · rw [dif_pos c] at *
    by_cases d : a < l[i].fr
    · rw [if_pos d] at *
      simp only at h2 ⊢
      rw [← Bool.not_eq_true, hasRb_iff]
      rintro ⟨r, hr, _, q⟩
      obtain ⟨j, hj, rfl⟩ := List.getElem_of_mem hr
      rcases Nat.lt_or_ge j i with z | z
      · have := p.lo j hj z; omega
      · rcases Nat.lt_or_ge i j with y | y
        · have := rnsOk_far h y hj
          have := rnsOk_get h c
          omega
        · obtain rfl : j = i := by omega
          omega
    · rw [if_neg d] at *
      simp only at h2 ⊢
      rw [hasRb_iff]
      exact ⟨l[i], List.getElem_mem c, (h i c c).1, by omega, by omega⟩
  · rw [dif_neg c] at *
    simp only
    rw [← Bool.not_eq_true, hasRb_iff]
    rintro ⟨r, hr, _, q⟩
    obtain ⟨j, hj, rfl⟩ := List.getElem_of_mem hr
    have := p.lo j hj (by omega)
    omega
theorem sw_next (h : rnsOk l) (p : SwP l a i) (h1 : a ≤ e) (h2 : ∀ h : i < l.length, e ≤ l[i].to) : SwP l (e + 1) (nxS l i e) := by
  unfold nxS
  by_cases c : i < l.length
  · rw [dif_pos c]
    have h3 := h2 c
    split
    · rename_i d
      refine ⟨by omega, fun j hj hji => ?_, fun j hj hji => ?_⟩
      · rcases Nat.lt_or_ge j i with z | z
        · have := p.lo j hj z; omega
        · obtain rfl : j = i := by omega
          omega
      · have := rnsOk_far h (show i < j by omega) hj
        have := rnsOk_get h hj
        omega
    · refine ⟨p.le, fun j hj hji => ?_, fun j hj hji => ?_⟩
      · have := p.lo j hj hji; omega
      · rcases Nat.lt_or_ge i j with z | z
        · have := rnsOk_far h z hj
          have := rnsOk_get h hj
          omega
        · obtain rfl : j = i := by omega
          omega
  · rw [dif_neg c]
    exact ⟨p.le, fun j hj hji => by have := p.lo j hj hji; omega, fun j hj hji => by omega⟩
theorem sw_cn (h : rnsOk l) (h2 : ∀ h : i < l.length, e ≤ l[i].to) (h1 : a ≤ e) : cnS l i a ≤ cnS l (nxS l i e) (e + 1) ∧ ((∃ c : i < l.length, e = if a < l[i].fr then l[i].fr - 1 else l[i].to) → cnS l i a < cnS l (nxS l i e) (e + 1)) := by
  unfold cnS nxS
  by_cases c : i < l.length
  · have h3 := rnsOk_get h c
    have h4 := h2 c
    by_cases d : l[i].to = e
    · simp only [dif_pos c, if_pos d]
      refine ⟨by split <;> omega, fun _ => by split <;> omega⟩
    · simp only [dif_pos c, if_neg d]
      refine ⟨?_, fun ⟨_, z⟩ => ?_⟩
      · split <;> split <;> omega
      · by_cases y : a < l[i].fr
        · rw [if_pos y] at z
          rw [if_neg (by omega), if_pos (by omega)]; omega
        · rw [if_neg y] at z; omega
  · simp only [dif_neg c]
    exact ⟨Nat.le_refl _, fun ⟨z, _⟩ => absurd z c⟩
end
/-- a sweep through two lists: what has been said so far -/
structure Swp (keep : Bool → Bool → Bool) (A B : List Rn) (a : Int) (i k : Nat) (out : List Rn) : Prop where
  pos : 1 ≤ a
  p : SwP A a i
  q : SwP B a k
  right : ∀ r ∈ out, rnR r = true
  has : ∀ n, hasR out n ↔ n < a ∧ byR keep A B n = true
  few : out.length ≤ cnS A i a + cnS B k a
theorem Swp.start {keep : Bool → Bool → Bool} (hk : keep false false = false) {A B : List Rn} (hA : rnsOk A) (hB : rnsOk B) : Swp keep A B 1 0 0 [] := by
  refine ⟨Int.le_refl _, ⟨Nat.zero_le _, fun j _ h => by omega, fun j hj _ => ?_⟩, ⟨Nat.zero_le _, fun j _ h => by omega, fun j hj _ => ?_⟩, fun r hr => (by cases hr), fun n => ?_, Nat.zero_le _⟩
  · have := rnsOk_get hA hj; omega
  · have := rnsOk_get hB hj; omega
  · refine ⟨fun h => absurd h (hasR_nil n), fun ⟨h1, h2⟩ => ?_⟩
    have no : ∀ {l : List Rn}, rnsOk l → hasRb l n = false := fun {l} hl => by
      rw [← Bool.not_eq_true, hasRb_iff]
      intro q
      have := (hasR_pos q).1
      omega
    rw [byR, no hA, no hB, hk] at h2
    cases h2
theorem Swp.step {keep : Bool → Bool → Bool} {A B : List Rn} (hA : rnsOk A) (hB : rnsOk B) {a : Int} {i k : Nat} {out : List Rn} (s : Swp keep A B a i k out) (h1 : a ≤ 1099511627776) (h2 : i < A.length ∨ k < B.length) :
    ∀ x y, x = inS A i a 1099511627776 → y = inS B k a x.2 →
    a ≤ y.2 ∧ y.2 ≤ 1099511627776 ∧ Swp keep A B (y.2 + 1) (nxS A i y.2) (nxS B k y.2) (if keep x.1 y.1 then out ++ [⟨a, y.2⟩] else out) := by
  intro x y ex ey
  obtain ⟨a1, a2, a3⟩ := in_end hA s.p h1
  rw [← ex] at a1 a2 a3
  obtain ⟨b1, b2, b3⟩ := in_end (e := x.2) hB s.q a1
  rw [← ey] at b1 b2 b3
  have a3' : ∀ h : i < A.length, y.2 ≤ A[i].to := fun h => by have := a3 h; omega
  have hf : ∀ n, a ≤ n → n ≤ y.2 → byR keep A B n = keep x.1 y.1 := fun n c1 c2 => by
    unfold byR
    rw [in_has hA s.p c1 (show n ≤ (inS A i a 1099511627776).2 by rw [← ex]; omega), in_has hB s.q c1 (show n ≤ (inS B k a x.2).2 by rw [← ey]; exact c2), ← ex, ← ey]
  have cA := sw_cn hA a3' b1
  have cB := sw_cn hB b3 b1
  have hstrict : (∃ c : i < A.length, y.2 = if a < A[i].fr then A[i].fr - 1 else A[i].to) ∨ (∃ c : k < B.length, y.2 = if a < B[k].fr then B[k].fr - 1 else B[k].to) := by
    have hx : (∃ c : i < A.length, x.2 = if a < A[i].fr then A[i].fr - 1 else A[i].to) ∨ (¬ i < A.length ∧ x.2 = 1099511627776) := by
      by_cases c : i < A.length
      · have := rnsOk_get hA c
        refine .inl ⟨c, ?_⟩
        rw [ex]
        unfold inS
        rw [dif_pos c]
        split <;> simp only <;> omega
      · refine .inr ⟨c, ?_⟩
        rw [ex]
        unfold inS
        rw [dif_neg c]
    have hy : y.2 = x.2 ∧ ¬ k < B.length ∨ ∃ c : k < B.length, y.2 = min x.2 (if a < B[k].fr then B[k].fr - 1 else B[k].to) := by
      by_cases c : k < B.length
      · refine .inr ⟨c, ?_⟩
        rw [ey]
        unfold inS
        rw [dif_pos c]
        split <;> rfl
      · refine .inl ⟨?_, c⟩
        rw [ey]
        unfold inS
        rw [dif_neg c]
    rcases hy with ⟨y1, y2⟩ | ⟨c, y1⟩
    · rcases hx with ⟨c, x1⟩ | ⟨c, _⟩
      · exact .inl ⟨c, by rw [y1, x1]⟩
      · exact absurd h2 (by omega)
    · rcases hx with ⟨c', x1⟩ | ⟨c', x1⟩
      · by_cases z : x.2 ≤ (if a < B[k].fr then B[k].fr - 1 else B[k].to)
        · exact .inl ⟨c', by rw [y1, Int.min_eq_left z, x1]⟩
        · exact .inr ⟨c, by rw [y1, Int.min_eq_right (by omega)]⟩
      · have := rnsOk_get hB c
        refine .inr ⟨c, ?_⟩
        rw [y1, x1]
        split <;> omega
  have hlt : cnS A i a + cnS B k a < cnS A (nxS A i y.2) (y.2 + 1) + cnS B (nxS B k y.2) (y.2 + 1) := by
    rcases hstrict with z | z
    · have := cA.2 z; have := cB.1; omega
    · have := cB.2 z; have := cA.1; omega
  have hy40 : y.2 ≤ 1099511627776 := by omega
  have hay : a ≤ y.2 := b1
  refine ⟨hay, hy40, ⟨by have := s.pos; omega, sw_next hA s.p hay a3', sw_next hB s.q hay b3, ?_, ?_, ?_⟩⟩
  · split
    · intro r hr
      rcases List.mem_append.1 hr with q | q
      · exact s.right r q
      · have : r = ⟨a, y.2⟩ := by simpa using q
        subst this
        have := s.pos
        exact (rnR_iff _).2 (by simp only; omega)
    · exact s.right
  · intro n
    by_cases kx : keep x.1 y.1 = true
    · rw [if_pos kx, hasR_app, s.has n, hasR_cons]
      have hr : rnR ⟨a, y.2⟩ = true := by have := s.pos; exact (rnR_iff _).2 (by simp only; omega)
      constructor
      · rintro (⟨q1, q2⟩ | ⟨_, q1, q2⟩ | q)
        · exact ⟨by omega, q2⟩
        · simp only at q1 q2
          exact ⟨by omega, by rw [hf n q1 q2]; exact kx⟩
        · exact absurd q (hasR_nil n)
      · rintro ⟨q1, q2⟩
        by_cases z : n < a
        · exact .inl ⟨z, q2⟩
        · exact .inr (.inl ⟨hr, by simp only; omega, by simp only; omega⟩)
    · rw [if_neg kx, s.has n]
      constructor
      · rintro ⟨q1, q2⟩
        exact ⟨by omega, q2⟩
      · rintro ⟨q1, q2⟩
        refine ⟨?_, q2⟩
        by_cases z : n < a
        · exact z
        · rw [hf n (by omega) (by omega)] at q2
          exact absurd q2 kx
  · have := s.few
    split
    · rw [List.length_append, List.length_cons, List.length_nil]; omega
    · omega
theorem Swp.done {keep : Bool → Bool → Bool} (hk : keep false false = false) {A B : List Rn} {a : Int} {i k : Nat} {out : List Rn} (s : Swp keep A B a i k out) (h : ¬ a ≤ 1099511627776 ∨ ¬ i < A.length ∧ ¬ k < B.length) :
    ofR out = opR (byR keep A B) A B := by
  refine (opR_eq hk (ofR_ok out) (fun n => ?_)).symm
  rw [ofR_has, s.has n]
  refine ⟨fun q => q.2, fun q => ⟨?_, q⟩⟩
  refine Classical.byContradiction fun z => ?_
  have no : ∀ {l : List Rn} {i : Nat}, SwP l a i → (¬ a ≤ 1099511627776 ∨ ¬ i < l.length) → hasRb l n = false := fun {l i} p h => by
    rw [← Bool.not_eq_true, hasRb_iff]
    intro w
    have w' := hasR_pos w
    obtain ⟨r, hr, _, w1⟩ := w
    obtain ⟨j, hj, rfl⟩ := List.getElem_of_mem hr
    rcases h with h | h
    · omega
    · have := p.lo j hj (by omega); omega
  rw [byR, no s.p (h.imp id (·.1)), no s.q (h.imp id (·.2)), hk] at q
  cases q
theorem Swp.len {keep : Bool → Bool → Bool} {A B : List Rn} {a : Int} {i k : Nat} {out : List Rn} (s : Swp keep A B a i k out) : out.length ≤ 2 * (A.length + B.length) := by
  have h1 := s.few
  have h2 := cnS_le (a := a) s.p.le
  have h3 := cnS_le (a := a) s.q.le
  omega
/-- by right lists or by any with the same counts: one answer -/
theorem opR_of (keep : Bool → Bool → Bool) (hk : keep false false = false) (a b : List Rn) : opR (byR keep (ofR a) (ofR b)) (ofR a) (ofR b) = opR (byR keep a b) a b := by
  refine rnsOk_uniq (opR_ok hk _ _).1 (opR_ok hk _ _).1 (fun n => ?_)
  rw [(opR_ok hk _ _).2 n, (opR_ok hk _ _).2 n, byR, byR, hasRb_cong (ofR_has a n), hasRb_cong (ofR_has b n)]
end Go.Proofs.YtbpmafpmlapekaaGreat
namespace Go.Proofs.YtbpmafpmlapekaaGreat
open Go.RowKit
section
variable {P : Program} {n t : Nat} {ops : Array Oper} {o : Oper} {S : St}
theorem op_minZ {ty ty' : TypeId} {x y : Operand} {k : IntKind} {u v z : Int} (hp : Pl n o t) (ho : o.op = .call { callee := .builtin .min, args := #[x, y], argTypes := #[ty, ty'] }) (hx : S.opd x = iC k u) (hy : S.opd y = iC k v) (hz : (if v < u then v else u) = z) : OpOk n P ops o (opdN x ++ opdN y) (iC k z) [] S :=
  hz ▸ op_min hp ho hx hy
/-- a call of a function that has caught two things -/
theorem c_C2 {f : FuncId} {x0 : Operand} {xs : List Operand} (As : List Cnt) {c d c' d' : Cnt} {full : List Cnt} {pre post : List (Nat × Blk)} {r : Cnt} (sg : List (Nat × Nat)) (hf : FnM P f full pre r post) (hfl : As ++ [c', d'] = full := by rfl) (hp : PlM n o := by exact ⟨rfl, rfl⟩) (ho : isCallV o x0 xs := by exact ⟨_, rfl⟩) (hx : S.opd x0 = .clo2 f c d := by rfl)
    (hc : c.mp true (lk2 sg) S.ver z0 = c' := by rfl) (hd : d.mp true (lk2 sg) S.ver z0 = d' := by rfl) (hok : okS sg = true := by rfl)
    (hg : GMl S sg xs As := by first | ((repeat (first | exact GMl.nil | (refine GMl.cons ?_ ?_; focus (first | exact gq_per rfl | exact gq_lst rfl | exact gq_row rfl rfl rfl rfl | exact gq_bor rfl | exact gq_nil rfl | exact gq_nil' rfl | exact gq_ref rfl rfl)))); done) | fail) (hpre : PreM S sg pre := by first | ((repeat (first | exact PreM.nil | (refine PreM.cons rfl rfl ?_))); done) | fail) : OpOk n P ops o (opdN x0 ++ (callN S xs ++ sgN sg)) (r.mp false (lk1 sg) z0 (nvM S.ver sg)) (updM S post sg sg) S :=
  op_callM (cs := [c, d]) sg hp ho (head_clo2 hx (fun k h => by simp [h])) (by rw [← hfl, ← hc, ← hd] at hf; exact hf) hok (fun p h => by simp [sg_mem p h]) (hg.gives (fun _ h => by simp at h ⊢; exact .inr (.inl h)) (fun _ h => by simp [h])) hpre
end
theorem nx_cases (l : List Rn) (i : Nat) (e : Int) : (∃ c : i < l.length, l[i].to = e ∧ nxS l i e = i + 1) ∨ (∃ c : i < l.length, l[i].to ≠ e ∧ nxS l i e = i) ∨ (¬ i < l.length ∧ nxS l i e = i) := by
  unfold nxS
  by_cases c : i < l.length
  · rw [dif_pos c]
    by_cases d : l[i].to = e
    · exact .inl ⟨c, d, if_pos d⟩
    · exact .inr (.inl ⟨c, d, if_neg d⟩)
  · exact .inr (.inr ⟨c, dif_neg c⟩)
abbrev intB (n : Int) : Blk := .box 3 [iC .i64 n]
section
set_option maxRecDepth 10000
set_option maxHeartbeats 4000000
theorem cnt_in (l : List Rn) (j : Nat) (a e : Int) (hl : rnsOk l) :
    FnM Tryz.prog 125 [rnsB l, iC .i64 ((j : Nat) : Int), .ptr 1000 0 0, .ptr 1001 0 0] [(1000, intB a), (1001, intB e)] (bC (inS l j a e).1) [(1000, intB a), (1001, intB (inS l j a e).2)] := by
  unfold inS
  by_cases c : j < l.length
  · have h1 := rnsOk_get hl c
    simp only [dif_pos c]
    by_cases d : a < l[j].fr
    · simp only [if_pos d]
      have hM : (if l[j].fr - 1 < e then l[j].fr - 1 else e) = min e (l[j].fr - 1) := by omega
      generalize min e (l[j].fr - 1) = M at *
      refine fnm_intro Tryz.func125 rfl (by kernel_rfl) Tryz.ntmps125 (Nat.le_of_ble_eq_true rfl) ?_
      (repeat' (first | refine AW_seq ?_ | refine AW_block ?_ | refine AW_skip ?_ | refine AW_exit ?_ | refine AW_ret ?_ | refine AW_region ?_ | refine AW_draw mixed0 ?_ | refine AL_nil ?_ | refine AD_nil (by kernel_rfl) ?_ | (refine AW_cl rfl rfl ⟨fun hc => ?_, fun hc => ?_⟩ <;> (repeat rw [List.length_map] at hc) <;> (try exact absd hc)) | ((first | apply AL_t rfl | apply AL_0 rfl | apply AD_t rfl | apply AD_0 rfl); focus (first | ((apply u_k 19; (focus rfl); exact op_minZ ⟨rfl, rfl, rfl⟩ rfl rfl rfl hM)) | (apply u_g; (focus rfl); apply op_gyes rfl rfl rfl rfl rfl; ((apply u_k 19; (focus rfl); exact op_minZ ⟨rfl, rfl, rfl⟩ rfl rfl rfl hM))) | exact z_auto | fail)) | refine thenA_n ?_ | refine thenA_r ?_ | refine thenA_e ?_ | refine inB_n ?_ | refine inB_r ?_ | refine inB_hit ?_ | refine inB_miss rfl ?_ | ((first | refine AL_cl rfl rfl rfl ⟨fun hc => ?_, fun hc => ?_⟩ | refine AD_cl rfl rfl rfl ⟨fun hc => ?_, fun hc => ?_⟩) <;> (fail_if_success (have q : (true = true) := hc)) <;> (fail_if_success (have q : (false = false) := hc)) <;> (repeat rw [List.length_map] at hc) <;> (try exact absd hc)) | refine AW_cond_nil rfl rfl (fun hc => ?_) ?_))
      (refine ⟨(by first | exact .inl rfl | exact .inr rfl), resM1 [(1000, 1000), (1001, 1001)] rfl rfl ?_ ?_⟩; (focus (repeat (first | exact AllX.nil | (refine AllX.cons rfl ?_ ?_; (focus first | rfl | skip))))))
      exact rvm_bool rfl rfl
    · simp only [if_neg d]
      have hM : (if l[j].to < e then l[j].to else e) = min e l[j].to := by omega
      generalize min e l[j].to = M at *
      refine fnm_intro Tryz.func125 rfl (by kernel_rfl) Tryz.ntmps125 (Nat.le_of_ble_eq_true rfl) ?_
      (repeat' (first | refine AW_seq ?_ | refine AW_block ?_ | refine AW_skip ?_ | refine AW_exit ?_ | refine AW_ret ?_ | refine AW_region ?_ | refine AW_draw mixed0 ?_ | refine AL_nil ?_ | refine AD_nil (by kernel_rfl) ?_ | (refine AW_cl rfl rfl ⟨fun hc => ?_, fun hc => ?_⟩ <;> (repeat rw [List.length_map] at hc) <;> (try exact absd hc)) | ((first | apply AL_t rfl | apply AL_0 rfl | apply AD_t rfl | apply AD_0 rfl); focus (first | ((apply u_k 19; (focus rfl); exact op_minZ ⟨rfl, rfl, rfl⟩ rfl rfl rfl hM)) | (apply u_g; (focus rfl); apply op_gyes rfl rfl rfl rfl rfl; ((apply u_k 19; (focus rfl); exact op_minZ ⟨rfl, rfl, rfl⟩ rfl rfl rfl hM))) | exact z_auto | fail)) | refine thenA_n ?_ | refine thenA_r ?_ | refine thenA_e ?_ | refine inB_n ?_ | refine inB_r ?_ | refine inB_hit ?_ | refine inB_miss rfl ?_ | ((first | refine AL_cl rfl rfl rfl ⟨fun hc => ?_, fun hc => ?_⟩ | refine AD_cl rfl rfl rfl ⟨fun hc => ?_, fun hc => ?_⟩) <;> (fail_if_success (have q : (true = true) := hc)) <;> (fail_if_success (have q : (false = false) := hc)) <;> (repeat rw [List.length_map] at hc) <;> (try exact absd hc)) | refine AW_cond_nil rfl rfl (fun hc => ?_) ?_))
      (refine ⟨(by first | exact .inl rfl | exact .inr rfl), resM1 [(1000, 1000), (1001, 1001)] rfl rfl ?_ ?_⟩; (focus (repeat (first | exact AllX.nil | (refine AllX.cons rfl ?_ ?_; (focus first | rfl | skip))))))
      exact rvm_bool rfl rfl
  · simp only [dif_neg c]
    refine fnm_intro Tryz.func125 rfl (by kernel_rfl) Tryz.ntmps125 (Nat.le_of_ble_eq_true rfl) ?_
    (refine w0 ?_; (repeat' (first | refine W2.mk ?_ ?_ | refine W1.mk fun hc => ?_)))
    (refine ⟨(by first | exact .inl rfl | exact .inr rfl), resM1 [(1000, 1000), (1001, 1001)] rfl rfl ?_ ?_⟩; (focus (repeat (first | exact AllX.nil | (refine AllX.cons rfl ?_ ?_; (focus first | rfl | skip))))))
    exact rvm_bool rfl rfl
theorem cnt_less1 (x y : Bool) : FnM Tryz.prog 103 [bC x, bC y] [] (bC (lessK x y)) [] := by
  cases x
  · refine fnm_intro Tryz.func103 rfl (by kernel_rfl) Tryz.ntmps103 (Nat.le_of_ble_eq_true rfl) ?_
    (refine w0 ?_; (repeat' (first | refine W2.mk ?_ ?_ | refine W1.mk fun hc => ?_)))
    (refine ⟨(by first | exact .inl rfl | exact .inr rfl), resM1 [] rfl rfl .nil ?_⟩)
    exact rvm_bool rfl rfl
  · cases y
    · refine fnm_intro Tryz.func103 rfl (by kernel_rfl) Tryz.ntmps103 (Nat.le_of_ble_eq_true rfl) ?_
      (refine w0 ?_; (repeat' (first | refine W2.mk ?_ ?_ | refine W1.mk fun hc => ?_)))
      (refine ⟨(by first | exact .inl rfl | exact .inr rfl), resM1 [] rfl rfl .nil ?_⟩)
      exact rvm_bool rfl rfl
    · refine fnm_intro Tryz.func103 rfl (by kernel_rfl) Tryz.ntmps103 (Nat.le_of_ble_eq_true rfl) ?_
      (refine w0 ?_; (repeat' (first | refine W2.mk ?_ ?_ | refine W1.mk fun hc => ?_)))
      (refine ⟨(by first | exact .inl rfl | exact .inr rfl), resM1 [] rfl rfl .nil ?_⟩)
      exact rvm_bool rfl rfl
abbrev less1C : Cnt := .per (rawP (.func (.func 103) #[] #[]))
theorem cnt_sweepLess (a b : List Rn) (ha : a.length ≤ 100000000) (hb : b.length ≤ 100000000) : Fn Tryz.prog 102 [rnsB a, rnsB b, less1C] (ownRn (lessR a b)) := by
  have o1 := cnt_Of a (by omega)
  have o2 := cnt_Of b (by omega)
  have hA := ofR_ok a
  have hB := ofR_ok b
  have lA := ofR_len a
  have lB := ofR_len b
  have hR := opR_of lessK rfl a b
  rw [show opR (byR lessK a b) a b = lessR a b from rfl] at hR
  generalize lessR a b = R at *
  generalize ofR a = A at *
  generalize ofR b = B at *
  have s0 := Swp.start (keep := lessK) rfl hA hB
  refine fn_intro Tryz.func102 rfl (by kernel_rfl) Tryz.ntmps102 (Nat.le_of_ble_eq_true rfl) ?_
  (have ko1 := o1; have ko2 := o2; refine w0 ?_; (repeat' (first | refine W2.mk ?_ ?_ | refine W1.mk fun hc => ?_)); all_goals clear ko2 ko1)
  clear o1 o2
  refine AW_le (Le_nil 7 700 102 2 rfl rfl) (AW_le (Le_fz 16 _ 102 2 rfl rfl) (AW_le (Le_fz 18 _ 102 2 rfl rfl) ?_))
  refine AW_loopP (X := Int × Nat × Nat × List Rn) (fun z => Swp lessK A B z.1 z.2.1 z.2.2.1 z.2.2.2 ∧ z.1 ≤ 1099511627777)
    (fun z => mkSt [(0, .per (rnsP A)), (1, .per (rnsP B)), (2, less1C), (7, .row 700 0), (8, .ptr 8 0 0), (9, iC .i64 ((z.2.1 : Nat) : Int)), (10, iC .i64 ((z.2.2.1 : Nat) : Int))] [(8, intB z.1), (700, rnsW z.2.2.2)])
    (fun z => (1099511627778 - z.1).toNat) (1, 0, 0, []) ⟨s0, by simp only; omega⟩ ?_ ?_
  · exact le_auto
  · rintro ⟨at0, i, k, out⟩ ⟨s, hm⟩
    simp only at s hm ⊢
    clear s0
    have hol := s.len
    have hle := s.p.le
    have hle' := s.q.le
    have hpos := s.pos
    by_cases hgo : at0 ≤ 1099511627776 ∧ (i < A.length ∨ k < B.length)
    · have hstep := s.step hA hB hgo.1 hgo.2
      have c1 := cnt_in A i at0 1099511627776 hA
      have c2 := cnt_in B k at0 (inS A i at0 1099511627776).2 hB
      generalize hx : inS A i at0 1099511627776 = x at *
      generalize hy : inS B k at0 x.2 = y at *
      obtain ⟨x1, x2⟩ := x
      obtain ⟨y1, y2⟩ := y
      obtain ⟨q1, q2, q3⟩ := hstep _ _ rfl hy.symm
      have c3 := cnt_less1 x1 y1
      simp only at c1 c2 q1 q2 q3
      clear hstep hx hy s hA hB
      obtain ⟨g1, g2⟩ := hgo
      have nA := nx_cases A i y2
      have nB := nx_cases B k y2
      cases hk : lessK x1 y1 with
      | true =>
        rw [hk] at c3 q3
        rw [if_pos rfl] at q3
        (refine w0 ?_; (repeat' (first | refine W2.mk ?_ ?_ | refine W1.mk fun hc => ?_ | ((first | apply AL_t rfl | apply AL_0 rfl | apply AD_t rfl | apply AD_0 rfl); (focus (first | (exact c_C2 [rnsB A, iC .i64 ((i : Nat) : Int)] [(1000, 8), (1001, 11)] c1) | (exact c_C2 [rnsB B, iC .i64 ((k : Nat) : Int)] [(1000, 8), (1001, 11)] c2) | (exact c_Vx [] c3) | (apply u_g; (focus rfl); apply op_gyes rfl rfl rfl rfl rfl; first | (exact c_C2 [rnsB A, iC .i64 ((i : Nat) : Int)] [(1000, 8), (1001, 11)] c1) | (exact c_C2 [rnsB B, iC .i64 ((k : Nat) : Int)] [(1000, 8), (1001, 11)] c2) | (exact c_Vx [] c3)))); refine w0 ?_))))
        all_goals
          rcases nA with ⟨z1, z2, z3⟩ | ⟨z1, z2, z3⟩ | ⟨z1, z3⟩ <;> rcases nB with ⟨y1, y2, y3⟩ | ⟨y1, y2, y3⟩ | ⟨y1, y3⟩ <;> first
            | (exfalso; omega)
            | (rw [z3, y3] at q3
               refine ⟨(_, _, _, out ++ [_]), ⟨q3, by simp only; omega⟩, by simp only; omega, Le_trans (Le_mv 700 701) (Le_trans (Le_mv 701 700) ?_)⟩
               exact le_auto)
      | false =>
        rw [hk] at c3 q3
        rw [if_neg (by simp)] at q3
        (refine w0 ?_; (repeat' (first | refine W2.mk ?_ ?_ | refine W1.mk fun hc => ?_ | ((first | apply AL_t rfl | apply AL_0 rfl | apply AD_t rfl | apply AD_0 rfl); (focus (first | (exact c_C2 [rnsB A, iC .i64 ((i : Nat) : Int)] [(1000, 8), (1001, 11)] c1) | (exact c_C2 [rnsB B, iC .i64 ((k : Nat) : Int)] [(1000, 8), (1001, 11)] c2) | (exact c_Vx [] c3) | (apply u_g; (focus rfl); apply op_gyes rfl rfl rfl rfl rfl; first | (exact c_C2 [rnsB A, iC .i64 ((i : Nat) : Int)] [(1000, 8), (1001, 11)] c1) | (exact c_C2 [rnsB B, iC .i64 ((k : Nat) : Int)] [(1000, 8), (1001, 11)] c2) | (exact c_Vx [] c3)))); refine w0 ?_))))
        all_goals
          rcases nA with ⟨z1, z2, z3⟩ | ⟨z1, z2, z3⟩ | ⟨z1, z3⟩ <;> rcases nB with ⟨y1, y2, y3⟩ | ⟨y1, y2, y3⟩ | ⟨y1, y3⟩ <;> first
            | (exfalso; omega)
            | (rw [z3, y3] at q3
               refine ⟨(_, _, _, out), ⟨q3, by simp only; omega⟩, by simp only; omega, ?_⟩
               exact le_auto)
    · have hE := (s.done rfl (by omega)).trans hR
      have o3 := cnt_Of out (by omega)
      rw [hE] at o3
      clear s hA hB hR hE
      (have kc1 := o3; refine w0 ?_; (repeat' (first | refine W2.mk ?_ ?_ | refine W1.mk fun hc => ?_)); all_goals clear kc1)
      all_goals
        (refine ⟨(by first | exact .inl rfl | exact .inr rfl), res1 rfl ?_⟩)
        exact rv_own rfl rfl rfl
theorem cnt_Less (a b : List Rn) (ha : a.length ≤ 100000000) (hb : b.length ≤ 100000000) : Fn Tryz.prog 78 [rnsB a, rnsB b] (ownRn (lessR a b)) := by
  have h := cnt_sweepLess a b ha hb
  generalize lessR a b = R at *
  refine fn_intro Tryz.func78 rfl (by kernel_rfl) Tryz.ntmps78 (Nat.le_of_ble_eq_true rfl) ?_
  (have kc1 := h; refine w0 ?_; (repeat' (first | refine W2.mk ?_ ?_ | refine W1.mk fun hc => ?_)); all_goals clear kc1)
  (refine ⟨(by first | exact .inl rfl | exact .inr rfl), res1 rfl ?_⟩)
  exact rv_own rfl rfl rfl
end
end Go.Proofs.YtbpmafpmlapekaaGreat
