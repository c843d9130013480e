/- The program's filters of bits and the reference's: the same bits. No program in sight. -/
import Derived.Test.YtbpmafpmlapekaaBr
namespace Go.Proofs.Ytbpmafpmlapekaa
open Go.RowKit
def bitsOf (n : Nat) (row : List UInt8) : List Bool := (List.range n).map (hasBit row)
theorem bitsOf_len (n : Nat) (row : List UInt8) : (bitsOf n row).length = n := by simp [bitsOf]
theorem bitsOf_getD {n : Nat} {row : List UInt8} {m : Nat} (h : m < n) : (bitsOf n row).getD m false = hasBit row m := by
  simp [bitsOf, h]
/-- no bit behind the last one -/
def NoTop (n : Nat) (row : List UInt8) : Prop := ∀ m, hasBit row m = true → m < n
theorem bitsOf_zero (n k : Nat) : bitsOf n (List.replicate k 0) = List.replicate n false := by
  apply List.ext_getElem
  · simp [bitsOf]
  · intro i h1 h2
    simp [bitsOf, hasBit_zero]
theorem bitsOf_add {n m : Nat} {row : List UInt8} (h : m / 8 < row.length) : (bitsOf n row).set m true = bitsOf n (addBit row m) := by
  apply List.ext_getElem
  · simp [bitsOf]
  · intro i h1 h2
    rw [List.getElem_set]
    simp only [bitsOf, List.getElem_map, List.getElem_range]
    rw [hasBit_add row m i h]
    by_cases e : m = i
    · subst e; simp
    · rw [if_neg e, show (i == m) = false by simpa using fun q => e q.symm, Bool.or_false]
theorem raddP_bits {n : Nat} {row : List UInt8} (h1 : 1 ≤ n) (hl : row.length = (n + 7) / 8) (seed : Int) (l : List UInt8) (k : Nat) : raddP (bitsOf n row) n seed l k = bitsOf n (addP row n seed l k) := by
  induction k with
  | zero => rfl
  | succ k ih =>
    rw [raddP_succ, addP_succ, ih, bitsOf_add]
    rw [addP_len, hl]
    have := probeN_lt n seed l k (by omega)
    omega
theorem raddV_bits {n : Nat} {row : List UInt8} (h1 : 1 ≤ n) (hl : row.length = (n + 7) / 8) (probes seed r c : Int) : raddV (bitsOf n row) n probes seed r c = bitsOf n (addV row n probes seed (r, c)) := by
  unfold raddV addV
  split
  · exact raddP_bits h1 hl _ _ _
  · rfl
theorem rhasV_bits {n : Nat} {row : List UInt8} (h1 : 1 ≤ n) (probes seed r c : Int) : rhasV (bitsOf n row) n probes seed r c = hasV row n probes seed r c := by
  unfold rhasV hasV
  congr 1
  unfold rhasP hasP
  rw [Bool.eq_iff_iff, List.all_eq_true, List.all_eq_true]
  have : ∀ i : Nat, (bitsOf n row).getD (probeN n seed (verB r c) i) false = hasBit row (probeN n seed (verB r c) i) := fun i => bitsOf_getD (by have := probeN_lt n seed (verB r c) i (by omega); omega)
  simp only [this]
theorem addV_top {n : Nat} {row : List UInt8} (h1 : 1 ≤ n) (hl : row.length = (n + 7) / 8) (probes seed : Int) (v : Int × Int) (ht : NoTop n row) : NoTop n (addV row n probes seed v) := fun m hm => by
  rw [hasBit_addV (by omega) (by simpa using hl), Bool.or_eq_true] at hm
  rcases hm with h | h
  · exact ht m h
  · have := inV_lt (bits := n) (by omega) h; omega
theorem cnt8 (row : List UInt8) : ((List.range (8 * row.length)).filter (hasBit row)).length = onesR row := by
  induction row with
  | nil => rfl
  | cons x l ih =>
    rw [onesR_cons, List.length_cons, show 8 * (l.length + 1) = 8 + 8 * l.length by omega, List.range_add, List.filter_append, List.length_append, ← ih]
    have e1 : ((List.range 8).filter (hasBit (x :: l))).length = ones8 x := by
      unfold ones8
      first | (congr 1; done) | (congr 1; apply List.filter_congr; intro k hk; rw [hasBit_cons, if_pos (List.mem_range.1 hk)])
    have e2 : (((List.range (8 * l.length)).map (8 + ·)).filter (hasBit (x :: l))).length = ((List.range (8 * l.length)).filter (hasBit l)).length := by
      rw [List.filter_map, List.length_map]
      congr 1
      apply List.filter_congr
      intro k _
      simp only [Function.comp]
      rw [hasBit_cons, if_neg (by omega), Nat.add_sub_cancel_left]
    rw [e1, e2]
theorem cnt_bits {n : Nat} {row : List UInt8} (hl : row.length = (n + 7) / 8) (ht : NoTop n row) : ((bitsOf n row).filter id).length = onesR row := by
  rw [← cnt8]
  obtain ⟨d, hd⟩ : ∃ d, 8 * row.length = n + d := ⟨8 * row.length - n, by omega⟩
  rw [hd, List.range_add, List.filter_append, List.length_append]
  have h0 : ((List.range d).map (n + ·)).filter (hasBit row) = [] := by
    rw [List.filter_eq_nil_iff]
    intro a ha h
    obtain ⟨k, _, rfl⟩ := List.mem_map.1 ha
    have := ht _ h; omega
  rw [h0, List.length_nil, Nat.add_zero]
  unfold bitsOf
  rw [List.filter_map, List.length_map]
  rfl
theorem addBs_bit : ∀ (bs : List Bool) (row : List UInt8) (i m : Nat), i + bs.length ≤ 8 * row.length → hasBit (addBs row i bs) m = (hasBit row m || (decide (i ≤ m) && bs.getD (m - i) false))
  | [], row, i, m, _ => by simp [addBs]
  | b :: bs, row, i, m, h => by
    rw [List.length_cons] at h
    have hi : i / 8 < row.length := by omega
    rw [addBs, addBs_bit bs _ (i + 1) m (by
      split
      · rw [addBit_len]; omega
      · omega)]
    have hb : hasBit (if b then addBit row i else row) m = (hasBit row m || (b && (m == i))) := by
      cases b with
      | true => simp only [if_true, Bool.true_and]; exact hasBit_add row i m hi
      | false => simp
    rw [hb, Bool.or_assoc]
    congr 1
    by_cases e : m = i
    · subst e; simp; intro h; omega
    · rw [show (m == i) = false by simpa using e, Bool.and_false, Bool.false_or]
      by_cases q : i + 1 ≤ m
      · obtain ⟨d, rfl⟩ : ∃ d, m = i + 1 + d := ⟨m - (i + 1), by omega⟩
        rw [show i + 1 + d - (i + 1) = d by omega, show i + 1 + d - i = d + 1 by omega]
        simp; omega
      · rw [decide_eq_false q, decide_eq_false (by omega : ¬ i ≤ m)]; rfl
theorem addBs_back {n : Nat} {row : List UInt8} (hl : row.length = (n + 7) / 8) (ht : NoTop n row) : addBs (List.replicate ((n + 7) / 8) 0) 0 (bitsOf n row) = row := by
  refine rows_eq (by rw [addBs_len, List.length_replicate, hl]) fun m => ?_
  rw [addBs_bit _ _ _ _ (by rw [bitsOf_len, List.length_replicate]; omega), hasBit_zero, Bool.false_or, decide_eq_true (Nat.zero_le m), Bool.true_and, Nat.sub_zero]
  by_cases h : m < n
  · exact bitsOf_getD h
  · rw [List.getD_eq_getElem?_getD, List.getElem?_eq_none (by rw [bitsOf_len]; omega)]
    cases hh : hasBit row m with
    | false => rfl
    | true => exact absurd (ht m hh) h
theorem top_of {bits : Int} {row : List UInt8} (_ : 1 ≤ bits) (hl : row.length = (bits.toNat + 7) / 8) (h : ¬ topBad bits row) : NoTop bits.toNat row := fun m hm => by
  rcases Nat.lt_or_ge m bits.toNat with q | q
  · exact q
  exfalso
  apply h
  have hm8 : m / 8 < row.length := by
    rcases Nat.lt_or_ge (m / 8) row.length with g | g
    · exact g
    · unfold hasBit at hm
      rw [List.getElem?_eq_none g] at hm
      simp at hm
  have e1 : m / 8 = row.length - 1 := by omega
  have e2 : 0 < bits.toNat % 8 := by omega
  have e3 : bits.toNat % 8 ≤ m % 8 := by omega
  refine ⟨e2, ?_⟩
  unfold hasBit at hm
  rw [e1] at hm
  rw [List.getD_eq_getElem?_getD]
  generalize row[row.length - 1]?.getD 0 = x at *
  have : ∀ j k : Fin 8, ∀ x : Fin 256, j ≤ k → (UInt8.ofNat x.val &&& UInt8.ofNat (2 ^ k.val) != 0) = true → 0 < (UInt8.ofNat x.val).toNat / 2 ^ j.val := by decide +kernel
  have := this ⟨bits.toNat % 8, Nat.mod_lt _ (by decide)⟩ ⟨m % 8, Nat.mod_lt _ (by decide)⟩ ⟨x.toNat, x.toNat_lt⟩ e3
  simpa [bitOf] using this (by simpa [bitOf] using hm)
theorem no_top {bits : Int} {row : List UInt8} (h1 : 1 ≤ bits) (hl : row.length = (bits.toNat + 7) / 8) (h : NoTop bits.toNat row) : ¬ topBad bits row := not_top h1 hl fun n hn => by have := h n hn; omega
theorem rdBl_back {b : List UInt8} {bits probes : Int} {row : List UInt8} (h : rdBl b = ((bits, probes, row), 0)) : bloomB bits probes row = b ∧ row.length = (bits.toNat + 7) / 8 ∧ 1 ≤ bits ∧ bits ≤ 4096 ∧ 1 ≤ probes ∧ probes ≤ 8 ∧ NoTop bits.toNat row := by
  dsimp only [rdBl] at h
  generalize hp : withinSt 1 4096 b 0 = p at *
  generalize hq : withinSt 1 8 p.2.1 p.2.2 = q at *
  generalize hs : textSt 281474976710656 q.2.1 q.2.2 = s at *
  split at h
  · rename_i hne; exact absurd (congrArg Prod.snd h) hne
  · rename_i he
    have he := Decidable.of_not_not he
    obtain ⟨a1, a2, a3, a4, a5⟩ := rd_parts hp hq hs he
    split at h
    · rename_i hok
      obtain ⟨hl, hnt⟩ := hok
      simp only [Prod.mk.injEq, and_true] at h
      obtain ⟨rfl, rfl, rfl⟩ := h
      refine ⟨?_, hl, a1, a2, a3, a4, top_of a1 hl hnt⟩
      obtain ⟨s1, s2, s3⟩ := s
      obtain ⟨q1, q2, q3⟩ := q
      obtain ⟨p1, p2, p3⟩ := p
      simp only at hp hq hs he ⊢
      obtain ⟨rfl, rfl⟩ := end_zero he
      obtain ⟨x, l1, b1, b2, b3, b4, b5⟩ := text_zero hs
      obtain ⟨rfl, _, _, b6⟩ := within_zero b1
      obtain ⟨rfl, _, _, c6⟩ := within_zero hq
      obtain ⟨_, _, _, d6⟩ := within_zero hp
      have e1 := (num_back (l := b) (e := 0) (by rw [d6])).2.2
      have e2 := (num_back (l := p2) (e := 0) (by rw [c6])).2.2
      have e3 := (num_back (l := q2) (e := 0) (by rw [b6])).2.2
      rw [d6] at e1; rw [c6] at e2; rw [b6] at e3
      simp only at e1 e2 e3
      have e4 : x.toNat = l1.length := by
        have := congrArg List.length b3
        rw [List.length_drop, List.length_nil] at this
        omega
      have e5 : s1 = l1 := by rw [b2, e4, List.take_length]
      subst e5
      have e6 : x = (s1.length : Int) := by omega
      rw [e1, e2, e3, e6]
      unfold bloomB textB
      rw [ba_size]
      simp [numI]
    · exact absurd (congrArg Prod.snd h) (by simp)
/-- the first i bits of a filter -/
def upTo (n : Nat) (row : List UInt8) (i : Nat) : List Bool := (List.range n).map fun m => decide (m < i) && hasBit row m
theorem upTo_zero (n : Nat) (row : List UInt8) : upTo n row 0 = List.replicate n false := by
  apply List.ext_getElem
  · simp [upTo]
  · intro i h1 h2; simp [upTo]
theorem upTo_len (n : Nat) (row : List UInt8) (i : Nat) : (upTo n row i).length = n := by simp [upTo]
theorem upTo_skip {n : Nat} {row : List UInt8} {i : Nat} (h : hasBit row i = false) : upTo n row (i + 1) = upTo n row i := by
  apply List.ext_getElem
  · simp [upTo]
  · intro j h1 h2
    simp only [upTo, List.getElem_map, List.getElem_range]
    by_cases e : j = i
    · subst e; rw [h]; simp
    · congr 1
      rw [decide_eq_decide]; omega
theorem upTo_set {n : Nat} {row : List UInt8} {i : Nat} (h : hasBit row i = true) : (upTo n row i).set i true = upTo n row (i + 1) := by
  apply List.ext_getElem
  · simp [upTo]
  · intro j h1 h2
    rw [List.getElem_set]
    simp only [upTo, List.getElem_map, List.getElem_range]
    by_cases e : i = j
    · subst e; rw [h]; simp
    · rw [if_neg e]
      congr 1
      rw [decide_eq_decide]; omega
theorem upTo_all {n : Nat} {row : List UInt8} {i : Nat} (h : n ≤ i) : upTo n row i = bitsOf n row := by
  apply List.ext_getElem
  · simp [upTo, bitsOf]
  · intro j h1 h2
    simp only [upTo, bitsOf, List.getElem_map, List.getElem_range]
    rw [upTo_len] at h1
    rw [decide_eq_true (by omega), Bool.true_and]
abbrev zblP : PV := aggP [rawP (.slice none 0 0), rawP (.int .i64 0), rawP (.int .u64 0)]
def rdV (x : (Int × Int × List UInt8) × Int) (seed : Int) : PV := if x.2 = 0 then rblP (bitsOf x.1.1.toNat x.1.2.2) x.1.2.1 seed else zblP
section
set_option maxRecDepth 10000
set_option maxHeartbeats 4000000
theorem rb_Read (b : List UInt8) (hb : b.length ≤ 1000000) (seed : Int) : Fn Try.prog 24 [.per (bysP b), iC .u64 seed] (.tup2 (.per (rdV (rdBl b) seed)) (inR (rdBl b).2)) := by
  have hs0 : b <:+ b := List.suffix_refl b
  have hb' : b.length ≤ 1000000000000 := by omega
  generalize hX : rdBl b = X
  dsimp only [rdBl] at hX
  have h1 := rr_Within b b 0 hs0 hb' 1 4096
  have hs1 := (withinSt_suf 1 4096 b 0).trans hs0
  generalize hp : withinSt 1 4096 b 0 = p at *
  have h2 := rr_Within b p.2.1 p.2.2 hs1 hb' 1 8
  have hs2 := (withinSt_suf 1 8 p.2.1 p.2.2).trans hs1
  generalize hq : withinSt 1 8 p.2.1 p.2.2 = q at *
  have h3 := rr_Text b q.2.1 q.2.2 hs2 hb' 281474976710656
  have hs3 := (textSt_suf 281474976710656 q.2.1 q.2.2).trans hs2
  generalize hs : textSt 281474976710656 q.2.1 q.2.2 = s at *
  have h4 := rr_End b s.2.1 s.2.2 hs3
  generalize hE : endSt s.2.1 s.2.2 = v at *
  have e0 : ((b.length - b.length : Nat) : Int) = 0 := by omega
  unfold rrBox at h1
  rw [e0] at h1
  clear hs0 hs1 hs2 hs3
  by_cases hv : v = 0
  · subst hv
    obtain ⟨a1, a2, a3, a4, a5⟩ := rd_parts hp hq hs hE
    clear hp hq hs hE
    rw [if_neg (by simp)] at hX
    obtain ⟨n, hn⟩ := Int.eq_ofNat_of_zero_le (show 0 ≤ p.1 by omega)
    have h5 := rb_NewM n (by omega) q.1 seed
    rw [← hn] at h5
    have hSz := ba_size s.1
    by_cases hl : s.1.length = (p.1.toNat + 7) / 8
    · have hA : ∀ i, hasBit s.1 i = true → n ≤ i → X = ((0, 0, []), 11) := fun i hi hni => by
        rw [← hX, if_neg]
        rintro ⟨_, hnt⟩
        have := top_of a1 hl hnt i hi
        omega
      have hB : NoTop n s.1 → X = ((p.1, q.1, s.1), 0) := fun ht => by
        rw [← hX, if_pos]
        exact ⟨hl, no_top a1 hl (by rwa [show p.1.toNat = n by omega])⟩
      clear hX
      obtain ⟨S, hS⟩ : ∃ S : ByteArray, S = ⟨s.1.toArray⟩ := ⟨_, rfl⟩
      have hSl : S.data.toList = s.1 := by rw [hS]
      rw [← hS] at h3 hSz
      refine fn_intro Try.func24 rfl (by kernel_rfl) Try.ntmps24 (Nat.le_of_ble_eq_true rfl) ?_
      (repeat' (first | refine AW_seq ?_ | refine AW_block ?_ | refine AW_skip ?_ | refine AW_exit ?_ | refine AW_ret ?_ | refine AW_region ?_ | refine AW_draw mixed0 ?_ | refine AL_nil ?_ | refine AD_nil (by kernel_rfl) ?_ | (refine AW_cl rfl rfl ⟨fun hc => ?_, fun hc => ?_⟩ <;> (repeat rw [List.length_map] at hc) <;> (try exact absd hc)) | ((first | apply AL_t rfl | apply AL_0 rfl | apply AD_t rfl | apply AD_0 rfl); focus (first | exact z_auto | exact c_RA (h1) | exact c_RA (h2) | exact c_RA (h3) | exact c_RA (h4) | exact c_NA (h5) | fail)) | refine thenA_n ?_ | refine thenA_r ?_ | refine thenA_e ?_ | refine inB_n ?_ | refine inB_r ?_ | refine inB_hit ?_ | refine inB_miss rfl ?_ | ((first | refine AL_cl rfl rfl rfl ⟨fun hc => ?_, fun hc => ?_⟩ | refine AD_cl rfl rfl rfl ⟨fun hc => ?_, fun hc => ?_⟩) <;> (fail_if_success (have q : (true = true) := hc)) <;> (fail_if_success (have q : (false = false) := hc)) <;> (repeat rw [List.length_map] at hc) <;> (try exact absd hc)) | refine AW_cond_nil rfl rfl (fun hc => ?_) ?_))
      refine AW_loopP (X := Nat) (fun i => i ≤ 8 * s.1.length ∧ ∀ m, m < i → hasBit s.1 m = true → m < n)
        (fun i => mkSt [(4, .ptr 4 0 0), (7, iC .i64 p.1), (9, sC S), (10, .ptr 10 0 0), (11, iC .i64 (i : Nat))] [(4, .box 32 [.per (rawP (.slice none 0 0)), iC .i64 0, iC .u64 0]), (10, .box 32 [.row 32 0, iC .i64 q.1, iC .u64 seed]), (32, rblRow (upTo n s.1 i))]) (fun i => 8 * s.1.length - i) 0 ⟨Nat.zero_le _, fun m hm => by omega⟩ ?_ ?_
      · rw [upTo_zero]
        exact le_auto
      · rintro i ⟨g1, g2⟩
        clear h1 h2 h3 h4 h5
        by_cases hi : i < 8 * s.1.length
        · have hi8 : i / 8 < s.1.length := by omega
          have hcx : S.data.toList[i / 8]? = some s.1[i / 8] := by rw [hSl]; exact List.getElem?_eq_getElem hi8
          have hz : (i : Int) / 8 = ((i / 8 : Nat) : Int) := by omega
          have hbd := @bit_div s.1[i / 8] i
          have hbit : hasBit s.1 i = (s.1[i / 8] &&& bitOf i != 0) := by unfold hasBit; rw [List.getElem?_eq_getElem hi8]; rfl
          rw [← hbit] at hbd
          clear hbit
          have hx := s.1[i / 8].toNat_lt
          generalize s.1[i / 8] = x at *
          (repeat' (first | refine AW_seq ?_ | refine AW_block ?_ | refine AW_skip ?_ | refine AW_exit ?_ | refine AW_ret ?_ | refine AW_region ?_ | refine AW_draw mixed0 ?_ | refine AL_nil ?_ | refine AD_nil (by kernel_rfl) ?_ | (refine AW_cl rfl rfl ⟨fun hc => ?_, fun hc => ?_⟩ <;> (repeat rw [List.length_map] at hc) <;> (try exact absd hc)) | ((first | apply AL_t rfl | apply AL_0 rfl | apply AD_t rfl | apply AD_0 rfl); focus (first | ((apply u_k 13; (focus rfl); exact u_sindex ⟨rfl, rfl, rfl⟩ rfl inferInstance rfl rfl hz hcx)) | (apply u_g; (focus rfl); apply op_gyes rfl rfl rfl rfl rfl; ((apply u_k 13; (focus rfl); exact u_sindex ⟨rfl, rfl, rfl⟩ rfl inferInstance rfl rfl hz hcx))) | exact z_auto | fail)) | refine thenA_n ?_ | refine thenA_r ?_ | refine thenA_e ?_ | refine inB_n ?_ | refine inB_r ?_ | refine inB_hit ?_ | refine inB_miss rfl ?_ | ((first | refine AL_cl rfl rfl rfl ⟨fun hc => ?_, fun hc => ?_⟩ | refine AD_cl rfl rfl rfl ⟨fun hc => ?_, fun hc => ?_⟩) <;> (fail_if_success (have q : (true = true) := hc)) <;> (fail_if_success (have q : (false = false) := hc)) <;> (repeat rw [List.length_map] at hc) <;> (try exact absd hc)) | refine AW_cond_nil rfl rfl (fun hc => ?_) ?_))
          refine AW_loopP (X := Nat × Nat) (fun t => t.1 ≤ i % 8 ∧ t.2 = x.toNat / 2 ^ t.1)
            (fun t => mkSt [(4, .ptr 4 0 0), (7, iC .i64 p.1), (9, sC S), (10, .ptr 10 0 0), (11, iC .i64 (i : Nat)), (12, iC .i64 (t.2 : Nat)), (13, iC .i64 (t.1 : Nat))] [(4, .box 32 [.per (rawP (.slice none 0 0)), iC .i64 0, iC .u64 0]), (10, .box 32 [.row 32 0, iC .i64 q.1, iC .u64 seed]), (32, rblRow (upTo n s.1 i))]) (fun t => i % 8 - t.1) (0, x.toNat) ⟨Nat.zero_le _, by simp⟩ ?_ ?_
          · exact le_auto
          · rintro ⟨k, y⟩ ⟨hk, hy0⟩
            simp only at hk hy0 ⊢
            by_cases hlt : k < i % 8
            · obtain ⟨z, hz2⟩ : ∃ z, z = x.toNat / 2 ^ (k + 1) := ⟨_, rfl⟩
              have hdv : (y : Int) / 2 = (z : Int) := by
                rw [hz2, hy0, Nat.pow_succ, ← Nat.div_div_eq_div_mul]; omega
              have hle : y ≤ x.toNat := by rw [hy0]; exact Nat.div_le_self _ _
              clear hy0
              (repeat' (first | refine AW_seq ?_ | refine AW_block ?_ | refine AW_skip ?_ | refine AW_exit ?_ | refine AW_ret ?_ | refine AW_region ?_ | refine AW_draw mixed0 ?_ | refine AL_nil ?_ | refine AD_nil (by kernel_rfl) ?_ | (refine AW_cl rfl rfl ⟨fun hc => ?_, fun hc => ?_⟩ <;> (repeat rw [List.length_map] at hc) <;> (try exact absd hc)) | ((first | apply AL_t rfl | apply AL_0 rfl | apply AD_t rfl | apply AD_0 rfl); focus (first | exact z_auto | fail)) | refine thenA_n ?_ | refine thenA_r ?_ | refine thenA_e ?_ | refine inB_n ?_ | refine inB_r ?_ | refine inB_hit ?_ | refine inB_miss rfl ?_ | ((first | refine AL_cl rfl rfl rfl ⟨fun hc => ?_, fun hc => ?_⟩ | refine AD_cl rfl rfl rfl ⟨fun hc => ?_, fun hc => ?_⟩) <;> (fail_if_success (have q : (true = true) := hc)) <;> (fail_if_success (have q : (false = false) := hc)) <;> (repeat rw [List.length_map] at hc) <;> (try exact absd hc)) | refine AW_cond_nil rfl rfl (fun hc => ?_) ?_))
              refine ⟨(k + 1, z), ⟨by simp only; omega, hz2⟩, by simp only; omega, ?_⟩
              exact le_auto
            · obtain rfl : k = i % 8 := by omega
              have hle : y ≤ x.toNat := by rw [hy0]; exact Nat.div_le_self _ _
              have HJ : ∀ hin : i < n, ((upTo n s.1 i).map boolP)[i]? = some (boolP ((upTo n s.1 i)[i]'(by rw [upTo_len]; exact hin))) := fun hin => by rw [List.getElem?_map, List.getElem?_eq_getElem (by rw [upTo_len]; exact hin)]; rfl
              have hul := upTo_len n s.1 i
              rw [← hy0] at hbd
              clear hy0
              by_cases hbt : hasBit s.1 i = true
              · have hy : (y : Int) % 2 = 1 := hbd.2 hbt
                by_cases hin : i < n
                · replace HJ := HJ hin
                  have HS : ((upTo n s.1 i).map boolP).set i (setP (boolP ((upTo n s.1 i)[i]'(by rw [upTo_len]; exact hin))) 0 (boolP true)) = (upTo n s.1 (i + 1)).map boolP := by
                    rw [← upTo_set hbt, List.map_set]; rfl
                  generalize (upTo n s.1 i)[i]'(by rw [upTo_len]; exact hin) = bb at *
                  generalize upTo n s.1 i = U at *
                  (repeat' (first | refine AW_seq ?_ | refine AW_block ?_ | refine AW_skip ?_ | refine AW_exit ?_ | refine AW_ret ?_ | refine AW_region ?_ | refine AW_draw mixed0 ?_ | refine AL_nil ?_ | refine AD_nil (by kernel_rfl) ?_ | (refine AW_cl rfl rfl ⟨fun hc => ?_, fun hc => ?_⟩ <;> (repeat rw [List.length_map] at hc) <;> (try exact absd hc)) | ((first | apply AL_t rfl | apply AL_0 rfl | apply AD_t rfl | apply AD_0 rfl); focus (first | exact z_auto | ((apply u_k 6; (focus rfl); exact u_store_r ⟨rfl, rfl⟩ rfl inferInstance rfl rfl rfl rfl HJ rfl (part_raw rfl rfl rfl) rfl HS)) | (apply u_g; (focus rfl); apply op_gyes rfl rfl rfl rfl rfl; ((apply u_k 6; (focus rfl); exact u_store_r ⟨rfl, rfl⟩ rfl inferInstance rfl rfl rfl rfl HJ rfl (part_raw rfl rfl rfl) rfl HS))) | fail)) | refine thenA_n ?_ | refine thenA_r ?_ | refine thenA_e ?_ | refine inB_n ?_ | refine inB_r ?_ | refine inB_hit ?_ | refine inB_miss rfl ?_ | ((first | refine AL_cl rfl rfl rfl ⟨fun hc => ?_, fun hc => ?_⟩ | refine AD_cl rfl rfl rfl ⟨fun hc => ?_, fun hc => ?_⟩) <;> (fail_if_success (have q : (true = true) := hc)) <;> (fail_if_success (have q : (false = false) := hc)) <;> (repeat rw [List.length_map] at hc) <;> (try exact absd hc)) | refine AW_cond_nil rfl rfl (fun hc => ?_) ?_))
                  refine ⟨i + 1, ⟨by omega, fun m hm hh => ?_⟩, by omega, ?_⟩
                  · rcases Nat.lt_or_ge m i with q | q
                    · exact g2 m q hh
                    · omega
                  · exact le_auto
                · have hX := hA i hbt (by omega)
                  subst hX
                  (repeat' (first | refine AW_seq ?_ | refine AW_block ?_ | refine AW_skip ?_ | refine AW_exit ?_ | refine AW_ret ?_ | refine AW_region ?_ | refine AW_draw mixed0 ?_ | refine AL_nil ?_ | refine AD_nil (by kernel_rfl) ?_ | (refine AW_cl rfl rfl ⟨fun hc => ?_, fun hc => ?_⟩ <;> (repeat rw [List.length_map] at hc) <;> (try exact absd hc)) | ((first | apply AL_t rfl | apply AL_0 rfl | apply AD_t rfl | apply AD_0 rfl); focus (first | exact z_auto | fail)) | refine thenA_n ?_ | refine thenA_r ?_ | refine thenA_e ?_ | refine inB_n ?_ | refine inB_r ?_ | refine inB_hit ?_ | refine inB_miss rfl ?_ | ((first | refine AL_cl rfl rfl rfl ⟨fun hc => ?_, fun hc => ?_⟩ | refine AD_cl rfl rfl rfl ⟨fun hc => ?_, fun hc => ?_⟩) <;> (fail_if_success (have q : (true = true) := hc)) <;> (fail_if_success (have q : (false = false) := hc)) <;> (repeat rw [List.length_map] at hc) <;> (try exact absd hc)) | refine AW_cond_nil rfl rfl (fun hc => ?_) ?_))
                  refine ⟨.inl rfl, res2 rfl ?_ ?_⟩
                  · exact rv_cA inferInstance inferInstance rfl rfl rfl rfl rfl rfl
                  · exact rv_int rfl rfl
              · have hy : ¬ (y : Int) % 2 = 1 := fun q => hbt (hbd.1 q)
                have hsk := upTo_skip (n := n) (by simpa using hbt : hasBit s.1 i = false)
                rw [← hsk]
                clear HJ
                (repeat' (first | refine AW_seq ?_ | refine AW_block ?_ | refine AW_skip ?_ | refine AW_exit ?_ | refine AW_ret ?_ | refine AW_region ?_ | refine AW_draw mixed0 ?_ | refine AL_nil ?_ | refine AD_nil (by kernel_rfl) ?_ | (refine AW_cl rfl rfl ⟨fun hc => ?_, fun hc => ?_⟩ <;> (repeat rw [List.length_map] at hc) <;> (try exact absd hc)) | ((first | apply AL_t rfl | apply AL_0 rfl | apply AD_t rfl | apply AD_0 rfl); focus (first | exact z_auto | fail)) | refine thenA_n ?_ | refine thenA_r ?_ | refine thenA_e ?_ | refine inB_n ?_ | refine inB_r ?_ | refine inB_hit ?_ | refine inB_miss rfl ?_ | ((first | refine AL_cl rfl rfl rfl ⟨fun hc => ?_, fun hc => ?_⟩ | refine AD_cl rfl rfl rfl ⟨fun hc => ?_, fun hc => ?_⟩) <;> (fail_if_success (have q : (true = true) := hc)) <;> (fail_if_success (have q : (false = false) := hc)) <;> (repeat rw [List.length_map] at hc) <;> (try exact absd hc)) | refine AW_cond_nil rfl rfl (fun hc => ?_) ?_))
                refine ⟨i + 1, ⟨by omega, fun m hm hh => ?_⟩, by omega, ?_⟩
                · rcases Nat.lt_or_ge m i with q | q
                  · exact g2 m q hh
                  · obtain rfl : m = i := by omega
                    exact absurd hh hbt
                · exact le_auto
        · have hi' : i = 8 * s.1.length := by omega
          have hX := hB fun m hm => by
            rcases Nat.lt_or_ge m i with q | q
            · exact g2 m q hm
            · exfalso
              unfold hasBit at hm
              rw [List.getElem?_eq_none (by omega)] at hm
              simp at hm
          subst hX
          rw [upTo_all (by omega)]
          have hV : rdV ((p.1, q.1, s.1), 0) seed = rblP (bitsOf n s.1) q.1 seed := by unfold rdV; rw [if_pos rfl, show p.1.toNat = n by omega]
          rw [hV]
          (repeat' (first | refine AW_seq ?_ | refine AW_block ?_ | refine AW_skip ?_ | refine AW_exit ?_ | refine AW_ret ?_ | refine AW_region ?_ | refine AW_draw mixed0 ?_ | refine AL_nil ?_ | refine AD_nil (by kernel_rfl) ?_ | (refine AW_cl rfl rfl ⟨fun hc => ?_, fun hc => ?_⟩ <;> (repeat rw [List.length_map] at hc) <;> (try exact absd hc)) | ((first | apply AL_t rfl | apply AL_0 rfl | apply AD_t rfl | apply AD_0 rfl); focus (first | exact z_auto | fail)) | refine thenA_n ?_ | refine thenA_r ?_ | refine thenA_e ?_ | refine inB_n ?_ | refine inB_r ?_ | refine inB_hit ?_ | refine inB_miss rfl ?_ | ((first | refine AL_cl rfl rfl rfl ⟨fun hc => ?_, fun hc => ?_⟩ | refine AD_cl rfl rfl rfl ⟨fun hc => ?_, fun hc => ?_⟩) <;> (fail_if_success (have q : (true = true) := hc)) <;> (fail_if_success (have q : (false = false) := hc)) <;> (repeat rw [List.length_map] at hc) <;> (try exact absd hc)) | refine AW_cond_nil rfl rfl (fun hc => ?_) ?_))
          refine ⟨.inl rfl, ResO_le (Le_fz 32 _ 4 1 rfl rfl) (res2 rfl ?_ ?_)⟩
          · exact rv_cA inferInstance inferInstance rfl rfl rfl rfl rfl rfl
          · exact rv_int rfl rfl
    · rw [if_neg (fun q => hl q.1)] at hX
      subst hX
      refine fn_intro Try.func24 rfl (by kernel_rfl) Try.ntmps24 (Nat.le_of_ble_eq_true rfl) ?_
      (repeat' (first | refine AW_seq ?_ | refine AW_block ?_ | refine AW_skip ?_ | refine AW_exit ?_ | refine AW_ret ?_ | refine AW_region ?_ | refine AW_draw mixed0 ?_ | refine AL_nil ?_ | refine AD_nil (by kernel_rfl) ?_ | (refine AW_cl rfl rfl ⟨fun hc => ?_, fun hc => ?_⟩ <;> (repeat rw [List.length_map] at hc) <;> (try exact absd hc)) | ((first | apply AL_t rfl | apply AL_0 rfl | apply AD_t rfl | apply AD_0 rfl); focus (first | exact z_auto | exact c_RA (h1) | exact c_RA (h2) | exact c_RA (h3) | exact c_RA (h4) | exact c_NA (h5) | fail)) | refine thenA_n ?_ | refine thenA_r ?_ | refine thenA_e ?_ | refine inB_n ?_ | refine inB_r ?_ | refine inB_hit ?_ | refine inB_miss rfl ?_ | ((first | refine AL_cl rfl rfl rfl ⟨fun hc => ?_, fun hc => ?_⟩ | refine AD_cl rfl rfl rfl ⟨fun hc => ?_, fun hc => ?_⟩) <;> (fail_if_success (have q : (true = true) := hc)) <;> (fail_if_success (have q : (false = false) := hc)) <;> (repeat rw [List.length_map] at hc) <;> (try exact absd hc)) | refine AW_cond_nil rfl rfl (fun hc => ?_) ?_))
      refine ⟨.inl rfl, res2 rfl ?_ ?_⟩
      · exact rv_cA inferInstance inferInstance rfl rfl rfl rfl rfl rfl
      · exact rv_int rfl rfl
  · rw [if_pos hv] at hX
    subst hX
    have hV : rdV ((0, 0, []), v) seed = zblP := by unfold rdV; rw [if_neg hv]
    rw [hV]
    refine fn_intro Try.func24 rfl (by kernel_rfl) Try.ntmps24 (Nat.le_of_ble_eq_true rfl) ?_
    (repeat' (first | refine AW_seq ?_ | refine AW_block ?_ | refine AW_skip ?_ | refine AW_exit ?_ | refine AW_ret ?_ | refine AW_region ?_ | refine AW_draw mixed0 ?_ | refine AL_nil ?_ | refine AD_nil (by kernel_rfl) ?_ | (refine AW_cl rfl rfl ⟨fun hc => ?_, fun hc => ?_⟩ <;> (repeat rw [List.length_map] at hc) <;> (try exact absd hc)) | ((first | apply AL_t rfl | apply AL_0 rfl | apply AD_t rfl | apply AD_0 rfl); focus (first | exact z_auto | exact c_RA (h1) | exact c_RA (h2) | exact c_RA (h3) | exact c_RA (h4) | fail)) | refine thenA_n ?_ | refine thenA_r ?_ | refine thenA_e ?_ | refine inB_n ?_ | refine inB_r ?_ | refine inB_hit ?_ | refine inB_miss rfl ?_ | ((first | refine AL_cl rfl rfl rfl ⟨fun hc => ?_, fun hc => ?_⟩ | refine AD_cl rfl rfl rfl ⟨fun hc => ?_, fun hc => ?_⟩) <;> (fail_if_success (have q : (true = true) := hc)) <;> (fail_if_success (have q : (false = false) := hc)) <;> (repeat rw [List.length_map] at hc) <;> (try exact absd hc)) | refine AW_cond_nil rfl rfl (fun hc => ?_) ?_))
    refine ⟨.inl rfl, res2 rfl ?_ ?_⟩
    · exact rv_cA inferInstance inferInstance rfl rfl rfl rfl rfl rfl
    · exact rv_int rfl rfl
end
end Go.Proofs.Ytbpmafpmlapekaa
