/- Texts joined: IcL Fc. -/
import Derived.Test.YtoiaegbmbhgdpaaGreatJ10
import Derived.Test.YtoiaegbmbhgdpaaGreatJ14
import Derived.Test.YtoiaegbmbhgdpaaGreatJ16
namespace Go.Proofs.YtoiaegbmbhgdpaaGreat
open Go.RowKit
def s0 : ByteArray := ⟨#[]⟩
/-- a text behind its first n bytes -/
def cutS (s : ByteArray) (n : Nat) : ByteArray := s.extract n s.size
/-- items, one behind the other -/
def itemsT (was : ByteArray) : List It → List UInt8
  | [] => []
  | x :: r => numI (alike was x.key : Nat) ++ (textB (cutS x.key (alike was x.key)) ++ (restB x ++ itemsT x.key r))
def itemsB (l : List It) : List UInt8 := numI (l.length : Nat) ++ itemsT s0 l
theorem cutS_size (s : ByteArray) (n : Nat) : (cutS s n).size = s.size - n := by unfold cutS; simp
theorem restB_len {x : It} (h : itR x = true) : (restB x).length ≤ 110 := by
  obtain ⟨h1, h2, h3, h4⟩ := itR_nums h
  have h5 := nums_len _ h1
  have h6 := textB_len x.body (by omega)
  have h8 : (restNums x).length = 5 := rfl
  simp only [restB, List.length_append]; omega
theorem drop_cons {α : Type} (l : List α) (k : Nat) (h : k < l.length) : l.drop k = l[k] :: l.drop (k + 1) := List.drop_eq_getElem_cons h
section
set_option maxRecDepth 10000
set_option maxHeartbeats 4000000
theorem icode_Items (l : List It) (hl : l.length ≤ 4096) : Fn Tryz.prog 106 [itsB l] (.tup2 (ownB (if l.all itR then itemsB l else [])) (inR (if l.all itR then 0 else 2))) := by
  have hp0 := icode_put [] [(l.length : Int)] (by simp) (fun n hn => by simp at hn; subst hn; unfold okNum; omega)
  refine fn_intro Tryz.func106 rfl (by kernel_rfl) Tryz.ntmps106 (Nat.le_of_ble_eq_true rfl) ?_
  (have kc1 := hp0; refine w0 ?_; (repeat' (first | refine W2.mk ?_ ?_ | refine W1.mk fun hc => ?_)); all_goals clear kc1)
  refine AW_le (Le_mv 15 600) ?_
  refine AW_loopP (X := Nat × List UInt8 × ByteArray) (fun x => x.1 ≤ l.length ∧ (l.take x.1).all itR = true ∧ x.2.2.size ≤ 16 ∧ x.2.1.length ≤ 10 + 200 * x.1 ∧ x.2.1 ++ itemsT x.2.2 (l.drop x.1) = itemsB l)
    (fun x => mkSt [(4, .row 600 0), (5, sC x.2.2), (16, itsB l), (17, iC .i64 (l.length : Nat)), (18, iC .i64 (x.1 : Nat))] [(600, .row 5 1 (x.2.1.map byteP))]) (fun x => l.length - x.1) (0, [(l.length : Int)].flatMap numI, s0) ⟨Nat.zero_le _, rfl, (by decide : s0.size ≤ 16), ?_, ?_⟩ ?_ ?_
  · have := numI_len (l.length : Int) (by omega)
    simp; omega
  · simp [itemsB]
  · exact le_auto
  · rintro ⟨k, acc, was⟩ ⟨hk, hall, hws, hlen, hR⟩
    simp only at hk hall hws hlen hR ⊢
    by_cases hlt : k < l.length
    · cases hr : itR l[k] with
      | false =>
        have hno : l.all itR = false := by
          rw [← Bool.not_eq_true]
          intro h
          rw [List.all_eq_true] at h
          rw [h _ (List.getElem_mem hlt)] at hr; cases hr
        rw [hno]
        have h1 := item_Right l[k]
        rw [hr] at h1
        (have kc1 := h1; refine w0 ?_; (repeat' (first | refine W2.mk ?_ ?_ | refine W1.mk fun hc => ?_)); all_goals clear kc1)
        (refine ⟨(by first | exact .inl rfl | exact .inr rfl), res2 rfl ?_ ?_⟩)
        · exact rv_nil rfl
        · exact rv_int rfl rfl
      | true =>
        have h1 := item_Right l[k]
        rw [hr] at h1
        have hks := itR_nums hr
        have hal := alike_le was l[k].key
        have h2 := key_Common was l[k].key (by omega)
        have hnn : (was.extract 0 (alike was l[k].key)).size = alike was l[k].key := by simp; omega
        generalize hcm : was.extract 0 (alike was l[k].key) = cm at *
        have h3 := icode_put acc [(cm.size : Int)] (by simp; omega) (fun n hn => by simp at hn; subst hn; unfold okNum; omega)
        have h4 := varint_Text (acc ++ [(cm.size : Int)].flatMap numI) [cutS l[k].key cm.size] (by
          have := numI_len (cm.size : Int) (by omega)
          have := textB_len (cutS l[k].key cm.size) (by rw [cutS_size]; omega)
          rw [cutS_size] at this
          simp; omega)
        have h5 := icode_rest (acc ++ [(cm.size : Int)].flatMap numI ++ [cutS l[k].key cm.size].flatMap textB) l[k] hr (by
          have := numI_len (cm.size : Int) (by omega)
          have := textB_len (cutS l[k].key cm.size) (by rw [cutS_size]; omega)
          rw [cutS_size] at this
          simp; omega)
        (have kc1 := h1; have kc2 := h2; have kc3 := h3; have kc4 := h4; have kc5 := h5; refine w0 ?_; (repeat' (first | refine W2.mk ?_ ?_ | refine W1.mk fun hc => ?_)); all_goals clear kc5 kc4 kc3 kc2 kc1)
        refine ⟨(k + 1, acc ++ [(cm.size : Int)].flatMap numI ++ [cutS l[k].key cm.size].flatMap textB ++ restB l[k], l[k].key), ⟨by simp only; omega, ?_, by simp only; omega, ?_, ?_⟩, by simp only; omega, Le_trans (Le_mv 42 600) ?_⟩
        · simp only
          rw [take_snoc' l k hlt, List.all_append, hall]; simp [hr]
        · have q1 := numI_len (cm.size : Int) (by omega)
          have q2 := textB_len (cutS l[k].key cm.size) (by rw [cutS_size]; omega)
          have q3 := restB_len hr
          rw [cutS_size] at q2
          simp; omega
        · simp only
          rw [← hR, drop_cons l k hlt, itemsT, ← hnn]
          simp [List.append_assoc]
        · exact le_auto
    · have hkl : k = l.length := by omega
      subst hkl
      rw [List.drop_length, itemsT, List.append_nil] at hR
      rw [List.take_length] at hall
      rw [hall]
      (refine w0 ?_; (repeat' (first | refine W2.mk ?_ ?_ | refine W1.mk fun hc => ?_)))
      (refine ⟨(by first | exact .inl rfl | exact .inr rfl), res2 rfl ?_ ?_⟩)
      · exact rv_ownM rfl rfl rfl hR
      · exact rv_int rfl rfl
theorem ref_Bytes (n : Int) (h : okNum n) : Fn Tryz.prog 54 [iC .i64 n] (ownB (numI n)) := by
  refine ⟨⟨_, Tryz.func54, by kernel_rfl, by kernel_rfl⟩, fun N0 w vs _ ha => ?_⟩
  obtain ⟨v, rfl, h1⟩ := args1 ha
  obtain rfl : v = .int .i64 n := h1
  obtain ⟨h0, h2⟩ := h
  obtain ⟨m, rfl⟩ := Int.eq_ofNat_of_zero_le h0
  refine Calls.mono (refBytes_any m m w (Nat.le_refl _) (by omega)) ?_
  rintro e w' ⟨v', rfl, h⟩
  exact ⟨_, rfl, h.ext, sl_own encB_ok h⟩
theorem byte_one {n : Nat} (h : n < 128) : [[rawP (.int .u8 (IntKind.u8.wrap (n : Int)))]] = (numI (n : Int)).map byteP := by
  have e : IntKind.u8.wrap (n : Int) = n := by
    unfold IntKind.wrap
    simp [IntKind.bits, IntKind.signed]
    omega
  unfold numI
  rw [Int.toNat_natCast, numB_lt h, e]
  show [[rawP (.int .u8 (n : Int))]] = [[rawP (.int .u8 ((UInt8.ofNat n).toNat : Int))]]
  rw [UInt8.toNat_ofNat', Nat.mod_eq_of_lt (by omega)]
theorem ref_Items (l : List It) (hl : l.length ≤ 4096) (hall : l.all itR = true) : Fn Tryz.prog 91 [itsB l] (ownB (itemsB l)) := by
  have hp0 := ref_Bytes (l.length : Int) (by unfold okNum; omega)
  rw [List.all_eq_true] at hall
  refine fn_intro Tryz.func91 rfl (by kernel_rfl) Tryz.ntmps91 (Nat.le_of_ble_eq_true rfl) ?_
  (have kc1 := hp0; refine w0 ?_; (repeat' (first | refine W2.mk ?_ ?_ | refine W1.mk fun hc => ?_)); all_goals clear kc1)
  refine AW_le (Le_mv 9 600) ?_
  refine AW_loopP (X := Nat × List UInt8 × ByteArray) (fun x => x.1 ≤ l.length ∧ x.2.2.size ≤ 16 ∧ x.2.1.length ≤ 10 + 200 * x.1 ∧ x.2.1 ++ itemsT x.2.2 (l.drop x.1) = itemsB l)
    (fun x => mkSt [(0, itsB l), (3, .row 600 0), (4, sC x.2.2), (5, iC .i64 (x.1 : Nat))] [(600, .row 5 1 (x.2.1.map byteP))]) (fun x => l.length - x.1) (0, numI (l.length : Nat), s0) ⟨Nat.zero_le _, (by decide : s0.size ≤ 16), ?_, ?_⟩ ?_ ?_
  · have := numI_len (l.length : Int) (by omega)
    simp only; omega
  · simp [itemsB]
  · exact le_auto
  · rintro ⟨k, acc, was⟩ ⟨hk, hws, hlen, hR⟩
    simp only at hk hws hlen hR ⊢
    by_cases hlt : k < l.length
    · have hr := hall _ (List.getElem_mem hlt)
      have hks := itR_nums hr
      have hal := alike_le was l[k].key
      have h2 := ref_Alike was l[k].key (by omega)
      have h3 := ref_Text (cutS l[k].key (alike was l[k].key)) (by rw [cutS_size]; omega)
      have h4 := ref_rest l[k] hr
      have q2 := textB_len (cutS l[k].key (alike was l[k].key)) (by rw [cutS_size]; omega)
      have q3 := restB_len hr
      rw [cutS_size] at q2
      (have kc1 := h2; have kc2 := h3; have kc3 := h4; refine w0 ?_; (repeat' (first | refine W2.mk ?_ ?_ | refine W1.mk fun hc => ?_)); all_goals clear kc3 kc2 kc1)
      have hb1 := byte_one (n := alike was l[k].key) (by omega)
      have q1 := numI_len ((alike was l[k].key : Nat) : Int) (by omega)
      refine ⟨(k + 1, acc ++ numI (alike was l[k].key : Nat) ++ textB (cutS l[k].key (alike was l[k].key)) ++ restB l[k], l[k].key), ⟨by simp only; omega, by simp only; omega, by simp; omega, ?_⟩, by simp only; omega, ?_⟩
      · simp only
        rw [← hR, drop_cons l k hlt, itemsT]
        simp [List.append_assoc]
      · (refine Le_mk ?_ ?_; (focus ((repeat (first | exact AllG.nil | (refine AllG.cons ?_ ?_; rotate_left))); (all_goals try (first | rfl | (refine eqI ?_; first | omega | (simp; done) | (simp; omega)) | (refine eqBo ?_; first | (simp; done) | (simp [*]; done)))))); (focus ((repeat (first | exact AllB.nil | (refine AllB.cons ?_ ?_; rotate_left))); (all_goals try (first | rfl | (refine eqRw ?_; (rw [List.map_append] <;> rfl); done) | (refine eqMix ?_; (rw [List.map_append] <;> rfl); done))))))
        · show Blk.row _ _ (((acc.map byteP ++ [[rawP (.int .u8 (IntKind.u8.wrap ((alike was l[k].key : Nat) : Int)))]]) ++ _) ++ _) = _
          rw [hb1, ← List.map_append, ← List.map_append, ← List.map_append]
    · have hkl : k = l.length := by omega
      subst hkl
      rw [List.drop_length, itemsT, List.append_nil] at hR
      (refine w0 ?_; (repeat' (first | refine W2.mk ?_ ?_ | refine W1.mk fun hc => ?_)))
      (refine ⟨(by first | exact .inl rfl | exact .inr rfl), res1 rfl ?_⟩)
      exact rv_ownM rfl rfl rfl hR
end
end Go.Proofs.YtoiaegbmbhgdpaaGreat
namespace Go.Proofs.YtoiaegbmbhgdpaaGreat
open Go.RowKit
def rgB (r : Rg) : List UInt8 := textB r.lo ++ (if r.op = true then numI 1 else numI 0 ++ textB r.hi)
def rgsBy (l : List Rg) : List UInt8 := numI (l.length : Nat) ++ l.flatMap rgB
theorem numI_one {n : Int} (h0 : 0 ≤ n) (h : n < 128) : (numI n).length = 1 := by
  unfold numI; rw [numB_lt (by omega)]; rfl
theorem rgB_len {r : Rg} (h : rgR r = true) : (rgB r).length ≤ 40 := by
  obtain ⟨h1, h2, _⟩ := (rgR_iff r).1 h
  have q1 := textB_len r.lo (by omega)
  have q2 := textB_len r.hi (by omega)
  have q3 := numI_one (n := 0) (by omega) (by omega)
  have q4 := numI_one (n := 1) (by omega) (by omega)
  unfold rgB
  split <;> simp <;> omega
theorem rgsOk_R {l : List Rg} (h : rgsOk l) {i : Nat} (hi : i < l.length) : rgR l[i] = true := (h i hi).1
section
set_option maxRecDepth 10000
set_option maxHeartbeats 8000000
theorem fcode_put (l : List UInt8) (ns : List Int) (hb : l.length + 9 * ns.length ≤ 1000000000000) (hok : ∀ n ∈ ns, okNum n) : Fn Tryz.prog 153 [bytesB l, intsB ns] (ownB (l ++ ns.flatMap numI)) := by
  have h := varint_Put l ns hb hok
  refine fn_intro Tryz.func153 rfl (by kernel_rfl) Tryz.ntmps153 (Nat.le_of_ble_eq_true rfl) ?_
  (have kc1 := h; refine w0 ?_; (repeat' (first | refine W2.mk ?_ ?_ | refine W1.mk fun hc => ?_)); all_goals clear kc1)
  (refine ⟨(by first | exact .inl rfl | exact .inr rfl), res1 rfl ?_⟩)
  exact rv_own rfl rfl rfl
theorem numI_0 : (numI 0).map byteP = [[rawP (.int .u8 0)]] := by unfold numI; rw [numB_lt (by decide)]; rfl
theorem numI_1 : (numI 1).map byteP = [[rawP (.int .u8 1)]] := by unfold numI; rw [numB_lt (by decide)]; rfl
theorem ok_small {n : Int} (h0 : 0 ≤ n) (h : n ≤ 1000000) : ∀ m ∈ [n], okNum m := fun m hm => by simp at hm; subst hm; unfold okNum; omega
theorem fcode_Ranges (l : List Rg) (hl : l.length ≤ 4096) (b : Bool) (hb : b = true ↔ rgsOk l) : Fn Tryz.prog 103 [rgsB l] (.tup2 (ownB (if b then rgsBy l else [])) (inR (if b then 0 else 2))) := by
  have h0 := rgs_Right l (by omega) b hb
  cases b with
  | false =>
    show Fn _ _ _ (.tup2 (ownB []) (inR 2))
    clear hb
    refine fn_intro Tryz.func103 rfl (by kernel_rfl) Tryz.ntmps103 (Nat.le_of_ble_eq_true rfl) ?_
    (have kc1 := h0; refine w0 ?_; (repeat' (first | refine W2.mk ?_ ?_ | refine W1.mk fun hc => ?_)); all_goals clear kc1)
    all_goals (refine ⟨(by first | exact .inl rfl | exact .inr rfl), res2 rfl ?_ ?_⟩)
    all_goals first | exact rv_nil rfl | exact rv_int rfl rfl
  | true =>
    show Fn _ _ _ (.tup2 (ownB (rgsBy l)) (inR 0))
    have hok := hb.1 rfl
    clear hb
    have hp0 := fcode_put [] [(l.length : Int)] (by simp) (ok_small (by omega) (by omega))
    have hn0 := numI_len (l.length : Int) (by omega)
    refine fn_intro Tryz.func103 rfl (by kernel_rfl) Tryz.ntmps103 (Nat.le_of_ble_eq_true rfl) ?_
    (have kc1 := h0; have kc2 := hp0; refine w0 ?_; (repeat' (first | refine W2.mk ?_ ?_ | refine W1.mk fun hc => ?_)); all_goals clear kc2 kc1)
    refine AW_le (Le_mv 18 600) ?_
    refine AW_loopP (X := Nat × List UInt8) (fun x => x.1 ≤ l.length ∧ x.2.length ≤ 10 + 40 * x.1 ∧ x.2 ++ (l.drop x.1).flatMap rgB = rgsBy l)
      (fun x => mkSt [(4, .row 600 0), (19, rgsB l), (20, iC .i64 (l.length : Nat)), (21, iC .i64 (x.1 : Nat))] [(600, .row 5 1 (x.2.map byteP))]) (fun x => l.length - x.1) (0, [(l.length : Int)].flatMap numI) ⟨Nat.zero_le _, by simp; omega, by simp [rgsBy]⟩ ?_ ?_
    · exact le_auto
    · rintro ⟨k, acc⟩ ⟨h1, h2, h3⟩
      simp only at h1 h2 h3 ⊢
      by_cases hlt : k < l.length
      · have hr := rgsOk_R hok hlt
        have hbl := rgB_len hr
        have hsz := (rgR_iff _).1 hr
        have t1 := textB_len l[k].lo (by omega)
        have t2 := textB_len l[k].hi (by omega)
        have n0 := numI_one (n := 0) (by omega) (by omega)
        rw [List.drop_eq_getElem_cons hlt, List.flatMap_cons] at h3
        have c1 := varint_Text acc [l[k].lo] (by simp; omega)
        have c2 := fcode_put (acc ++ [l[k].lo].flatMap textB) [1] (by simp; omega) (ok_small (by omega) (by omega))
        have c3 := fcode_put (acc ++ [l[k].lo].flatMap textB) [0] (by simp; omega) (ok_small (by omega) (by omega))
        have c4 := varint_Text (acc ++ [l[k].lo].flatMap textB ++ [(0 : Int)].flatMap numI) [l[k].hi] (by simp; omega)
        clear hok h0
        (have kc1 := c1; have kc2 := c2; have kc3 := c3; have kc4 := c4; refine w0 ?_; (repeat' (first | refine W2.mk ?_ ?_ | refine W1.mk fun hc => ?_)); all_goals clear kc4 kc3 kc2 kc1)
        · have e : rgB l[k] = textB l[k].lo ++ numI 1 := by unfold rgB; rw [if_pos (by assumption)]
          rw [e] at h3 hbl
          refine ⟨(k + 1, acc ++ [l[k].lo].flatMap textB ++ [(1 : Int)].flatMap numI), ⟨by simp only; omega, by simp at hbl ⊢; omega, by rw [← h3]; simp⟩, by simp only; omega, Le_trans (Le_mv 34 600) ?_⟩
          exact le_auto
        · have e : rgB l[k] = textB l[k].lo ++ (numI 0 ++ textB l[k].hi) := by unfold rgB; rw [if_neg (by simp [*])]
          rw [e] at h3 hbl
          refine ⟨(k + 1, acc ++ [l[k].lo].flatMap textB ++ [(0 : Int)].flatMap numI ++ [l[k].hi].flatMap textB), ⟨by simp only; omega, by simp at hbl ⊢; omega, by rw [← h3]; simp⟩, by simp only; omega, Le_trans (Le_mv 41 600) ?_⟩
          exact le_auto
      · rw [List.drop_of_length_le (by omega), List.flatMap_nil, List.append_nil] at h3
        (refine w0 ?_; (repeat' (first | refine W2.mk ?_ ?_ | refine W1.mk fun hc => ?_)))
        (refine ⟨(by first | exact .inl rfl | exact .inr rfl), res2 rfl ?_ ?_⟩)
        · exact rv_ownM rfl rfl rfl h3
        · exact rv_int rfl rfl
theorem ref_Ranges (l : List Rg) (hl : l.length ≤ 4096) (hok : rgsOk l) : Fn Tryz.prog 90 [rgsB l] (ownB (rgsBy l)) := by
  have hp0 := ref_Bytes (l.length : Int) (by unfold okNum; omega)
  have hn0 := numI_len (l.length : Int) (by omega)
  refine fn_intro Tryz.func90 rfl (by kernel_rfl) Tryz.ntmps90 (Nat.le_of_ble_eq_true rfl) ?_
  (have kc1 := hp0; refine w0 ?_; (repeat' (first | refine W2.mk ?_ ?_ | refine W1.mk fun hc => ?_)); all_goals clear kc1)
  refine AW_le (Le_mv 7 600) ?_
  refine AW_loopP (X := Nat × List UInt8) (fun x => x.1 ≤ l.length ∧ x.2.length ≤ 10 + 40 * x.1 ∧ x.2 ++ (l.drop x.1).flatMap rgB = rgsBy l)
    (fun x => mkSt [(0, rgsB l), (3, .row 600 0), (4, iC .i64 (x.1 : Nat))] [(600, .row 5 1 (x.2.map byteP))]) (fun x => l.length - x.1) (0, numI (l.length : Nat)) ⟨Nat.zero_le _, by simp only; omega, by simp [rgsBy]⟩ ?_ ?_
  · exact le_auto
  · rintro ⟨k, acc⟩ ⟨h1, h2, h3⟩
    simp only at h1 h2 h3 ⊢
    by_cases hlt : k < l.length
    · have hr := rgsOk_R hok hlt
      have hbl := rgB_len hr
      have hsz := (rgR_iff _).1 hr
      have t1 := textB_len l[k].lo (by omega)
      have t2 := textB_len l[k].hi (by omega)
      rw [List.drop_eq_getElem_cons hlt, List.flatMap_cons] at h3
      have c1 := ref_Text l[k].lo (by omega)
      have c2 := ref_Text l[k].hi (by omega)
      clear hok
      (have kc1 := c1; have kc2 := c2; refine w0 ?_; (repeat' (first | refine W2.mk ?_ ?_ | refine W1.mk fun hc => ?_)); all_goals clear kc2 kc1)
      · have e : rgB l[k] = textB l[k].lo ++ numI 1 := by unfold rgB; rw [if_pos (by assumption)]
        rw [e] at h3 hbl
        refine ⟨(k + 1, acc ++ textB l[k].lo ++ numI 1), ⟨by simp only; omega, by simp at hbl ⊢; omega, by rw [← h3]; simp⟩, by simp only; omega, ?_⟩
        (refine Le_mk ?_ ?_; (focus ((repeat (first | exact AllG.nil | (refine AllG.cons ?_ ?_; rotate_left))); (all_goals try (first | rfl | (refine eqI ?_; first | omega | (simp; done) | (simp; omega)) | (refine eqBo ?_; first | (simp; done) | (simp [*]; done)))))); (focus ((repeat (first | exact AllB.nil | (refine AllB.cons ?_ ?_; rotate_left))); (all_goals try (first | rfl | (refine eqRw ?_; (rw [List.map_append] <;> rfl); done) | (refine eqMix ?_; (rw [List.map_append] <;> rfl); done))))))
        · show Blk.row _ _ ((acc.map byteP ++ _) ++ [[rawP (.int .u8 1)]]) = _
          rw [← numI_1, ← List.map_append, ← List.map_append]
      · have e : rgB l[k] = textB l[k].lo ++ (numI 0 ++ textB l[k].hi) := by unfold rgB; rw [if_neg (by simp [*])]
        rw [e] at h3 hbl
        refine ⟨(k + 1, acc ++ textB l[k].lo ++ numI 0 ++ textB l[k].hi), ⟨by simp only; omega, by simp at hbl ⊢; omega, by rw [← h3]; simp⟩, by simp only; omega, ?_⟩
        (refine Le_mk ?_ ?_; (focus ((repeat (first | exact AllG.nil | (refine AllG.cons ?_ ?_; rotate_left))); (all_goals try (first | rfl | (refine eqI ?_; first | omega | (simp; done) | (simp; omega)) | (refine eqBo ?_; first | (simp; done) | (simp [*]; done)))))); (focus ((repeat (first | exact AllB.nil | (refine AllB.cons ?_ ?_; rotate_left))); (all_goals try (first | rfl | (refine eqRw ?_; (rw [List.map_append] <;> rfl); done) | (refine eqMix ?_; (rw [List.map_append] <;> rfl); done))))))
        · show Blk.row _ _ (((acc.map byteP ++ _) ++ [[rawP (.int .u8 0)]]) ++ _) = _
          rw [← numI_0, ← List.map_append, ← List.map_append, ← List.map_append]
    · rw [List.drop_of_length_le (by omega), List.flatMap_nil, List.append_nil] at h3
      (refine w0 ?_; (repeat' (first | refine W2.mk ?_ ?_ | refine W1.mk fun hc => ?_)))
      (refine ⟨(by first | exact .inl rfl | exact .inr rfl), res1 rfl ?_⟩)
      exact rv_ownM rfl rfl rfl h3
end
end Go.Proofs.YtoiaegbmbhgdpaaGreat
