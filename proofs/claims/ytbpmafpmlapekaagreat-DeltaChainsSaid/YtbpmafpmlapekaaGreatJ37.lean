/- Texts joined: Law16 Kk. -/
import Derived.Test.YtbpmafpmlapekaaGreatJ22
import Derived.Test.YtbpmafpmlapekaaGreatJ11
import Derived.Test.YtbpmafpmlapekaaGreatJ36
namespace Go.Proofs.YtbpmafpmlapekaaGreat
open Go.RowKit
theorem runsB_len : ∀ (l : List Rn) (was : Int), 0 ≤ was → (∀ r ∈ l, rnR r = true) → (runsB was l).length ≤ 20 * l.length := by
  intro l
  induction l with
  | nil => intro was _ _; simp [runsB]
  | cons x l ih =>
    intro was h0 h
    have hx := (rnR_iff x).1 (h x List.mem_cons_self)
    have h1 := numI_len (x.fr - was) (by omega)
    have h2 := numI_len (x.to - x.fr) (by omega)
    have h3 := ih x.to (by omega) (fun r hr => h r (List.mem_cons_of_mem _ hr))
    rw [runsB, List.length_append, List.length_append, List.length_cons]
    omega
theorem knB_len {k : Kn} (h1 : 1 ≤ k.rep) (h2 : k.rep ≤ 16) (h3 : rnsOk k.runs) (hf : k.runs.length ≤ 4096) : (knB k).length ≤ 90000 := by
  have q1 := numI_len k.rep (by omega)
  have q2 := numI_len (k.runs.length : Int) (by omega)
  have q3 := runsB_len k.runs 0 (by omega) (fun r hr => by
    obtain ⟨i, hi, rfl⟩ := List.getElem_of_mem hr
    exact (h3 i hi hi).1)
  unfold knB
  rw [List.length_append, List.length_append]; omega
theorem flat_lenC {α : Type} {B : α → List UInt8} (c : Nat) : ∀ l : List α, (∀ x ∈ l, (B x).length ≤ c) → (l.flatMap B).length ≤ c * l.length := by
  intro l
  induction l with
  | nil => intro _; simp
  | cons x l ih =>
    intro h
    have h1 := h x List.mem_cons_self
    have h2 := ih (fun y hy => h y (List.mem_cons_of_mem _ hy))
    rw [List.flatMap_cons, List.length_append, List.length_cons, Nat.mul_add]; omega
theorem setB_len {s : List Kn} (h : knsOk s) (hf : fewS s) : (setB s).length ≤ 1500000 := by
  have h1 := flat_lenC (B := knB) 90000 s (fun k hk => by
    have hfk := hf k hk
    obtain ⟨i, hi, rfl⟩ := List.getElem_of_mem hk
    obtain ⟨a, b, _, d⟩ := knsOk_get h hi
    exact knB_len a b d hfk)
  have h2 := knsOk_len h
  have h3 := numI_len (s.length : Int) (by omega)
  unfold setB
  rw [List.length_append]; omega
def s16 : List Kn := [⟨1, [⟨1, 3⟩, ⟨6, 6⟩]⟩]
theorem numI_s' {n : Int} (h0 : 0 ≤ n) (h : n < 128) : numI n = [UInt8.ofNat n.toNat] := by unfold numI; rw [numB_lt (by omega)]
theorem s16B : setB s16 = [1, 1, 2, 1, 2, 3, 0] := by
  unfold setB s16
  simp only [List.flatMap_cons, List.flatMap_nil, List.append_nil, knB, runsB, List.length_cons, List.length_nil]
  rw [numI_s' (by simp) (by simp), numI_s' (by simp) (by simp), numI_s' (by simp) (by simp), numI_s' (by simp) (by simp), numI_s' (by simp) (by simp), numI_s' (by simp) (by simp), numI_s' (by simp) (by simp)]
  rfl
section
set_option maxRecDepth 10000
set_option maxHeartbeats 8000000
theorem know_Right0 : Fn Tryz.prog 19 [.bor 4 []] (boR true) := by
  refine fn_intro Tryz.func19 rfl (by kernel_rfl) Tryz.ntmps19 (Nat.le_of_ble_eq_true rfl) ?_
  (refine w0 ?_; (repeat' (first | refine W2.mk ?_ ?_ | refine W1.mk fun hc => ?_)))
  refine AW_loopP (X := Unit) (fun _ => True) (fun _ => mkSt [(7, iC .i64 0), (8, iC .i64 0)] []) (fun _ => 0) () trivial ?_ ?_
  · exact le_auto
  · intro _ _
    (refine w0 ?_; (repeat' (first | refine W2.mk ?_ ?_ | refine W1.mk fun hc => ?_)))
    (refine ⟨(by first | exact .inl rfl | exact .inr rfl), res1 rfl ?_⟩)
    exact rv_bool rfl rfl
theorem kc_Know0 : Fn Tryz.prog 20 [.bor 4 []] (.tup2 (ownB [0]) (inR 0)) := by
  have h0 := know_Right0
  have c0 := kc_put [] [0] (by simp) (ok_small (by omega) (by omega))
  have e0 : [(0 : Int)].flatMap numI = [0] := by
    rw [List.flatMap_cons, List.flatMap_nil, List.append_nil, numI_s' (by omega) (by omega)]; rfl
  rw [List.nil_append, e0] at c0
  refine fn_intro Tryz.func20 rfl (by kernel_rfl) Tryz.ntmps20 (Nat.le_of_ble_eq_true rfl) ?_
  (have kc1 := h0; have kc2 := c0; refine w0 ?_; (repeat' (first | refine W2.mk ?_ ?_ | refine W1.mk fun hc => ?_)); all_goals clear kc2 kc1)
  refine AW_loopP (X := Unit) (fun _ => True) (fun _ => mkSt [(4, .row 18 0), (20, iC .i64 0), (21, iC .i64 0)] [(18, .row 5 1 ([(0 : UInt8)].map byteP))]) (fun _ => 0) () trivial ?_ ?_
  · exact le_auto
  · intro _ _
    (refine w0 ?_; (repeat' (first | refine W2.mk ?_ ?_ | refine W1.mk fun hc => ?_)))
    (refine ⟨(by first | exact .inl rfl | exact .inr rfl), res2 rfl ?_ ?_⟩)
    · exact rv_own rfl rfl rfl
    · exact rv_int rfl rfl
end
end Go.Proofs.YtbpmafpmlapekaaGreat
namespace Go.Proofs.YtbpmafpmlapekaaGreat
open Go.RowKit
theorem pcB_len {p : Pc} (h1 : rgR p.rg = true) (h2 : knsOk p.set) (h3 : fewS p.set) : (pcB p).length ≤ 1500040 := by
  have q1 := rgB_len h1
  have q2 := setB_len h2 h3
  unfold pcB
  rw [List.length_append]; omega
theorem pcsOk_get {k : List Pc} (h : pcsOk k) {i : Nat} (hi : i < k.length) : rgR k[i].rg = true ∧ knsOk k[i].set := let ⟨a, _, c, _⟩ := h i hi hi; ⟨a, c⟩
def fewK (k : List Pc) : Prop := ∀ p ∈ k, fewS p.set
theorem lis_tot (l : List UInt8) (e : Int) : knsTot (lisSt knSt 16 l e).1 := by
  have h1 := lisSt_len (st := knSt) (most := 16) (by omega) l e
  have h2 := (lis_knSz l e).2
  have : ∀ l : List Kn, (∀ k ∈ l, k.runs.length ≤ 4096) → (l.flatMap Kn.runs).length ≤ 4096 * l.length := by
    intro l
    induction l with
    | nil => intro _; simp
    | cons x l ih =>
      intro h
      have h1 := h x List.mem_cons_self
      have h2 := ih (fun y hy => h y (List.mem_cons_of_mem _ hy))
      rw [List.flatMap_cons, List.length_append, List.length_cons]; omega
  have := this _ h2
  exact ⟨by omega, by omega⟩
theorem pcSt_good (l : List UInt8) (e : Int) : knsTot (pcSt l e).1.set ∧ fewS (pcSt l e).1.set := ⟨lis_tot _ _, (lis_knSz _ _).2⟩
theorem lis_pcSz (l : List UInt8) (e : Int) : pcsSz (lisSt pcSt 4096 l e).1 ∧ fewK (lisSt pcSt 4096 l e).1 := by
  have h1 := lisSt_len (st := pcSt) (most := 4096) (by omega) l e
  have h2 := lisSt_all (p := fun p : Pc => knsTot p.set ∧ fewS p.set) pcSt_good 4096 l e
  exact ⟨⟨by omega, fun p hp => (h2 p hp).1⟩, fun p hp => (h2 p hp).2⟩
section
set_option maxRecDepth 10000
set_option maxHeartbeats 8000000
theorem kc_Know (k : List Pc) (hk : pcsSz k) (hf : fewK k) (hl : k.length ≤ 4096) (b : Bool) (hb : b = true ↔ pcsOk k) : Fn Tryz.prog 20 [pcsB k] (.tup2 (ownB (if b then knowB k else [])) (inR (if b then 0 else 2))) := by
  have h0 := know_Right k hk b hb
  cases b with
  | false =>
    show Fn _ _ _ (.tup2 (ownB []) (inR 2))
    clear hb
    refine fn_intro Tryz.func20 rfl (by kernel_rfl) Tryz.ntmps20 (Nat.le_of_ble_eq_true rfl) ?_
    (have kc1 := h0; refine w0 ?_; (repeat' (first | refine W2.mk ?_ ?_ | refine W1.mk fun hc => ?_)); all_goals clear kc1)
    all_goals (refine ⟨(by first | exact .inl rfl | exact .inr rfl), res2 rfl ?_ ?_⟩)
    all_goals first | exact rv_nil rfl | exact rv_int rfl rfl
  | true =>
    show Fn _ _ _ (.tup2 (ownB (knowB k)) (inR 0))
    have hok := hb.1 rfl
    clear hb
    have hp0 := kc_put [] [(k.length : Int)] (by simp) (ok_small (by omega) (by omega))
    have hn0 := numI_len (k.length : Int) (by omega)
    refine fn_intro Tryz.func20 rfl (by kernel_rfl) Tryz.ntmps20 (Nat.le_of_ble_eq_true rfl) ?_
    (have kc1 := h0; have kc2 := hp0; refine w0 ?_; (repeat' (first | refine W2.mk ?_ ?_ | refine W1.mk fun hc => ?_)); all_goals clear kc2 kc1)
    refine AW_le (Le_mv 18 600) ?_
    refine AW_loopP (X := Nat × List UInt8) (fun x => x.1 ≤ k.length ∧ x.2.length ≤ 10 + 1500040 * x.1 ∧ x.2 ++ (k.drop x.1).flatMap pcB = knowB k)
      (fun x => mkSt [(4, .row 600 0), (19, pcsB k), (20, iC .i64 (k.length : Nat)), (21, iC .i64 (x.1 : Nat))] [(600, .row 5 1 (x.2.map byteP))]) (fun x => k.length - x.1) (0, [(k.length : Int)].flatMap numI) ⟨Nat.zero_le _, by simp; omega, by simp [knowB]⟩ ?_ ?_
    · exact le_auto
    · clear h0 hp0
      rintro ⟨i, acc⟩ ⟨h1, h2, h3⟩
      simp only at h1 h2 h3 ⊢
      by_cases hlt : i < k.length
      · obtain ⟨hr, hs⟩ := pcsOk_get hok hlt
        have hfi := hf _ (List.getElem_mem hlt)
        have hbl := pcB_len hr hs hfi
        have hrl := rgB_len hr
        have hsz := (rgR_iff _).1 hr
        have t1 := textB_len k[i].rg.lo (by omega)
        have t2 := textB_len k[i].rg.hi (by omega)
        have n0 := numI_one (n := 0) (by omega) (by omega)
        rw [List.drop_eq_getElem_cons hlt, List.flatMap_cons] at h3
        have c0 := kc_few k[i].set (hk.at hlt).1 hfi
        have c1 := varint_Text acc [k[i].rg.lo] (by simp; omega)
        clear hok hk hf
        by_cases ho : k[i].rg.op = true
        · have e : pcB k[i] = textB k[i].rg.lo ++ numI 1 ++ setB k[i].set := by unfold pcB rgB; rw [if_pos ho]
          have n1 := numI_one (n := 1) (by omega) (by omega)
          rw [e] at h3 hbl
          have c2 := kc_put (acc ++ [k[i].rg.lo].flatMap textB) [1] (by simp; omega) (ok_small (by omega) (by omega))
          have c4 := kc_set (acc ++ [k[i].rg.lo].flatMap textB ++ [(1 : Int)].flatMap numI) k[i].set (by simp; omega) hs hfi
          clear hs hfi hr
          (have kc1 := c0; have kc2 := c1; have kc3 := c2; have kc4 := c4; refine w0 ?_; (repeat' (first | refine W2.mk ?_ ?_ | refine W1.mk fun hc => ?_)); all_goals clear kc4 kc3 kc2 kc1)
          all_goals first | (exfalso; simp_all; done) | skip
          refine ⟨(i + 1, acc ++ [k[i].rg.lo].flatMap textB ++ [(1 : Int)].flatMap numI ++ setB k[i].set), ⟨by simp only; omega, by simp at hbl ⊢; omega, by rw [← h3]; simp⟩, by simp only; omega, Le_trans (Le_mv 52 600) ?_⟩
          exact le_auto
        · have e : pcB k[i] = textB k[i].rg.lo ++ (numI 0 ++ textB k[i].rg.hi) ++ setB k[i].set := by unfold pcB rgB; rw [if_neg ho]
          rw [e] at h3 hbl
          rw [Bool.not_eq_true] at ho
          have c2 := kc_put (acc ++ [k[i].rg.lo].flatMap textB) [0] (by simp; omega) (ok_small (by omega) (by omega))
          have c3 := varint_Text (acc ++ [k[i].rg.lo].flatMap textB ++ [(0 : Int)].flatMap numI) [k[i].rg.hi] (by simp; omega)
          have c4 := kc_set (acc ++ [k[i].rg.lo].flatMap textB ++ [(0 : Int)].flatMap numI ++ [k[i].rg.hi].flatMap textB) k[i].set (by simp; omega) hs hfi
          clear hs hfi hr
          (have kc1 := c0; have kc2 := c1; have kc3 := c2; have kc4 := c3; have kc5 := c4; refine w0 ?_; (repeat' (first | refine W2.mk ?_ ?_ | refine W1.mk fun hc => ?_)); all_goals clear kc5 kc4 kc3 kc2 kc1)
          all_goals first | (exfalso; simp_all; done) | skip
          refine ⟨(i + 1, acc ++ [k[i].rg.lo].flatMap textB ++ [(0 : Int)].flatMap numI ++ [k[i].rg.hi].flatMap textB ++ setB k[i].set), ⟨by simp only; omega, by simp at hbl ⊢; omega, by rw [← h3]; simp⟩, by simp only; omega, Le_trans (Le_mv 52 600) ?_⟩
          exact le_auto
      · rw [List.drop_of_length_le (by omega), List.flatMap_nil, List.append_nil] at h3
        (refine w0 ?_; (repeat' (first | refine W2.mk ?_ ?_ | refine W1.mk fun hc => ?_)))
        (refine ⟨(by first | exact .inl rfl | exact .inr rfl), res2 rfl ?_ ?_⟩)
        · exact rv_ownM rfl rfl rfl h3
        · exact rv_int rfl rfl
theorem rkc_Know (k : List Pc) (hf : fewK k) (hl : k.length ≤ 4096) (hok : pcsOk k) : Fn Tryz.prog 28 [pcsB k] (ownB (knowB k)) := by
  have hp0 := ref_Bytes (k.length : Int) (by unfold okNum; omega)
  have hn0 := numI_len (k.length : Int) (by omega)
  refine fn_intro Tryz.func28 rfl (by kernel_rfl) Tryz.ntmps28 (Nat.le_of_ble_eq_true rfl) ?_
  (have kc1 := hp0; refine w0 ?_; (repeat' (first | refine W2.mk ?_ ?_ | refine W1.mk fun hc => ?_)); all_goals clear kc1)
  refine AW_le (Le_mv 8 600) ?_
  refine AW_loopP (X := Nat × List UInt8) (fun x => x.1 ≤ k.length ∧ x.2.length ≤ 10 + 1500040 * x.1 ∧ x.2 ++ (k.drop x.1).flatMap pcB = knowB k)
    (fun x => mkSt [(0, pcsB k), (3, .row 600 0), (4, iC .i64 (x.1 : Nat))] [(600, .row 5 1 (x.2.map byteP))]) (fun x => k.length - x.1) (0, numI (k.length : Int)) ⟨Nat.zero_le _, by simp only; omega, by simp [knowB]⟩ ?_ ?_
  · exact le_auto
  · clear hp0
    rintro ⟨i, acc⟩ ⟨h1, h2, h3⟩
    simp only at h1 h2 h3 ⊢
    by_cases hlt : i < k.length
    · obtain ⟨hr, hs⟩ := pcsOk_get hok hlt
      have hfi := hf _ (List.getElem_mem hlt)
      have hbl := pcB_len hr hs hfi
      have hrl := rgB_len hr
      have hsz := (rgR_iff _).1 hr
      have t1 := textB_len k[i].rg.lo (by omega)
      have t2 := textB_len k[i].rg.hi (by omega)
      have n0 := numI_one (n := 0) (by omega) (by omega)
      have n1 := numI_one (n := 1) (by omega) (by omega)
      rw [List.drop_eq_getElem_cons hlt, List.flatMap_cons] at h3
      have c1 := ref_Text k[i].rg.lo (by omega)
      have c2 := ref_Text k[i].rg.hi (by omega)
      have c4 := rkc_Set k[i].set hs hfi
      have hsl := setB_len hs hfi
      clear hok hf hs hfi hr
      by_cases ho : k[i].rg.op = true
      · have e : pcB k[i] = textB k[i].rg.lo ++ numI 1 ++ setB k[i].set := by unfold pcB rgB; rw [if_pos ho]
        rw [e] at h3 hbl
        (have ko1 := c1; have ko2 := c2; have kc1 := c4; refine w0 ?_; (repeat' (first | refine W2.mk ?_ ?_ | refine W1.mk fun hc => ?_ | ((first | apply AL_t rfl | apply AL_0 rfl | apply AD_t rfl | apply AD_0 rfl); (focus (first | ((apply u_k 5; (focus rfl); first | exact u_load_bpT ⟨rfl, rfl, rfl⟩ rfl inferInstance inferInstance rfl rfl rfl rfl | exact u_load_rpT ⟨rfl, rfl, rfl⟩ rfl inferInstance inferInstance rfl rfl rfl rfl)) | (apply u_g; (focus rfl); apply op_gyes rfl rfl rfl rfl rfl; first | ((apply u_k 5; (focus rfl); first | exact u_load_bpT ⟨rfl, rfl, rfl⟩ rfl inferInstance inferInstance rfl rfl rfl rfl | exact u_load_rpT ⟨rfl, rfl, rfl⟩ rfl inferInstance inferInstance rfl rfl rfl rfl))))); refine w0 ?_))); all_goals clear kc1 ko2 ko1)
        all_goals first | (exfalso; simp_all; done) | skip
        refine ⟨(i + 1, acc ++ textB k[i].rg.lo ++ numI 1 ++ setB k[i].set), ⟨by simp only; omega, by simp at hbl ⊢; omega, by rw [← h3]; simp⟩, by simp only; omega, ?_⟩
        (refine Le_mk ?_ ?_; (focus ((repeat (first | exact AllG.nil | (refine AllG.cons ?_ ?_; rotate_left))); (all_goals try (first | rfl | (refine eqI ?_; first | omega | (simp; done) | (simp; omega)) | (refine eqBo ?_; first | (simp; done) | (simp [*]; done)))))); (focus ((repeat (first | exact AllB.nil | (refine AllB.cons ?_ ?_; rotate_left))); (all_goals try (first | rfl | (refine eqRw ?_; (rw [List.map_append] <;> rfl); done) | (refine eqMix ?_; (rw [List.map_append] <;> rfl); done))))))
        show Blk.row _ _ (((acc.map byteP ++ _) ++ [[rawP (.int .u8 1)]]) ++ _) = _
        rw [← numI_1, ← List.map_append, ← List.map_append, ← List.map_append]
      · have e : pcB k[i] = textB k[i].rg.lo ++ (numI 0 ++ textB k[i].rg.hi) ++ setB k[i].set := by unfold pcB rgB; rw [if_neg ho]
        rw [e] at h3 hbl
        rw [Bool.not_eq_true] at ho
        (have ko1 := c1; have ko2 := c2; have kc1 := c4; refine w0 ?_; (repeat' (first | refine W2.mk ?_ ?_ | refine W1.mk fun hc => ?_ | ((first | apply AL_t rfl | apply AL_0 rfl | apply AD_t rfl | apply AD_0 rfl); (focus (first | ((apply u_k 5; (focus rfl); first | exact u_load_bpT ⟨rfl, rfl, rfl⟩ rfl inferInstance inferInstance rfl rfl rfl rfl | exact u_load_rpT ⟨rfl, rfl, rfl⟩ rfl inferInstance inferInstance rfl rfl rfl rfl)) | (apply u_g; (focus rfl); apply op_gyes rfl rfl rfl rfl rfl; first | ((apply u_k 5; (focus rfl); first | exact u_load_bpT ⟨rfl, rfl, rfl⟩ rfl inferInstance inferInstance rfl rfl rfl rfl | exact u_load_rpT ⟨rfl, rfl, rfl⟩ rfl inferInstance inferInstance rfl rfl rfl rfl))))); refine w0 ?_))); all_goals clear kc1 ko2 ko1)
        all_goals first | (exfalso; simp_all; done) | skip
        refine ⟨(i + 1, acc ++ textB k[i].rg.lo ++ numI 0 ++ textB k[i].rg.hi ++ setB k[i].set), ⟨by simp only; omega, by simp at hbl ⊢; omega, by rw [← h3]; simp⟩, by simp only; omega, ?_⟩
        (refine Le_mk ?_ ?_; (focus ((repeat (first | exact AllG.nil | (refine AllG.cons ?_ ?_; rotate_left))); (all_goals try (first | rfl | (refine eqI ?_; first | omega | (simp; done) | (simp; omega)) | (refine eqBo ?_; first | (simp; done) | (simp [*]; done)))))); (focus ((repeat (first | exact AllB.nil | (refine AllB.cons ?_ ?_; rotate_left))); (all_goals try (first | rfl | (refine eqRw ?_; (rw [List.map_append] <;> rfl); done) | (refine eqMix ?_; (rw [List.map_append] <;> rfl); done))))))
        show Blk.row _ _ ((((acc.map byteP ++ _) ++ [[rawP (.int .u8 0)]]) ++ _) ++ _) = _
        rw [← numI_0, ← List.map_append, ← List.map_append, ← List.map_append, ← List.map_append]
    · rw [List.drop_of_length_le (by omega), List.flatMap_nil, List.append_nil] at h3
      (refine w0 ?_; (repeat' (first | refine W2.mk ?_ ?_ | refine W1.mk fun hc => ?_)))
      (refine ⟨(by first | exact .inl rfl | exact .inr rfl), res1 rfl ?_⟩)
      exact rv_ownM rfl rfl rfl h3
theorem kc_piece (l : List UInt8) (e : Int) : FnM Tryz.prog 52 [.aggK rdC .aggN] [(1000, rdBox l e)] (pcC (pcSt l e).1) [(1000, rdBox (pcSt l e).2.1 (pcSt l e).2.2)] := by
  dsimp only [pcSt, rgSt]
  have h1 := r_Text l e 17
  generalize textSt 17 l e = t at *
  have h2 := r_Bool t.2.1 t.2.2
  generalize withinSt 0 1 t.2.1 t.2.2 = o at *
  by_cases ho : (o.1 == 1) = true
  · rw [if_pos ho]
    rw [ho] at h2
    dsimp only
    have h4 := (kc_rset o.2.1 o.2.2).frz3
    generalize lisSt knSt 16 o.2.1 o.2.2 = s at *
    refine fnm_intro Tryz.func52 rfl (by kernel_rfl) Tryz.ntmps52 (Nat.le_of_ble_eq_true rfl) ?_
    (have kr1 := h1; have kr2 := h2; have km1 := (show FnMs [(1000, 1000)] _ _ _ _ _ _ from h4); refine w0 ?_; (repeat' (first | refine W2.mk ?_ ?_ | refine W1.mk fun hc => ?_)); all_goals clear km1 kr2 kr1)
    (refine ⟨(by first | exact .inl rfl | exact .inr rfl), resM1 [(1000, 1000)] rfl rfl ?_ ?_⟩; (focus (repeat (first | exact AllX.nil | (refine AllX.cons rfl ?_ ?_; (focus first | rfl | skip))))))
    exact rvm_cellA inferInstance inferInstance rfl rfl rfl rfl rfl rfl
  · rw [if_neg ho]
    rw [show (o.1 == 1) = false by simpa using ho] at h2
    dsimp only
    have h3 := r_Text o.2.1 o.2.2 17
    generalize textSt 17 o.2.1 o.2.2 = h at *
    have h4 := (kc_rset h.2.1 h.2.2).frz3
    generalize lisSt knSt 16 h.2.1 h.2.2 = s at *
    refine fnm_intro Tryz.func52 rfl (by kernel_rfl) Tryz.ntmps52 (Nat.le_of_ble_eq_true rfl) ?_
    (have kr1 := h1; have kr2 := h2; have kr3 := h3; have km1 := (show FnMs [(1000, 1000)] _ _ _ _ _ _ from h4); refine w0 ?_; (repeat' (first | refine W2.mk ?_ ?_ | refine W1.mk fun hc => ?_)); all_goals clear km1 kr3 kr2 kr1)
    (refine ⟨(by first | exact .inl rfl | exact .inr rfl), resM1 [(1000, 1000)] rfl rfl ?_ ?_⟩; (focus (repeat (first | exact AllX.nil | (refine AllX.cons rfl ?_ ?_; (focus first | rfl | skip))))))
    exact rvm_cellA inferInstance inferInstance rfl rfl rfl rfl rfl rfl
end
end Go.Proofs.YtbpmafpmlapekaaGreat
