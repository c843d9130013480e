/- The law VarintOnce, walked. -/
import Derived.Test.YtjohkaonokghbaaAwake02
namespace Go.Proofs.Ytjohkaonokghbaa
open Go.RowKit

theorem tiI : TI Try.prog 42 3 1 8 := TI.mk' Try.underlying42 (by kernel_rfl)
theorem numI_pos (n : Int) : 0 < (numI n).length := numB_pos _
theorem nums_ge (ns : List Int) : ns.length ≤ (ns.flatMap numI).length := by
  induction ns with
  | nil => simp
  | cons n ns ih => have := numI_pos n; simp only [List.flatMap_cons, List.length_append, List.length_cons]; omega

/-- a reader that was made in the world w2, later -/
structure RdS (w2 wr : World) (B : Nat) (v : Value) (l : List UInt8) (e : Int) : Prop where
  obj : ObjAt wr B 111 #[v, .int .i64 e]
  bs : Bs w2 v l
  rest : w2.grownBy wr (some B)
  old : ∃ v2 e2, (∃ a n c, v2 = Value.slice a n c) ∧ ObjAt w2 B 111 #[v2, .int .i64 e2]
theorem RdS.keepBs {w2 wr : World} {B : Nat} {v v' : Value} {l l' : List UInt8} {e : Int} (h : RdS w2 wr B v l e) (hs : Bs w2 v' l') : Bs wr v' l' := by
  obtain ⟨v2, e2, ⟨a, n, c, rfl⟩, ho⟩ := h.old
  exact Bs.keep hs ho (by simp) h.rest
theorem RdS.at {w2 wr : World} {B : Nat} {v : Value} {l : List UInt8} {e : Int} (h : RdS w2 wr B v l e) : RdAt wr B v l e := by
  obtain ⟨v2, e2, ⟨a, n, c, rfl⟩, ho⟩ := h.old
  exact ⟨h.obj, Bs.keep h.bs ho (by simp) h.rest⟩
theorem RdS.start {w2 : World} {B : Nat} {v : Value} {l : List UInt8} {e : Int} (h : RdAt w2 B v l e) : RdS w2 w2 B v l e := by
  obtain ⟨a, c, hv⟩ := h.slice
  exact ⟨h.obj, h.bs, grownBy_refl _ _, v, e, ⟨a, _, c, hv⟩, h.obj⟩
theorem RdS.lt {w2 wr : World} {B : Nat} {v : Value} {l : List UInt8} {e : Int} (h : RdS w2 wr B v l e) : B < w2.heap.size := by
  obtain ⟨v2, e2, _, ho⟩ := h.old
  exact ho.lt
/-- behind a call that worked on the reader -/
theorem RdS.call {w2 wr w3 : World} {B : Nat} {v v3 : Value} {l l3 : List UInt8} {e e3 : Int} (h : RdS w2 wr B v l e) (h3 : RdAt w3 B v3 l3 e3) (hg : wr.grownBy w3 (some B)) (hs : ∀ w0, Bs w0 v l → Bs w0 v3 l3) : RdS w2 w3 B v3 l3 e3 :=
  ⟨h3.obj, hs _ h.bs, grownBy_new h.rest hg (fun _ hk => .inl (Option.some.inj hk).symm), h.old⟩
/-- behind what worked on new memory alone -/
theorem RdS.later {w2 wr w3 : World} {B : Nat} {v : Value} {l : List UInt8} {e : Int} {row : Option Nat} (h : RdS w2 wr B v l e) (hg : wr.grownBy w3 row) (hr : ∀ k, row = some k → w2.heap.size ≤ k) : RdS w2 w3 B v l e :=
  ⟨h.obj.grown hg (fun he => by have := hr B he.symm; have := h.lt; omega), h.bs, grownBy_new h.rest hg (fun k hk => .inr (hr k hk)), h.old⟩
theorem RdS.ext {w2 wr w3 : World} {B : Nat} {v : Value} {l : List UInt8} {e : Int} (h : RdS w2 wr B v l e) (hx : Ext wr w3) : RdS w2 w3 B v l e :=
  h.later (row := none) (grownBy_ext hx) (by simp)

theorem numSt_ok {l : List UInt8} (h : (rdNum l).2.2 = 0) : numSt l 0 = (((rdNum l).1 : Int), l.drop (rdNum l).2.1, 0) := by
  unfold numSt; rw [if_neg (by simp), if_neg (by simp [h])]
theorem numSt_bad {l : List UInt8} (h : (rdNum l).2.2 ≠ 0) : numSt l 0 = (0, l, (rdNum l).2.2) := by
  unfold numSt; rw [if_neg (by simp), if_pos h]

set_option maxRecDepth 10000 in
set_option maxHeartbeats 1600000 in
theorem varintOnce_any (v : Value) (b : List UInt8) (w : World) (hv : Bs w v b) :
    Calls Try.prog 5 #[v] w fun e w' => e = .returned (.bool true) ∧ Ext w w' := by
  have hv0 := hv
  obtain ⟨a, c, bb, o, rfl, h1, h2, -⟩ := hv.open
  have h5 := len_le h1 h2
  clear h1 h2 hv
  go_enter Try.func5, Try.ntmps5
  go_wp2_with fail
  refine (awake02_any _).mono ?_
  rintro e w1 ⟨rfl, hx⟩
  by_cases hbig : 300 < b.length
  · go_wp2
    go_ret
    exact ⟨rfl, hx⟩
  go_wp2_with fail
  refine Calls.mono (rNew_any _ b _ (hv0.ext hx) (by omega)) ?_
  rintro e w2 ⟨B, v2, rfl, hB, hrd0, hx2⟩
  have hv2 := hv0.ext (hx.trans hx2)
  have hS0 := RdS.start hrd0
  clear hrd0 hv0
  go_wp2
  go_loopw [4, 5, 6] (fun vl i _ wr => ∃ (k : Nat) (lr : List UInt8) (er : Int) (vr : Value) (ns : List Int), i = .int .i64 k ∧ k ≤ 301 ∧ RdS w2 wr B vr lr er ∧ OwnR w2.heap.size 3 1 encI wr vl ns ∧ ns.length ≤ k ∧ Hid (b = ns.flatMap numI ++ lr ∧ (∀ n ∈ ns, okNum n) ∧ (er = 0 → ns.length = k) ∧ (er ≠ 0 → lr ≠ []))) (fun _ i _ _ => 301 - (intOf i).toNat)
  case atStart => exact ⟨0, b, 0, v2, [], rfl, by omega, hS0, OwnR.nil, by simp, Lib.hid ⟨by simp, by simp, fun _ => rfl, fun h => absurd rfl h⟩⟩
  case round =>
    obtain ⟨k, lr, er, vr, ns, rfl, hk, hS, hown, hnk, HI⟩ := hrel
    have hat := hS.at
    by_cases hgo : k < 301 ∧ 0 < lr.length ∧ er = 0
    · obtain ⟨hk1, hl1, rfl⟩ := hgo
      by_cases hok : (rdNum lr).2.2 = 0
      · obtain ⟨p1, p2, p3, p4⟩ := rd_put hok
        have HN := Lib.hid (numSt_ok hok)
        have HP := Lib.hid p1
        generalize (rdNum lr).1 = n at *
        generalize (rdNum lr).2.1 = q at *
        clear hok p1
        go_wp2_with fail
        refine Calls.mono (rLeft_any hat) ?_
        rintro e w3 ⟨rfl, rfl⟩
        go_wp2_with fail
        refine Calls.mono (rErr_any hat) ?_
        rintro e w3 ⟨rfl, rfl⟩
        go_wp2_with fail
        refine Calls.mono (rNumber_any hat) ?_
        rw [HN.out]
        rintro e w3 ⟨v3, rfl, hat3, hg3, hsub3⟩
        have hS3 := hS.call hat3 hg3 hsub3
        have hown3 := hown.kept hg3 (fun q hq => by have := hS.lt; have := Option.some.inj hq; omega)
        clear hown
        go_wp2_with fail
        refine Calls.mono (rErr_any hat3) ?_
        rintro e w4 ⟨rfl, rfl⟩
        have hsz := hS3.rest.size
        go_wp2_with (at_builtin; refine wpList_appr rfl _ _ 42 rfl tiI encI_ok w2.heap.size ns [(n : Int)] _ _ rfl rfl (hown3.alloc _) ?_ (Sl.new1 (enc := encI) encI_ok.len _ _ _ _ rfl) ?_ ?_ ?_)
        · simp; omega
        · (first | omega | (simp; omega) | (unfold maxLen; omega) | (unfold maxLen; simp; omega))
        · (first | omega | (simp; omega) | (unfold maxLen; omega) | (unfold maxLen; simp; omega))
        · intro v5 w5 r HR hown5 hg5 _
          have hS5 := (hS3.ext ((Ext.refl _).alloc _)).later hg5 (fun q hq => (hown3.lt q hq).1)
          clear hown3 hat3 hat hS hS3
          go_wp2
          go_roundw
          case rel =>
            refine ⟨k + 1, lr.drop q, 0, v3, ns ++ [(n : Int)], by go_num, by omega, hS5, by rw [← HR.out]; exact hown5, by simp; omega, Lib.hid ?_⟩
            obtain ⟨i1, i2, i3, _⟩ := HI.out
            refine ⟨?_, ?_, fun _ => by have := i3 (by first | rfl | trivial); simp; exact this, fun h => absurd rfl h⟩
            · rw [i1]
              simp only [List.flatMap_append, List.flatMap_cons, List.flatMap_nil, List.append_nil, List.append_assoc]
              rw [show numI (n : Int) = numB n by simp [numI], HP.out, List.take_append_drop]
            · intro m hm
              rcases List.mem_append.1 hm with h | h
              · exact i2 m h
              · simp at h; subst h; unfold okNum; omega
          case measure => simp [intOf]; omega
      · have HN := Lib.hid (numSt_bad hok)
        have hb1 : ((rdNum lr).2.2 == 0) = false := by simp [hok]
        have HOK := Lib.hid hok
        generalize (rdNum lr).2.2 = e3 at *
        clear hok
        go_wp2_with fail
        refine Calls.mono (rLeft_any hat) ?_
        rintro e w3 ⟨rfl, rfl⟩
        go_wp2_with fail
        refine Calls.mono (rErr_any hat) ?_
        rintro e w3 ⟨rfl, rfl⟩
        go_wp2_with fail
        refine Calls.mono (rNumber_any hat) ?_
        rw [HN.out]
        rintro e w3 ⟨v3, rfl, hat3, hg3, hsub3⟩
        have hS3 := hS.call hat3 hg3 hsub3
        have hown3 := hown.kept hg3 (fun q hq => by have := hS.lt; have := Option.some.inj hq; omega)
        clear hown
        go_wp2_with fail
        refine Calls.mono (rErr_any hat3) ?_
        rintro e w4 ⟨rfl, rfl⟩
        go_wp2
        go_roundw
        case rel =>
          refine ⟨k + 1, lr, e3, v3, ns, by go_num, by omega, hS3, hown3, by omega, Lib.hid ?_⟩
          obtain ⟨i1, i2, _, _⟩ := HI.out
          exact ⟨i1, i2, fun h => absurd h HOK.out, fun _ h => by rw [h] at hl1; simp at hl1⟩
        case measure => simp [intOf]; omega
    · have hend : Hid (er = 0 → lr = []) := by
        refine Lib.hid fun he => ?_
        obtain ⟨i1, _, i3, _⟩ := HI.out
        have hh := i3 he
        have hge := nums_ge ns
        have hlen := congrArg List.length i1
        rw [List.length_append] at hlen
        rcases Nat.eq_zero_or_pos lr.length with h | h
        · exact List.eq_nil_of_length_eq_zero h
        · exact absurd ⟨by omega, h, he⟩ hgo
      obtain ⟨i1, i2, _, i4⟩ := HI.out
      have I1 := Lib.hid i1
      have I2 := Lib.hid i2
      have hlen : (ns.flatMap numI).length + lr.length = b.length := by rw [i1, List.length_append]
      have hnsl := nums_ge ns
      have HT : Hid (b.take (b.length - lr.length) = ns.flatMap numI) := Lib.hid (by
        rw [show b.length - lr.length = (ns.flatMap numI).length by omega]
        rw [i1]; simp)
      have HC : ((er == 0) = true ∧ ((lr.length : Int) == 0) = true ∧ lr.length ≤ 0) ∨ ((er == 0) = false ∧ ((lr.length : Int) == 0) = false ∧ 0 < lr.length) := by
        by_cases he : er = 0
        · have := hend.out he
          subst this; exact .inl ⟨by simp [he], rfl, by simp⟩
        · have h1 := i4 he
          have h2 : 0 < lr.length := List.length_pos_iff.2 h1
          exact .inr ⟨by simp [he], by rw [beq_eq_false_iff_ne]; omega, h2⟩
      clear i1 i2 i4 HI hend hgo
      have hns := hown.sl encI_ok
      rcases HC with ⟨hE, hL, hl0⟩ | ⟨hE, hL, hl0⟩ <;> by_cases hk1 : k < 301
      all_goals
        go_wp2_with (first | (go_at_call 27; refine Calls.mono (rLeft_any hat) ?_; rintro e w3 ⟨rfl, rfl⟩) | (go_at_call 28; refine Calls.mono (rErr_any hat) ?_; rintro e w3 ⟨rfl, rfl⟩))
        refine Calls.mono (put_ok _ _ [] ns _ (Sl.nil _) hns (by simp; omega) I2.out) ?_
        rintro e w4 ⟨v4, rfl, hown4⟩
        have hx4 := hown4.ext
        have hs4 : Bs w4 v4 (ns.flatMap numI) := by simpa using hown4.sl encB_ok
        have hS4 := hS.ext hx4
        have hat4 := hS4.at
        obtain ⟨a', c', hsl, hs', -⟩ := Sl.to tiB (hS4.keepBs hv2) (b.length - lr.length) (by omega) .i64
        rw [show ((b.length - lr.length : Nat) : Int) = (b.length : Int) - (lr.length : Int) by omega] at hsl
        rw [HT.out] at hs'
        have hfin : Ext w w4 := Ext.trans hx (Ext.grown hx2 hS4.rest (fun q hq => by have := Option.some.inj hq; omega))
        generalize ns.flatMap numI = F at *
        obtain ⟨a4, c4, _, _, rfl, -⟩ := Bs.open hs4
        clear hown4 hown hns hS hat hx4 hv2 hx hx2 hS0 hS4
        go_wp2_with fail
        refine Calls.mono (rLeft_any hat4) ?_
        rintro e w5 ⟨rfl, rfl⟩
        go_wp2_with fail
        refine Calls.mono (rLeft_any hat4) ?_
        rintro e w5 ⟨rfl, rfl⟩
        go_wp2_with fail
        refine Calls.mono (bytesEq_any _ _ F F _ hs4 hs') ?_
        rw [decide_eq_true (Eq.refl F)]
        rintro e w5 ⟨rfl, hx5⟩
        have hat5 := hat4.ext hx5
        go_wp2_with fail
        refine Calls.mono (rErr_any hat5) ?_
        rintro e w6 ⟨rfl, rfl⟩
        go_wp2_with fail
        refine Calls.mono (rLeft_any hat5) ?_
        rintro e w6 ⟨rfl, rfl⟩
        go_wp2
        go_ret
        exact ⟨rfl, hfin.trans hx5⟩
end Go.Proofs.Ytjohkaonokghbaa
