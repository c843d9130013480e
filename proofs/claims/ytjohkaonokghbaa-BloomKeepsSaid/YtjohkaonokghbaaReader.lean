/- The reader of numbers and texts (varint.Reader): what its calls do. -/
import Derived.Test.YtjohkaonokghbaaRows
import Derived.Test.YtjohkaonokghbaaSlice
import Derived.Test.YtjohkaonokghbaaParse
import Derived.Test.YtjohkaonokghbaaVarint
namespace Go.Proofs.Ytjohkaonokghbaa
open Go.RowKit

/-- block B is a reader with the bytes l left and the error e -/
structure RdAt (w : World) (B : Nat) (v : Value) (l : List UInt8) (e : Int) : Prop where
  obj : ObjAt w B 111 #[v, .int .i64 e]
  bs : Bs w v l
theorem RdAt.ext {w w' : World} {B : Nat} {v : Value} {l : List UInt8} {e : Int} (h : RdAt w B v l e) (he : Ext w w') : RdAt w' B v l e := ⟨h.obj.ext he, h.bs.ext he⟩
theorem RdAt.cells {w : World} {B : Nat} {v : Value} {l : List UInt8} {e : Int} (h : RdAt w B v l e) :
    w.cell? ⟨B, 0, none⟩ = some v ∧ w.cell? ⟨B, 1, none⟩ = some (.int .i64 e) ∧ w.frozen? ⟨B, 0, none⟩ = false ∧ w.frozen? ⟨B, 1, none⟩ = false :=
  ⟨h.obj.cell 0, h.obj.cell 1, h.obj.frozen 0, h.obj.frozen 1⟩
theorem RdAt.slice {w : World} {B : Nat} {v : Value} {l : List UInt8} {e : Int} (h : RdAt w B v l e) : ∃ a c, v = .slice a l.length c := by
  obtain ⟨a, c, _, _, hv, _⟩ := h.bs; exact ⟨a, c, hv⟩
theorem RdAt.setE {w : World} {B : Nat} {v : Value} {l : List UInt8} {e : Int} (h : RdAt w B v l e) (x : Int) : RdAt (w.setCell ⟨B, 1, none⟩ (.int .i64 x)) B v l x := by
  obtain ⟨a, c, rfl⟩ := h.slice
  exact ⟨h.obj.set 1 _, h.bs.grown (grownBy_setCell w ⟨B, 1, none⟩ _) (h.obj.noB (by simp))⟩
theorem RdAt.setB {w : World} {B : Nat} {v : Value} {l : List UInt8} {e : Int} (h : RdAt w B v l e) {v' : Value} {l' : List UInt8} (hs : Bs w v' l') : RdAt (w.setCell ⟨B, 0, none⟩ v') B v' l' e := by
  obtain ⟨a, c, rfl⟩ := h.slice
  exact ⟨h.obj.set 0 _, hs.grown (grownBy_setCell w ⟨B, 0, none⟩ _) (h.obj.noB (by simp))⟩

/-- what a call leaves: a value, the reader's new state; nothing else turned -/
def RetRd (w : World) (B : Nat) (v : Value) (l0 : List UInt8) (r : Value) (l : List UInt8) (e : Int) (en : Ending) (w' : World) : Prop :=
  ∃ v', en = .returned r ∧ RdAt w' B v' l e ∧ w.grownBy w' (some B) ∧ ∀ w0, Bs w0 v l0 → Bs w0 v' l
/-- a call that only looks -/
def RetW (w : World) (r : Value) (en : Ending) (w' : World) : Prop := en = .returned r ∧ w = w'

set_option maxHeartbeats 400000 in
theorem nErr_any {w : World} {B : Nat} {v : Value} {l : List UInt8} {e : Int} (h : RdAt w B v l e) :
    Calls Try.prog 73 #[.pointer (some ⟨B, 0, none⟩)] w (RetW w (.int .i64 e)) := by
  obtain ⟨c0, c1, f0, f1⟩ := h.cells
  go_enter Try.func73, Try.ntmps73
  go_wp2
  go_ret
  exact ⟨rfl, rfl⟩
set_option maxHeartbeats 400000 in
theorem nErr_nil (w : World) : Calls Try.prog 73 #[.pointer none] w (RetW w (.int .i64 1)) := by
  go_enter Try.func73, Try.ntmps73
  go_wp2
  go_ret
  exact ⟨rfl, rfl⟩
set_option maxHeartbeats 400000 in
theorem nLeft_any {w : World} {B : Nat} {v : Value} {l : List UInt8} {e : Int} (h : RdAt w B v l e) :
    Calls Try.prog 72 #[.pointer (some ⟨B, 0, none⟩)] w (RetW w (.int .i64 l.length)) := by
  obtain ⟨a, c, rfl⟩ := h.slice
  obtain ⟨c0, c1, f0, f1⟩ := h.cells
  go_enter Try.func72, Try.ntmps72
  go_wp2
  go_ret
  exact ⟨rfl, rfl⟩
set_option maxHeartbeats 400000 in
theorem nLeft_nil (w : World) : Calls Try.prog 72 #[.pointer none] w (RetW w (.int .i64 0)) := by
  go_enter Try.func72, Try.ntmps72
  go_wp2
  go_ret
  exact ⟨rfl, rfl⟩
set_option maxHeartbeats 400000 in
theorem nFail_any {w : World} {B : Nat} {v : Value} {l : List UInt8} {e : Int} (h : RdAt w B v l e) (x : Int) :
    Calls Try.prog 88 #[.pointer (some ⟨B, 0, none⟩), .int .i64 x] w (RetRd w B v l (.tuple #[]) (failSt x l e).1 (failSt x l e).2) := by
  obtain ⟨c0, c1, f0, f1⟩ := h.cells
  by_cases he : e = 0
  · subst he
    go_enter Try.func88, Try.ntmps88
    go_wp2
    go_end0
    exact ⟨_, rfl, h.setE x, grownBy_setCell _ _ _, fun _ h => h⟩
  · have hb : (e == 0) = false := by simp [he]
    have hf : Hid (failSt x l e = (l, e)) := Lib.hid (if_neg he)
    clear he
    go_enter Try.func88, Try.ntmps88
    go_wp2
    go_end0
    rw [hf.out]
    exact ⟨_, rfl, h, grownBy_refl _ _, fun _ h => h⟩
set_option maxHeartbeats 400000 in
theorem nFail_nil (w : World) (x : Int) : Calls Try.prog 88 #[.pointer none, .int .i64 x] w (RetW w (.tuple #[])) := by
  go_enter Try.func88, Try.ntmps88
  go_wp2
  go_end0
  exact ⟨rfl, rfl⟩

/-- what size answers -/
def sizeSt (l : List UInt8) : Int × Int := if 8 ≤ lead l then (0, 11) else if l.length ≤ lead l then (0, 10) else (lead l + 1, 0)
set_option maxRecDepth 10000 in
set_option maxHeartbeats 800000 in
theorem nSize_any {w : World} {B : Nat} {v : Value} {l : List UInt8} {e : Int} (h : RdAt w B v l e) :
    Calls Try.prog 91 #[.pointer (some ⟨B, 0, none⟩)] w (RetW w (.tuple #[.int .i64 (sizeSt l).1, .int .i64 (sizeSt l).2])) := by
  obtain ⟨c0, c1, f0, f1⟩ := h.cells
  obtain ⟨a, c, b, o, rfl, h1, h2, h3, h4⟩ := h.bs.open
  have h5 := len_le h1 h2
  have hle := lead_le l
  clear h1 h2 h
  go_enter Try.func91, Try.ntmps91
  by_cases h8 : l.length ≤ 8
  · go_wp2
    go_loop [4, 11] (fun _ i => ∃ k : Nat, k ≤ l.length ∧ i = .int .i64 k ∧ k ≤ lead l) (fun _ i => l.length - (intOf i).toNat)
    case atStart => exact ⟨0, Nat.zero_le _, rfl, Nat.zero_le _⟩
    case round =>
      obtain ⟨k, hk, rfl, hkl⟩ := hrel
      by_cases hlt : k < l.length
      · obtain rfl := h3 (by omega)
        have hc := h4 k hlt
        have HS := Lib.hid (lead_step l k hlt hkl)
        generalize l[k] = x at *
        have hx := x.toNat_lt
        clear h3 h4
        by_cases hx8 : x.toNat < 128
        · have hxx : (x.toNat : Int) < 128 := by omega
          go_wp2
          go_ret2
          have := HS.out.2 hx8
          refine ⟨?_, rfl⟩
          rw [sizeSt, if_neg (by omega), if_neg (by omega), this]; rfl
        · have hxx : (128 : Int) ≤ (x.toNat : Int) := by omega
          go_wp2
          go_round
          case rel => exact ⟨k + 1, by omega, by go_num, HS.out.1 (by omega)⟩
          case measure => simp [intOf]; omega
      · by_cases h9 : l.length = 8
        · have h9' : (8 : Int) ≤ (l.length : Int) := by omega
          have H9 := Lib.hid h9
          clear h9
          go_wp2
          go_ret2
          refine ⟨?_, rfl⟩
          have := H9.out
          rw [sizeSt, if_pos (by omega)]; rfl
        · have h9' : l.length < 8 := by omega
          go_wp2
          go_ret2
          refine ⟨?_, rfl⟩
          rw [sizeSt, if_neg (by omega), if_pos (by omega)]; rfl
  · have h8' : 8 < l.length := by omega
    go_wp2
    go_loop [4, 11] (fun _ i => ∃ k : Nat, k ≤ 8 ∧ i = .int .i64 k ∧ k ≤ lead l) (fun _ i => 8 - (intOf i).toNat)
    case atStart => exact ⟨0, Nat.zero_le _, rfl, Nat.zero_le _⟩
    case round =>
      obtain ⟨k, hk, rfl, hkl⟩ := hrel
      by_cases hlt : k < 8
      · have hlt' : k < l.length := by omega
        obtain rfl := h3 (by omega)
        have hc := h4 k hlt'
        have HS := Lib.hid (lead_step l k hlt' hkl)
        generalize l[k] = x at *
        have hx := x.toNat_lt
        clear h3 h4
        by_cases hx8 : x.toNat < 128
        · have hxx : (x.toNat : Int) < 128 := by omega
          go_wp2
          go_ret2
          have := HS.out.2 hx8
          refine ⟨?_, rfl⟩
          rw [sizeSt, if_neg (by omega), if_neg (by omega), this]; rfl
        · have hxx : (128 : Int) ≤ (x.toNat : Int) := by omega
          go_wp2
          go_round
          case rel => exact ⟨k + 1, by omega, by go_num, HS.out.1 (by omega)⟩
          case measure => simp [intOf]; omega
      · go_wp2
        go_ret2
        refine ⟨?_, rfl⟩
        rw [sizeSt, if_pos (by omega)]; rfl

theorem sizeSt_ok {l : List UInt8} (h8 : lead l < 8) (hl : lead l < l.length) : sizeSt l = ((lead l : Int) + 1, 0) := by rw [sizeSt, if_neg (by omega), if_neg (by omega)]
theorem leVal_step (l : List UInt8) (k i : Nat) (hi : i < k) (hk : k ≤ l.length) : leVal ((l.take k).drop i) = (l[i]'(by omega)).toNat % 128 + 128 * leVal ((l.take k).drop (i + 1)) := by
  rw [List.drop_eq_getElem_cons (by simp; omega)]
  simp [leVal]
theorem rdNum_bad {l : List UInt8} (h8 : ¬ (lead l < 8 ∧ lead l < l.length)) : (sizeSt l).2 = (rdNum l).2.2 ∧ (rdNum l).2.2 ≠ 0 := by
  unfold sizeSt rdNum
  by_cases h1 : 8 ≤ lead l
  · rw [if_pos h1, if_pos h1]; exact ⟨rfl, by decide⟩
  · rw [if_neg h1, if_neg h1, if_pos (by omega), if_pos (by omega)]; exact ⟨rfl, by decide⟩

set_option maxRecDepth 10000 in
set_option maxHeartbeats 1600000 in
theorem nNumber_any {w : World} {B : Nat} {v : Value} {l : List UInt8} {e : Int} (h : RdAt w B v l e) :
    Calls Try.prog 74 #[.pointer (some ⟨B, 0, none⟩)] w (RetRd w B v l (.int .i64 (numSt l e).1) (numSt l e).2.1 (numSt l e).2.2) := by
  by_cases he : e = 0
  case neg =>
    have hb : (e == 0) = false := by simp [he]
    have hf : Hid (numSt l e = (0, l, e)) := Lib.hid (if_pos he)
    clear he
    go_enter Try.func74, Try.ntmps74
    go_wp2_with fail
    refine (nErr_any h).mono ?_
    rintro e1 w1 ⟨rfl, rfl⟩
    go_wp2
    go_ret
    rw [hf.out]
    exact ⟨_, rfl, h, grownBy_refl _ _, fun _ h => h⟩
  subst he
  by_cases hg : lead l < 8 ∧ lead l < l.length
  case neg =>
    obtain ⟨hs, hne⟩ := rdNum_bad hg
    have hf : Hid (numSt l 0 = (0, l, (rdNum l).2.2)) := Lib.hid (by rw [numSt, if_neg (by simp), if_pos hne])
    have hft : Hid (failSt (sizeSt l).2 l 0 = (l, (rdNum l).2.2)) := Lib.hid (by rw [hs]; rfl)
    have hb : ((sizeSt l).2 == 0) = false := by rw [hs]; simp [hne]
    have hb' : ((sizeSt l).2 != 0) = true := by rw [hs]; simp [hne]
    clear hs hne hg
    go_enter Try.func74, Try.ntmps74
    go_wp2_with fail
    refine (nErr_any h).mono ?_
    rintro e1 w1 ⟨rfl, rfl⟩
    go_wp2_with fail
    refine (nSize_any h).mono ?_
    rintro e1 w1 ⟨rfl, rfl⟩
    go_wp2_with fail
    refine (nFail_any h _).mono ?_
    rw [hft.out]
    rintro e1 w1 ⟨v1, rfl, h1, hg1, hsub1⟩
    go_wp2
    go_ret
    rw [hf.out]
    exact ⟨_, rfl, h1, hg1, hsub1⟩
  obtain ⟨g8, gl⟩ := hg
  obtain ⟨c0, c1, f0, f1⟩ := h.cells
  obtain ⟨a, c, b, o, rfl, h1, h2, h3, h4⟩ := h.bs.open
  have h5 := len_le h1 h2
  obtain rfl := h3 (by omega)
  have HS := Lib.hid (sizeSt_ok g8 gl)
  have hnum : Hid (rdNum l = if rdBad l then (0, 0, 11) else (leVal (l.take (lead l + 1)), lead l + 1, 0)) := Lib.hid (by rw [rdNum, if_neg (by omega), if_neg (by omega)])
  have hbad : Hid (rdBad l ↔ (0 < lead l ∧ l[lead l]? = some 0) ∨ 281474976710656 < leVal (l.take (lead l + 1))) := Lib.hid (Iff.rfl)
  generalize lead l = k at *
  clear h1 h2 h3
  have hO := h
  clear h
  go_enter Try.func74, Try.ntmps74
  go_wp2_with fail
  refine (nErr_any hO).mono ?_
  rintro e1 w1 ⟨rfl, rfl⟩
  go_wp2_with fail
  refine (nSize_any hO).mono ?_
  rw [HS.out]
  rintro e1 w1 ⟨rfl, rfl⟩
  go_wp2
  go_loop [5, 6] (fun n i => ∃ (j m : Nat), j ≤ k + 1 ∧ i = .int .i64 ((j : Int) - 1) ∧ n = .int .i64 m ∧ Hid (m = leVal ((l.take (k + 1)).drop j))) (fun _ i => (intOf i + 1).toNat)
  case atStart => exact ⟨k + 1, 0, Nat.le_refl _, by go_num, rfl, Lib.hid (by rw [List.drop_of_length_le (by simp; omega)]; rfl)⟩
  case round =>
    obtain ⟨j, m, hj, rfl, rfl, HM⟩ := hrel
    by_cases hj0 : 0 < j
    · obtain ⟨i, rfl⟩ : ∃ i, j = i + 1 := ⟨j - 1, by omega⟩
      have hil : i < l.length := by omega
      have hc := h4 i hil
      have HV := Lib.hid (leVal_step l (k + 1) i (by omega) (by omega))
      have hm : m < 562949953421312 := by
        have h1 := leVal_lt ((l.take (k + 1)).drop (i + 1))
        have h2 : ((l.take (k + 1)).drop (i + 1)).length ≤ 7 := by simp; omega
        have h3 : 128 ^ ((l.take (k + 1)).drop (i + 1)).length ≤ 128 ^ 7 := Nat.pow_le_pow_right (by decide) h2
        rw [HM.out]; omega
      generalize l[i] = x at *
      have hx : (x.toNat : Int) < 256 := by have := x.toNat_lt; omega
      have e1 : Hid (((i + 1 : Nat) : Int) - 1 = (i : Int)) := Lib.hid (by omega)
      rw [e1.out]
      clear h4
      go_wp2
      go_round
      case rel => exact ⟨i, x.toNat % 128 + 128 * m, by omega, by go_num, int_eq (by omega), Lib.hid (by rw [HV.out, HM.out])⟩
      case measure => simp [intOf]
    · obtain rfl : j = 0 := by omega
      rw [show (((0 : Nat) : Int) - 1) = -1 from rfl]
      have HM' : Hid (m = leVal (l.take (k + 1))) := Lib.hid (by simpa using HM.out)
      have hm : m < 72057594037927936 := by
        have h1 := leVal_lt (l.take (k + 1))
        have h2 : (l.take (k + 1)).length ≤ 8 := by simp; omega
        have h3 : 128 ^ (l.take (k + 1)).length ≤ 128 ^ 8 := Nat.pow_le_pow_right (by decide) h2
        rw [HM'.out]; omega
      have hck := h4 k gl
      have hkk : Hid (l[k]? = some l[k]) := Lib.hid (by simp [gl])
      generalize l[k] = x at *
      have hx : (x.toNat : Int) < 256 := by have := x.toNat_lt; omega
      clear h4 HM
      by_cases hbd : rdBad l
      · have hn : Hid (numSt l 0 = (0, l, 11)) := Lib.hid (by rw [numSt, hnum.out, if_pos hbd]; rfl)
        have hft : Hid (failSt 11 l 0 = (l, 11)) := Lib.hid rfl
        have hbd' := Lib.hid (hbad.out.1 hbd)
        clear hbd
        by_cases hz : 0 < k ∧ x = 0
        · obtain ⟨hk0, rfl⟩ := hz
          go_wp2_with (go_at_call 88; refine Calls.mono (nFail_any hO 11) ?_; rw [hft.out]; rintro e1 w1 ⟨v1, rfl, h1, hg1, hsub1⟩)
          go_ret
          rw [hn.out]
          exact ⟨_, rfl, h1, hg1, hsub1⟩
        · have hm2 : 281474976710656 < m := by
            rcases hbd'.out with ⟨q1, q2⟩ | q
            · rw [hkk.out] at q2; simp at q2; exact absurd ⟨q1, q2⟩ hz
            · rw [HM'.out]; exact q
          by_cases hk0 : 0 < k
          · have hxz : ((x.toNat : Int) == 0) = false := by
              rw [beq_eq_false_iff_ne]; intro hh; exact hz ⟨hk0, by
                have : x.toNat = 0 := by omega
                exact UInt8.toNat_inj.1 (by simpa using this)⟩
            clear hz
            go_wp2_with (go_at_call 88; refine Calls.mono (nFail_any hO 11) ?_; rw [hft.out]; rintro e1 w1 ⟨v1, rfl, h1, hg1, hsub1⟩)
            go_ret
            rw [hn.out]
            exact ⟨_, rfl, h1, hg1, hsub1⟩
          · clear hz
            go_wp2_with (go_at_call 88; refine Calls.mono (nFail_any hO 11) ?_; rw [hft.out]; rintro e1 w1 ⟨v1, rfl, h1, hg1, hsub1⟩)
            go_ret
            rw [hn.out]
            exact ⟨_, rfl, h1, hg1, hsub1⟩
      · have hn : Hid (numSt l 0 = ((m : Int), l.drop (k + 1), 0)) := Lib.hid (by rw [numSt, hnum.out, if_neg hbd, HM'.out]; rfl)
        have hbd' := Lib.hid (fun h => hbd (hbad.out.2 h))
        have hm2 : m ≤ 281474976710656 := by
          rcases Nat.lt_or_ge 281474976710656 m with h | h
          · exact absurd (.inr (by rw [← HM'.out]; exact h)) hbd'.out
          · exact h
        obtain ⟨a', c', hsl, hs', hsub⟩ := Sl.from tiB hO.bs (k + 1) (by omega) .i64
        have e2 : (((k + 1 : Nat)) : Int) = (k : Int) + 1 := by omega
        rw [e2] at hsl
        clear e2 hbd
        by_cases hk0 : 0 < k
        · have hxz : ((x.toNat : Int) == 0) = false := by
            rw [beq_eq_false_iff_ne]; intro hh; refine hbd'.out (.inl ⟨hk0, ?_⟩)
            have h0 : x.toNat = 0 := by omega
            have : x = 0 := UInt8.toNat_inj.1 (by simpa using h0)
            rw [hkk.out, this]
          go_wp2
          go_ret
          rw [hn.out]
          exact ⟨_, rfl, hO.setB hs', grownBy_setCell _ _ _, hsub⟩
        · go_wp2
          go_ret
          rw [hn.out]
          exact ⟨_, rfl, hO.setB hs', grownBy_setCell _ _ _, hsub⟩
end Go.Proofs.Ytjohkaonokghbaa
