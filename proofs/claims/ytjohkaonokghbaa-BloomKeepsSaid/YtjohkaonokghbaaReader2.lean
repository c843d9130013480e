/- The reader of numbers and texts (varint.Reader): the calls that others use. -/
import Derived.Test.YtjohkaonokghbaaReader
namespace Go.Proofs.Ytjohkaonokghbaa
open Go.RowKit

set_option maxHeartbeats 400000 in
theorem rAt_any (w : World) (B : Nat) : Calls Try.prog 71 #[.pointer (some ⟨B, 0, none⟩)] w (RetW w (.pointer (some ⟨B, 0, none⟩))) := by
  go_enter Try.func71, Try.ntmps71
  go_wp2
  go_ret
  exact ⟨rfl, rfl⟩
set_option maxHeartbeats 400000 in
theorem rAt_nil (w : World) : Calls Try.prog 71 #[.pointer none] w (RetW w (.pointer none)) := by
  go_enter Try.func71, Try.ntmps71
  go_wp2
  go_ret
  exact ⟨rfl, rfl⟩

section
variable {w : World} {B : Nat} {v : Value} {l : List UInt8} {e : Int}
set_option maxHeartbeats 400000 in
theorem rErr_any (h : RdAt w B v l e) : Calls Try.prog 28 #[.pointer (some ⟨B, 0, none⟩)] w (RetW w (.int .i64 e)) := by
  go_enter Try.func28, Try.ntmps28
  go_wp2_with fail
  refine (rAt_any _ _).mono ?_
  rintro e1 w1 ⟨rfl, rfl⟩
  go_wp2_with fail
  refine (nErr_any h).mono ?_
  rintro e1 w1 ⟨rfl, rfl⟩
  go_wp2
  go_ret
  exact ⟨rfl, rfl⟩
set_option maxHeartbeats 400000 in
theorem rErr_nil (w : World) : Calls Try.prog 28 #[.pointer none] w (RetW w (.int .i64 1)) := by
  go_enter Try.func28, Try.ntmps28
  go_wp2_with fail
  refine (rAt_nil _).mono ?_
  rintro e1 w1 ⟨rfl, rfl⟩
  go_wp2_with fail
  refine (nErr_nil _).mono ?_
  rintro e1 w1 ⟨rfl, rfl⟩
  go_wp2
  go_ret
  exact ⟨rfl, rfl⟩
set_option maxHeartbeats 400000 in
theorem rLeft_any (h : RdAt w B v l e) : Calls Try.prog 27 #[.pointer (some ⟨B, 0, none⟩)] w (RetW w (.int .i64 l.length)) := by
  go_enter Try.func27, Try.ntmps27
  go_wp2_with fail
  refine (rAt_any _ _).mono ?_
  rintro e1 w1 ⟨rfl, rfl⟩
  go_wp2_with fail
  refine (nLeft_any h).mono ?_
  rintro e1 w1 ⟨rfl, rfl⟩
  go_wp2
  go_ret
  exact ⟨rfl, rfl⟩
set_option maxHeartbeats 400000 in
theorem rLeft_nil (w : World) : Calls Try.prog 27 #[.pointer none] w (RetW w (.int .i64 0)) := by
  go_enter Try.func27, Try.ntmps27
  go_wp2_with fail
  refine (rAt_nil _).mono ?_
  rintro e1 w1 ⟨rfl, rfl⟩
  go_wp2_with fail
  refine (nLeft_nil _).mono ?_
  rintro e1 w1 ⟨rfl, rfl⟩
  go_wp2
  go_ret
  exact ⟨rfl, rfl⟩
set_option maxHeartbeats 400000 in
theorem rFail_any (h : RdAt w B v l e) (x : Int) : Calls Try.prog 62 #[.pointer (some ⟨B, 0, none⟩), .int .i64 x] w (RetRd w B v l (.tuple #[]) (failSt x l e).1 (failSt x l e).2) := by
  go_enter Try.func62, Try.ntmps62
  go_wp2_with fail
  refine (rAt_any _ _).mono ?_
  rintro e1 w1 ⟨rfl, rfl⟩
  go_wp2_with fail
  refine (nFail_any h x).mono ?_
  rintro e1 w1 ⟨v1, rfl, h1, hg, hsub⟩
  go_wp2
  go_end0
  exact ⟨_, rfl, h1, hg, hsub⟩
set_option maxHeartbeats 400000 in
theorem rFail_nil (w : World) (x : Int) : Calls Try.prog 62 #[.pointer none, .int .i64 x] w (RetW w (.tuple #[])) := by
  go_enter Try.func62, Try.ntmps62
  go_wp2_with fail
  refine (rAt_nil _).mono ?_
  rintro e1 w1 ⟨rfl, rfl⟩
  go_wp2_with fail
  refine (nFail_nil _ x).mono ?_
  rintro e1 w1 ⟨rfl, rfl⟩
  go_wp2
  go_end0
  exact ⟨rfl, rfl⟩
set_option maxHeartbeats 400000 in
theorem rNumber_any (h : RdAt w B v l e) : Calls Try.prog 29 #[.pointer (some ⟨B, 0, none⟩)] w (RetRd w B v l (.int .i64 (numSt l e).1) (numSt l e).2.1 (numSt l e).2.2) := by
  go_enter Try.func29, Try.ntmps29
  go_wp2_with fail
  refine (rAt_any _ _).mono ?_
  rintro e1 w1 ⟨rfl, rfl⟩
  go_wp2_with fail
  refine (nNumber_any h).mono ?_
  rintro e1 w1 ⟨v1, rfl, h1, hg, hsub⟩
  go_wp2
  go_ret
  exact ⟨_, rfl, h1, hg, hsub⟩
set_option maxHeartbeats 400000 in
theorem nNumber_nil (w : World) : Calls Try.prog 74 #[.pointer none] w (RetW w (.int .i64 0)) := by
  go_enter Try.func74, Try.ntmps74
  go_wp2_with fail
  refine (nErr_nil _).mono ?_
  rintro e1 w1 ⟨rfl, rfl⟩
  go_wp2
  go_ret
  exact ⟨rfl, rfl⟩
set_option maxHeartbeats 400000 in
theorem rNumber_nil (w : World) : Calls Try.prog 29 #[.pointer none] w (RetW w (.int .i64 0)) := by
  go_enter Try.func29, Try.ntmps29
  go_wp2_with fail
  refine (rAt_nil _).mono ?_
  rintro e1 w1 ⟨rfl, rfl⟩
  go_wp2_with fail
  refine (nNumber_nil _).mono ?_
  rintro e1 w1 ⟨rfl, rfl⟩
  go_wp2
  go_ret
  exact ⟨rfl, rfl⟩
set_option maxHeartbeats 400000 in
theorem rKeep_any (h : RdAt w B v l e) : Calls Try.prog 86 #[.pointer (some ⟨B, 0, none⟩)] w (RetW w v) := by
  obtain ⟨c0, c1, f0, f1⟩ := h.cells
  obtain ⟨a, c, rfl⟩ := h.slice
  go_enter Try.func86, Try.ntmps86
  go_wp2
  go_ret
  exact ⟨rfl, rfl⟩
set_option maxHeartbeats 400000 in
theorem rKeep_nil (w : World) : Calls Try.prog 86 #[.pointer none] w (RetW w (.slice none 0 0)) := by
  go_enter Try.func86, Try.ntmps86
  go_wp2
  go_ret
  exact ⟨rfl, rfl⟩

theorem Bs.keep {w w' : World} {B : Nat} {v : Value} {l : List UInt8} {vs : Array Value} {T : TypeId} (h : Bs w v l) (ho : ObjAt w B T vs) (hv : ∀ y ∈ vs, ∀ n, y ≠ .int .u8 n) (hg : w.grownBy w' (some B)) : Bs w' v l :=
  Sl.grown h hg (ho.noB hv)
theorem RdAt.keep {w w' : World} {B : Nat} {v v2 : Value} {l l2 : List UInt8} {e : Int} (h : RdAt w B v l e) (hs : Bs w v2 l2) (hg : w.grownBy w' (some B)) : Bs w' v2 l2 := by
  obtain ⟨a, c, rfl⟩ := h.slice
  exact Bs.keep hs h.obj (by simp) hg

set_option maxRecDepth 10000 in
set_option maxHeartbeats 800000 in
theorem rWithin_any (h : RdAt w B v l e) (lo hi : Int) :
    Calls Try.prog 58 #[.pointer (some ⟨B, 0, none⟩), .int .i64 lo, .int .i64 hi] w (RetRd w B v l (.int .i64 (withinSt lo hi l e).1) (withinSt lo hi l e).2.1 (withinSt lo hi l e).2.2) := by
  by_cases hb : (numSt l e).2.2 = 0 ∧ ((numSt l e).1 < lo ∨ hi < (numSt l e).1)
  · have hf : Hid (withinSt lo hi l e = (0, l, 11)) := Lib.hid (if_pos hb)
    obtain ⟨he, hlh⟩ := hb
    have HE := Lib.hid he
    have hft : Hid (failSt 11 l 0 = (l, 11)) := Lib.hid rfl
    clear he
    go_enter Try.func58, Try.ntmps58
    go_wp2_with fail
    refine (rKeep_any h).mono ?_
    rintro e1 w1 ⟨rfl, rfl⟩
    go_wp2_with fail
    refine (rNumber_any h).mono ?_
    rw [HE.out]
    generalize (numSt l e).1 = n at *
    generalize (numSt l e).2.1 = l' at *
    rintro e1 w1 ⟨v1, rfl, h1, hg, hsub⟩
    have hk := h.keep h.bs hg
    have h2 := h1.setB hk
    obtain ⟨c0, c1, f0, f1⟩ := h1.cells
    obtain ⟨a, c, rfl⟩ := h.slice
    go_wp2_with fail
    refine (rErr_any h1).mono ?_
    rintro e1 w2 ⟨rfl, rfl⟩
    rcases hlh with hlo | hhi
    · go_wp2_with fail
      refine (rFail_any h2 11).mono ?_
      rw [hft.out]
      rintro e1 w2 ⟨v2, rfl, h3, hg3, hsub3⟩
      go_wp2
      go_ret
      rw [hf.out]
      exact ⟨_, rfl, h3, grownBy_trans hg (grownBy_trans (grownBy_setCell _ ⟨B, 0, none⟩ _) hg3), hsub3⟩
    · by_cases hlo : n < lo
      · go_wp2_with fail
        refine (rFail_any h2 11).mono ?_
        rw [hft.out]
        rintro e1 w2 ⟨v2, rfl, h3, hg3, hsub3⟩
        go_wp2
        go_ret
        rw [hf.out]
        exact ⟨_, rfl, h3, grownBy_trans hg (grownBy_trans (grownBy_setCell _ ⟨B, 0, none⟩ _) hg3), hsub3⟩
      · go_wp2_with fail
        refine (rFail_any h2 11).mono ?_
        rw [hft.out]
        rintro e1 w2 ⟨v2, rfl, h3, hg3, hsub3⟩
        go_wp2
        go_ret
        rw [hf.out]
        exact ⟨_, rfl, h3, grownBy_trans hg (grownBy_trans (grownBy_setCell _ ⟨B, 0, none⟩ _) hg3), hsub3⟩
  · have hf : Hid (withinSt lo hi l e = numSt l e) := Lib.hid (if_neg hb)
    rw [hf.out]
    generalize hns : numSt l e = st at *
    have HNS := Lib.hid hns
    obtain ⟨n, l', e'⟩ := st
    clear hns
    go_enter Try.func58, Try.ntmps58
    go_wp2_with fail
    refine (rKeep_any h).mono ?_
    rintro e1 w1 ⟨rfl, rfl⟩
    go_wp2_with fail
    refine (rNumber_any h).mono ?_
    rw [HNS.out]
    rintro e1 w1 ⟨v1, rfl, h1, hg, hsub⟩
    go_wp2_with fail
    refine (rErr_any h1).mono ?_
    rintro e1 w2 ⟨rfl, rfl⟩
    by_cases he : e' = 0
    · subst he
      have hlo : ¬ n < lo := fun hh => hb ⟨rfl, .inl hh⟩
      have hhi : ¬ hi < n := fun hh => hb ⟨rfl, .inr hh⟩
      clear hb
      go_wp2
      go_ret
      exact ⟨_, rfl, h1, hg, hsub⟩
    · have hbe : (e' == 0) = false := by simp [he]
      clear he hb
      go_wp2
      go_ret
      exact ⟨_, rfl, h1, hg, hsub⟩
set_option maxHeartbeats 400000 in
theorem rWithin_nil (w : World) (lo hi : Int) : Calls Try.prog 58 #[.pointer none, .int .i64 lo, .int .i64 hi] w (RetW w (.int .i64 0)) := by
  go_enter Try.func58, Try.ntmps58
  go_wp2_with fail
  refine (rKeep_nil _).mono ?_
  rintro e1 w1 ⟨rfl, rfl⟩
  go_wp2_with fail
  refine (rNumber_nil _).mono ?_
  rintro e1 w1 ⟨rfl, rfl⟩
  go_wp2_with fail
  refine (rErr_nil _).mono ?_
  rintro e1 w2 ⟨rfl, rfl⟩
  go_wp2
  go_ret
  exact ⟨rfl, rfl⟩

theorem numSt_nn (l : List UInt8) (e : Int) : 0 ≤ (numSt l e).1 := by
  unfold numSt; split
  · simp
  · split <;> simp
theorem withinSt_nn (lo hi : Int) (l : List UInt8) (e : Int) : 0 ≤ (withinSt lo hi l e).1 := by
  unfold withinSt; split
  · simp
  · exact numSt_nn l e

set_option maxRecDepth 10000 in
set_option maxHeartbeats 800000 in
theorem rText_any (h : RdAt w B v l e) (most : Int) :
    Calls Try.prog 55 #[.pointer (some ⟨B, 0, none⟩), .int .i64 most] w (RetRd w B v l (.string ⟨(textSt most l e).1.toArray⟩) (textSt most l e).2.1 (textSt most l e).2.2) := by
  have htx : Hid (textSt most l e = if (withinSt 0 most l e).2.2 ≠ 0 then ([], (withinSt 0 most l e).2)
    else if (withinSt 0 most l e).2.1.length < (withinSt 0 most l e).1 then ([], l, 10)
    else ((withinSt 0 most l e).2.1.take (withinSt 0 most l e).1.toNat, (withinSt 0 most l e).2.1.drop (withinSt 0 most l e).1.toNat, 0)) := Lib.hid rfl
  have hnn := withinSt_nn 0 most l e
  generalize hns : withinSt 0 most l e = st at *
  have HNS := Lib.hid hns
  obtain ⟨n, l', e'⟩ := st
  replace hnn : 0 ≤ n := hnn
  obtain ⟨m, rfl⟩ := Int.eq_ofNat_of_zero_le hnn
  have hsl0 := h.slice
  clear hns hnn
  by_cases he : e' = 0
  case neg =>
    have hf : Hid (textSt most l e = ([], l', e')) := Lib.hid (by rw [htx.out, if_pos he])
    have hbe : (e' == 0) = false := by simp [he]
    clear he htx
    go_enter Try.func55, Try.ntmps55
    go_wp2_with fail
    refine (rKeep_any h).mono ?_
    rintro e1 w1 ⟨rfl, rfl⟩
    go_wp2_with fail
    refine (rWithin_any h 0 most).mono ?_
    rw [HNS.out]
    rintro e1 w1 ⟨v1, rfl, h1, hg, hsub⟩
    go_wp2_with fail
    refine (rErr_any h1).mono ?_
    rintro e1 w2 ⟨rfl, rfl⟩
    go_wp2
    go_ret
    rw [hf.out]
    exact ⟨_, rfl, h1, hg, hsub⟩
  subst he
  by_cases hbig : (l'.length : Int) < (m : Int)
  · have hf : Hid (textSt most l e = ([], l, 10)) := Lib.hid (by rw [htx.out]; simp only [ne_eq, not_true_eq_false, if_false]; rw [if_pos hbig])
    have hft : Hid (failSt 10 l 0 = (l, 10)) := Lib.hid rfl
    clear htx
    go_enter Try.func55, Try.ntmps55
    go_wp2_with fail
    refine (rKeep_any h).mono ?_
    rintro e1 w1 ⟨rfl, rfl⟩
    go_wp2_with fail
    refine (rWithin_any h 0 most).mono ?_
    rw [HNS.out]
    rintro e1 w1 ⟨v1, rfl, h1, hg, hsub⟩
    have hk := h.keep h.bs hg
    have h2 := h1.setB hk
    obtain ⟨c0, c1, f0, f1⟩ := h1.cells
    obtain ⟨a, c, rfl⟩ := hsl0
    go_wp2_with fail
    refine (rErr_any h1).mono ?_
    rintro e1 w2 ⟨rfl, rfl⟩
    go_wp2_with fail
    refine (rLeft_any h1).mono ?_
    rintro e1 w2 ⟨rfl, rfl⟩
    go_wp2_with fail
    refine (rFail_any h2 10).mono ?_
    rw [hft.out]
    rintro e1 w2 ⟨v2, rfl, h3, hg3, hsub3⟩
    go_wp2
    go_ret
    rw [hf.out]
    exact ⟨_, rfl, h3, grownBy_trans hg (grownBy_trans (grownBy_setCell _ ⟨B, 0, none⟩ _) hg3), hsub3⟩
  · have hf : Hid (textSt most l e = (l'.take m, l'.drop m, 0)) := Lib.hid (by rw [htx.out]; simp only [ne_eq, not_true_eq_false, if_false]; rw [if_neg hbig]; simp)
    have hm : m ≤ l'.length := by omega
    clear htx
    go_enter Try.func55, Try.ntmps55
    go_wp2_with fail
    refine (rKeep_any h).mono ?_
    rintro e1 w1 ⟨rfl, rfl⟩
    go_wp2_with fail
    refine (rWithin_any h 0 most).mono ?_
    rw [HNS.out]
    rintro e1 w1 ⟨v1, rfl, h1, hg, hsub⟩
    obtain ⟨c0, c1, f0, f1⟩ := h1.cells
    obtain ⟨a1, c1', hto, hs1, _⟩ := Sl.to tiB h1.bs m hm .i64
    obtain ⟨a2, c2', hfrom, hs2, hsub2⟩ := Sl.from tiB h1.bs m hm .i64
    have hcv := Bs.toStr Try.underlying25 Try.underlying5 Try.underlying9 hs1
    have h2 := h1.setB hs2
    obtain ⟨a, c, rfl⟩ := h1.slice
    go_wp2_with fail
    refine (rErr_any h1).mono ?_
    rintro e1 w2 ⟨rfl, rfl⟩
    go_wp2_with fail
    refine (rLeft_any h1).mono ?_
    rintro e1 w2 ⟨rfl, rfl⟩
    go_wp2
    go_ret
    rw [hf.out]
    exact ⟨_, rfl, h2, grownBy_trans hg (grownBy_setCell _ ⟨B, 0, none⟩ _), fun w0 h0 => hsub2 w0 (hsub w0 h0)⟩
set_option maxHeartbeats 400000 in
theorem rText_nil (w : World) (most : Int) : Calls Try.prog 55 #[.pointer none, .int .i64 most] w (RetW w (.string ⟨#[]⟩)) := by
  go_enter Try.func55, Try.ntmps55
  go_wp2_with fail
  refine (rKeep_nil _).mono ?_
  rintro e1 w1 ⟨rfl, rfl⟩
  go_wp2_with fail
  refine (rWithin_nil _ 0 most).mono ?_
  rintro e1 w1 ⟨rfl, rfl⟩
  go_wp2_with fail
  refine (rErr_nil _).mono ?_
  rintro e1 w2 ⟨rfl, rfl⟩
  go_wp2
  go_ret
  exact ⟨rfl, rfl⟩
set_option maxHeartbeats 400000 in
theorem rBool_any (h : RdAt w B v l e) : Calls Try.prog 60 #[.pointer (some ⟨B, 0, none⟩)] w (RetRd w B v l (.bool ((withinSt 0 1 l e).1 == 1)) (withinSt 0 1 l e).2.1 (withinSt 0 1 l e).2.2) := by
  go_enter Try.func60, Try.ntmps60
  go_wp2_with fail
  refine (rWithin_any h 0 1).mono ?_
  rintro e1 w1 ⟨v1, rfl, h1, hg, hsub⟩
  go_wp2
  go_ret
  exact ⟨_, rfl, h1, hg, hsub⟩
set_option maxHeartbeats 400000 in
theorem rBool_nil (w : World) : Calls Try.prog 60 #[.pointer none] w (RetW w (.bool false)) := by
  go_enter Try.func60, Try.ntmps60
  go_wp2_with fail
  refine (rWithin_nil _ 0 1).mono ?_
  rintro e1 w1 ⟨rfl, rfl⟩
  go_wp2
  go_ret
  first | exact ⟨rfl, rfl⟩ | exact ⟨trivial, rfl⟩
set_option maxHeartbeats 400000 in
theorem rEnd_any (h : RdAt w B v l e) : Calls Try.prog 56 #[.pointer (some ⟨B, 0, none⟩)] w (RetW w (.int .i64 (endSt l e))) := by
  have hf : Hid (endSt l e = if e = 0 ∧ 0 < l.length then 14 else e) := Lib.hid rfl
  by_cases he : e = 0
  · subst he
    by_cases hl : 0 < l.length
    · have hf1 : Hid (endSt l 0 = 14) := Lib.hid (if_pos ⟨rfl, hl⟩)
      clear hf
      go_enter Try.func56, Try.ntmps56
      go_wp2_with fail
      refine (rErr_any h).mono ?_
      rintro e1 w2 ⟨rfl, rfl⟩
      go_wp2_with fail
      refine (rLeft_any h).mono ?_
      rintro e1 w2 ⟨rfl, rfl⟩
      go_wp2
      go_ret
      rw [hf1.out]
      exact ⟨rfl, rfl⟩
    · have hf1 : Hid (endSt l 0 = 0) := Lib.hid (if_neg (fun h => hl h.2))
      clear hf
      go_enter Try.func56, Try.ntmps56
      go_wp2_with fail
      refine (rErr_any h).mono ?_
      rintro e1 w2 ⟨rfl, rfl⟩
      go_wp2_with fail
      refine (rLeft_any h).mono ?_
      rintro e1 w2 ⟨rfl, rfl⟩
      go_wp2_with fail
      refine (rErr_any h).mono ?_
      rintro e1 w2 ⟨rfl, rfl⟩
      go_wp2
      go_ret
      rw [hf1.out]
      exact ⟨rfl, rfl⟩
  · have hbe : (e == 0) = false := by simp [he]
    have HE := Lib.hid he
    clear he
    go_enter Try.func56, Try.ntmps56
    go_wp2_with fail
    refine (rErr_any h).mono ?_
    rintro e1 w2 ⟨rfl, rfl⟩
    go_wp2_with fail
    refine (rErr_any h).mono ?_
    rintro e1 w2 ⟨rfl, rfl⟩
    go_wp2
    go_ret
    rw [hf.out, if_neg (by have := HE.out; omega)]
    exact ⟨rfl, rfl⟩
set_option maxHeartbeats 400000 in
theorem rEnd_nil (w : World) : Calls Try.prog 56 #[.pointer none] w (RetW w (.int .i64 1)) := by
  go_enter Try.func56, Try.ntmps56
  go_wp2_with fail
  refine (rErr_nil _).mono ?_
  rintro e1 w2 ⟨rfl, rfl⟩
  go_wp2_with fail
  refine (rErr_nil _).mono ?_
  rintro e1 w2 ⟨rfl, rfl⟩
  go_wp2
  go_ret
  exact ⟨rfl, rfl⟩
end

/-- a new reader -/
def RetNew (w : World) (l : List UInt8) (en : Ending) (w' : World) : Prop :=
  ∃ B v, en = .returned (.pointer (some ⟨B, 0, none⟩)) ∧ w.heap.size ≤ B ∧ RdAt w' B v l 0 ∧ Ext w w'
set_option maxRecDepth 10000 in
set_option maxHeartbeats 800000 in
theorem rNew_any (v : Value) (l : List UInt8) (w : World) (hv : Bs w v l) (hl : l.length ≤ 70368744177664) :
    Calls Try.prog 26 #[v] w (RetNew w l) := by
  go_enter Try.func26, Try.ntmps26
  go_wp2_with (at_builtin; refine wpList_app rfl _ _ 25 rfl tiB encB_ok w [] l _ _ rfl rfl (Own.empty (Ext.refl _)) (hv.ext ((Ext.refl _).alloc _)) ?_ ?_ ?_)
  · (first | omega | (simp; omega) | (unfold maxLen; omega) | (unfold maxLen; simp; omega))
  · (first | omega | (simp; omega) | (unfold maxLen; omega) | (unfold maxLen; simp; omega))
  · intro v1 w1 r HR hown _ _
    have HR' : Hid (r = l) := Lib.hid (by simpa using HR.out)
    rw [HR'.out] at hown
    have hs := hown.sl encB_ok
    have hx := hown.ext
    obtain ⟨a, c, b, o, rfl, _⟩ := Bs.open hs
    clear hown HR
    go_wp2
    go_ret
    exact ⟨_, _, rfl, hx.size, ⟨heap_alloc_new _ _, hs.ext ((Ext.refl _).alloc _)⟩, hx.alloc _⟩
end Go.Proofs.Ytjohkaonokghbaa
