/- Texts joined: VarintRef Var It. -/
import Derived.Test.YtoiaegbmbhgdpaaGreatJ10
import Derived.Test.YtoiaegbmbhgdpaaGreatJ01
namespace Go.Proofs.YtoiaegbmbhgdpaaGreat
open Go.RowKit

def textB (s : ByteArray) : List UInt8 := numB s.size ++ s.data.toList

set_option maxRecDepth 10000 in
set_option maxHeartbeats 800000 in
theorem refBytes_any (k : Nat) : ∀ (n : Nat) (w : World), n ≤ k → n ≤ 9223372036854775807 →
    Calls Tryz.prog 54 #[.int .i64 n] w (RetOwn 5 1 encB w (numB n)) := by
  induction k with
  | zero =>
    intro n w hk hn
    obtain rfl : n = 0 := by omega
    go_enter Tryz.func54, Tryz.ntmps54
    go_wp2_with fail
    go_ret
    exact ⟨_, rfl, by rw [numB_lt (by decide)]; exact Own.lit encB_ok.len (Ext.refl _) _ _ (by simpa using byteLow 0 (by decide)) _ rfl (by simp [maxLen])⟩
  | succ k ih =>
    intro n w hk hn
    by_cases hlt : n < 128
    · go_enter Tryz.func54, Tryz.ntmps54
      go_wp2_with fail
      go_ret
      exact ⟨_, rfl, by rw [numB_lt hlt]; exact Own.lit encB_ok.len (Ext.refl _) _ _ (by simpa using byteLow n hlt) _ rfl (by simp [maxLen])⟩
    · have hg : 128 ≤ n := by omega
      have HI := Lib.hid (fun w => ih (n / 128) w (by omega) (by omega))
      have hlen9 := numB_len9 (n / 128) (by omega)
      clear ih
      go_enter Tryz.func54, Tryz.ntmps54
      go_wp2_with fail
      have e1 : ((n : Int) / 128) = ((n / 128 : Nat) : Int) := by omega
      rw [e1]
      clear e1
      refine (HI.out _).mono ?_
      rintro e w2 ⟨v2, rfl, hown2⟩
      have hown : Own 5 1 encB w w2 (.slice (some ⟨w.heap.size, 0, none⟩) 1 1) [UInt8.ofNat (128 + n % 128)] :=
        (Own.lit encB_ok.len (Ext.refl w) _ _ (by simp only [List.flatMap_cons, List.flatMap_nil, List.append_nil]; rw [byteHigh, Int.add_comm]) _ rfl (by simp [maxLen])).extend hown2.ext
      have hs2 := hown2.sl encB_ok
      clear hown2 HI
      go_wp2_with (at_builtin; refine wpList_app rfl _ _ 24 rfl tiB encB_ok w _ (numB (n / 128)) _ _ rfl rfl hown hs2 ?_ ?_ ?_)
      · (first | omega | (simp; omega) | (unfold maxLen; omega) | (unfold maxLen; simp; omega))
      · (first | omega | (simp; omega) | (unfold maxLen; omega) | (unfold maxLen; simp; omega))
      · intro v3 w3 r HR hown3 _ _
        have HR' : Hid (r = numB n) := Lib.hid (by rw [numB_ge hlt]; simpa using HR.out)
        go_wp2
        go_ret
        exact ⟨_, rfl, by rw [← HR'.out]; exact hown3⟩

set_option maxRecDepth 10000 in
set_option maxHeartbeats 800000 in
theorem refPut_any (vl : Value) (ns : List Int) (w : World) (hl : Sl 1 encI w vl ns) (hb : ns.length ≤ 7036874417766)
    (hok : ∀ n ∈ ns, okNum n) : Calls Tryz.prog 88 #[vl] w (RetOwn 5 1 encB w (ns.flatMap numI)) := by
  obtain ⟨a, c, b, o, rfl, h1, h2, h3, h4⟩ := hl.openI
  clear h1 h2 hl
  go_enter Tryz.func88, Tryz.ntmps88
  go_wp2
  go_loopw [3, 4] (fun v i wr => ∃ k : Nat, k ≤ ns.length ∧ i = .int .i64 k ∧ Own 5 1 encB w wr v ((ns.take k).flatMap numI)) (fun _ i _ => ns.length - (intOf i).toNat)
  case atStart => exact ⟨0, Nat.zero_le _, rfl, Own.nil (Ext.refl _)⟩
  case round =>
    obtain ⟨j, hj, rfl, hown⟩ := hrel
    by_cases hjt : j < ns.length
    · obtain rfl := h3 (by omega)
      have hc := hown.ext.cell (h4 j hjt)
      obtain ⟨g1, g2⟩ := hok ns[j] (by simp)
      have hs := Lib.hid (take_snoc ns j hjt)
      have hlen := nums_len (ns.take j) (fun n hn => hok n (List.mem_of_mem_take hn))
      have hlj : (ns.take j).length ≤ j := List.length_take_le _ _
      have hl9 := numI_len ns[j] (by omega)
      generalize hx : ns[j] = x at *
      have HX := Lib.hid hx
      obtain ⟨m, rfl⟩ := Int.eq_ofNat_of_zero_le g1
      clear h3 h4 hx
      go_wp2_with fail
      refine (refBytes_any _ _ _ (Nat.le_refl _) (by omega)).mono ?_
      rintro e w2 ⟨v2, rfl, hown2⟩
      have hown1 := hown.extend hown2.ext
      have hs2 := hown2.sl encB_ok
      clear hown hown2 hc
      generalize hL : (ns.take j).flatMap numI = L at *
      have HL := Lib.hid hL
      clear hL
      have hl9' : (numB m).length ≤ 9 := hl9
      clear hl9
      go_wp2_with (at_builtin; refine wpList_app rfl _ _ 24 rfl tiB encB_ok w _ _ _ _ rfl rfl hown1 hs2 ?_ ?_ ?_)
      · (first | omega | (simp; omega) | (unfold maxLen; omega) | (unfold maxLen; simp; omega))
      · (first | omega | (simp; omega) | (unfold maxLen; omega) | (unfold maxLen; simp; omega))
      · intro v3 w3 r HR hown3 _ _
        clear hown1
        go_wp2
        go_roundw
        case rel => exact ⟨j + 1, by omega, by go_num, by rw [hs.out, List.flatMap_append, HL.out, show L ++ List.flatMap numI [(m : Int)] = r by simp [HR.out, numI]]; exact hown3⟩
        case measure => simp [intOf]; omega
    · have HT := Lib.hid (show ns.take j = ns from List.take_of_length_le (by omega))
      go_wp2
      go_ret
      rw [HT.out] at hown
      exact ⟨_, rfl, hown⟩

set_option maxRecDepth 10000 in
set_option maxHeartbeats 800000 in
theorem refText_any (s : ByteArray) (w : World) (hb : s.size ≤ 70368744177664) : Calls Tryz.prog 99 #[.string s] w (RetOwn 5 1 encB w (textB s)) := by
  have hlen9 := numB_len9 s.size (by omega)
  go_enter Tryz.func99, Tryz.ntmps99
  go_wp2_with fail
  refine (refBytes_any _ _ _ (Nat.le_refl _) (by omega)).mono ?_
  rintro e w1 ⟨v1, rfl, hown1⟩
  go_wp2
  go_loopw [3, 4] (fun v i wr => ∃ k : Nat, k ≤ s.size ∧ i = .int .i64 k ∧ Own 5 1 encB w wr v (numB s.size ++ s.data.toList.take k)) (fun _ i _ => s.size - (intOf i).toNat)
  case atStart => exact ⟨0, Nat.zero_le _, rfl, by simpa using hown1⟩
  case round =>
    obtain ⟨j, hj, rfl, hown⟩ := hrel
    by_cases hjt : j < s.size
    · have hs := Lib.hid (str_snoc s j hjt)
      have hlj : (s.data.toList.take j).length ≤ j := List.length_take_le _ _
      have hL : (numB s.size ++ s.data.toList.take j).length ≤ 9 + j := by rw [List.length_append]; omega
      generalize hx : numB s.size ++ s.data.toList.take j = L at *
      have HX := Lib.hid hx
      clear hx hlj hown1
      go_wp2_with (at_builtin; refine wpList_app rfl _ _ 24 rfl tiB encB_ok w _ [s[j]] _ _ rfl rfl (hown.alloc _) (Sl.new1 (enc := encB) encB_ok.len _ _ _ _ rfl) ?_ ?_ ?_)
      · (first | omega | (simp; omega) | (unfold maxLen; omega) | (unfold maxLen; simp; omega))
      · (first | omega | (simp; omega) | (unfold maxLen; omega) | (unfold maxLen; simp; omega))
      · intro v3 w3 r HR hown3 _ _
        clear hown
        go_wp2
        go_roundw
        case rel => exact ⟨j + 1, by omega, by go_num, by rw [hs.out, ← List.append_assoc, HX.out, show L ++ [s[j]] = r by rw [HR.out]]; exact hown3⟩
        case measure => simp [intOf]; omega
    · have HT := Lib.hid (str_all s j (by omega))
      go_wp2
      go_ret
      rw [HT.out] at hown
      exact ⟨_, rfl, hown⟩

set_option maxRecDepth 10000 in
set_option maxHeartbeats 800000 in
theorem text_any (v vl : Value) (l : List UInt8) (ss : List ByteArray) (w : World) (hv : Bs w v l) (hl : Sl 1 encS w vl ss) (hb : l.length + (ss.flatMap textB).length ≤ 7036874417766) :
    Calls Tryz.prog 95 #[v, vl] w (RetOwn 5 1 encB w (l ++ ss.flatMap textB)) := by
  obtain ⟨a, c, b, o, rfl, h1, h2, h3, h4⟩ := hl.openS
  have h5 := len_le h1 h2
  clear h1 h2 hl
  go_enter Tryz.func95, Tryz.ntmps95
  go_wp2_with (at_builtin; refine wpList_app rfl _ _ 24 rfl tiB encB_ok w [] l _ _ rfl rfl (Own.empty (Ext.refl _)) (hv.ext ((Ext.refl _).alloc _)) ?_ ?_ ?_)
  · (first | omega | (simp; omega) | (unfold maxLen; omega) | (unfold maxLen; simp; omega))
  · (first | omega | (simp; omega) | (unfold maxLen; omega) | (unfold maxLen; simp; omega))
  · intro v1 w1 r HR hown _ _
    have HR' : Hid (r = l) := Lib.hid (by simpa using HR.out)
    clear HR
    go_wp2
    go_loopw [5, 13] (fun v i wr => ∃ k : Nat, k ≤ ss.length ∧ i = .int .i64 k ∧ Own 5 1 encB w wr v (l ++ (ss.take k).flatMap textB)) (fun _ i _ => ss.length - (intOf i).toNat)
    case atStart => exact ⟨0, Nat.zero_le _, rfl, by rw [← HR'.out]; simpa using hown⟩
    case round =>
      obtain ⟨j, hj, rfl, hown⟩ := hrel
      by_cases hjt : j < ss.length
      · obtain rfl := h3 (by omega)
        have hc := hown.ext.cell (h4 j hjt)
        have hs := Lib.hid (take_snoc ss j hjt)
        have hlen : (l ++ (ss.take j).flatMap textB).length + (textB ss[j]).length ≤ 7036874417766 := by
          have h : (ss.take (j + 1) ++ ss.drop (j + 1)) = ss := List.take_append_drop _ _
          rw [← h, hs.out, List.flatMap_append, List.flatMap_append] at hb
          simp at hb ⊢; omega
        have hsz : (textB ss[j]).length = (numB ss[j].size).length + ss[j].size := by simp [textB]
        generalize ss[j] = s at *
        have HS := Lib.hid hsz
        have hsz1 : (l ++ (ss.take j).flatMap textB).length + ((numB s.size).length + s.size) ≤ 7036874417766 := by omega
        clear h3 h4 hlen hsz hv hb
        generalize hx : l ++ (ss.take j).flatMap textB = L at *
        have HX := Lib.hid hx
        clear hx
        go_wp2_with fail
        refine (one_any _ _ _ w _ (by omega) (by omega) (by omega) hown).mono ?_
        rintro e w2 ⟨v2, rfl, hown2⟩
        have ht : Hid (((s.size : Int)).toNat = s.size) := Lib.hid (by omega)
        rw [ht.out] at hown2
        clear hown hc
        go_wp2_with (at_builtin; refine wpList_apps rfl _ _ 24 9 rfl tiB zB Tryz.underlying9 w _ s _ rfl rfl hown2 ?_ ?_)
        · (first | omega | (simp; omega) | (unfold maxLen; omega) | (unfold maxLen; simp; omega))
        · intro v3 w3 r HR hown3 _
          clear hown2
          go_wp2
          go_roundw
          case rel => exact ⟨j + 1, by omega, by go_num, by rw [hs.out, List.flatMap_append, ← List.append_assoc, HX.out, show L ++ List.flatMap textB [s] = r by simp [HR.out, textB]]; exact hown3⟩
          case measure => simp [intOf]; omega
      · have HT := Lib.hid (show ss.take j = ss from List.take_of_length_le (by omega))
        go_wp2
        go_ret
        rw [HT.out] at hown
        exact ⟨_, rfl, hown⟩
end Go.Proofs.YtoiaegbmbhgdpaaGreat
namespace Go.Proofs.YtoiaegbmbhgdpaaGreat
open Go.RowKit
abbrev ownB (l : List UInt8) : Ret := .own 5 1 (l.map byteP)
theorem varint_Put (l : List UInt8) (ns : List Int) (hb : l.length + 9 * ns.length ≤ 1000000000000) (hok : ∀ n ∈ ns, okNum n) :
    Fn Tryz.prog 39 [bytesB l, intsB ns] (.tup2 (ownB (l ++ ns.flatMap numI)) (.per (rawP (.int .i64 0)))) := by
  refine ⟨⟨_, Tryz.func39, by kernel_rfl, by kernel_rfl⟩, fun N0 w vs _ ha => ?_⟩
  obtain ⟨v, u, rfl, h1, h2⟩ := args2 ha
  refine Calls.mono (put_ok v u l ns w (lst_bs h1) (lst_sl h2) (by omega) hok) ?_
  rintro e w' ⟨v', rfl, h⟩
  exact ⟨_, rfl, h.ext, _, _, rfl, sl_own encB_ok h, rfl⟩
theorem varint_Text (l : List UInt8) (ss : List ByteArray) (hb : l.length + (ss.flatMap textB).length ≤ 1000000000000) :
    Fn Tryz.prog 95 [bytesB l, strsB ss] (ownB (l ++ ss.flatMap textB)) := by
  refine ⟨⟨_, Tryz.func95, by kernel_rfl, by kernel_rfl⟩, fun N0 w vs _ ha => ?_⟩
  obtain ⟨v, u, rfl, h1, h2⟩ := args2 ha
  refine Calls.mono (text_any v u l ss w (lst_bs h1) (lst_sl h2) (by omega)) ?_
  rintro e w' ⟨v', rfl, h⟩
  exact ⟨_, rfl, h.ext, sl_own encB_ok h⟩
theorem ref_Put (ns : List Int) (hb : ns.length ≤ 1000000000) (hok : ∀ n ∈ ns, okNum n) : Fn Tryz.prog 88 [intsB ns] (ownB (ns.flatMap numI)) := by
  refine ⟨⟨_, Tryz.func88, by kernel_rfl, by kernel_rfl⟩, fun N0 w vs _ ha => ?_⟩
  obtain ⟨v, rfl, h1⟩ := args1 ha
  refine Calls.mono (refPut_any v ns w (lst_sl h1) (by omega) hok) ?_
  rintro e w' ⟨v', rfl, h⟩
  exact ⟨_, rfl, h.ext, sl_own encB_ok h⟩
theorem ref_Text (s : ByteArray) (hb : s.size ≤ 70368744177664) : Fn Tryz.prog 99 [sC s] (ownB (textB s)) := by
  refine ⟨⟨_, Tryz.func99, by kernel_rfl, by kernel_rfl⟩, fun N0 w vs _ ha => ?_⟩
  obtain ⟨v, rfl, h1⟩ := args1 ha
  obtain rfl : v = .string s := h1
  refine Calls.mono (refText_any s w hb) ?_
  rintro e w' ⟨v', rfl, h⟩
  exact ⟨_, rfl, h.ext, sl_own encB_ok h⟩
end Go.Proofs.YtoiaegbmbhgdpaaGreat
namespace Go.Proofs.YtoiaegbmbhgdpaaGreat
open Go.RowKit
structure It where
  key : ByteArray
  rep : Int
  cnt : Int
  rank : Int
  prio : Int
  dead : Bool
  body : ByteArray
deriving DecidableEq
def encIt (x : It) : List Value := [.string x.key, .int .i64 x.rep, .int .i64 x.cnt, .int .i64 x.rank, .int .i64 x.prio, .bool x.dead, .string x.body]
def keyR (s : ByteArray) : Bool := decide (1 ≤ s.size ∧ s.size ≤ 16)
def verR (r c : Int) : Bool := decide (1 ≤ r ∧ r ≤ 16 ∧ 1 ≤ c ∧ c ≤ 1099511627776)
def itR (x : It) : Bool := keyR x.key && verR x.rep x.cnt && decide (1 ≤ x.rank ∧ x.rank ≤ 1099511627776 ∧ 0 ≤ x.prio ∧ x.prio ≤ 255 ∧ x.body.size ≤ 64 ∧ (x.dead = true → x.body.size = 0))
theorem encIt_ok : Enc 7 encIt := ⟨by decide, fun _ => rfl, fun x u hu => by
  simp only [encIt, List.mem_cons, List.not_mem_nil, or_false] at hu
  rcases hu with rfl | rfl | rfl | rfl | rfl | rfl | rfl <;> rfl⟩
end Go.Proofs.YtoiaegbmbhgdpaaGreat
