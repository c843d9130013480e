/- Texts joined: Var It Base Ic RefIt Cmp Rg. -/
import Derived.Test.YtbpmafpmlapekaaGreatJ08
import Derived.Test.YtbpmafpmlapekaaGreatJ11
import Derived.Test.YtbpmafpmlapekaaGreatJ01
import Derived.Test.YtbpmafpmlapekaaGreatJ05
namespace Go.Proofs.YtbpmafpmlapekaaGreat
open Go.RowKit
abbrev ownB (l : List UInt8) : Ret := .own 5 1 (l.map byteP)
theorem varint_Put (l : List UInt8) (ns : List Int) (hb : l.length + 9 * ns.length ≤ 1000000000000) (hok : ∀ n ∈ ns, okNum n) :
    Fn Tryz.prog 73 [bytesB l, intsB ns] (.tup2 (ownB (l ++ ns.flatMap numI)) (.per (rawP (.int .i64 0)))) := by
  refine ⟨⟨_, Tryz.func73, by kernel_rfl, by kernel_rfl⟩, fun N0 w vs _ ha => ?_⟩
  obtain ⟨v, u, rfl, h1, h2⟩ := args2 ha
  refine Calls.mono (put_ok v u l ns w (lst_bs h1) (lst_sl h2) (by omega) hok) ?_
  rintro e w' ⟨v', rfl, h⟩
  exact ⟨_, rfl, h.ext, _, _, rfl, sl_own encB_ok h, rfl⟩
theorem varint_Text (l : List UInt8) (ss : List ByteArray) (hb : l.length + (ss.flatMap textB).length ≤ 1000000000000) :
    Fn Tryz.prog 40 [bytesB l, strsB ss] (ownB (l ++ ss.flatMap textB)) := by
  refine ⟨⟨_, Tryz.func40, by kernel_rfl, by kernel_rfl⟩, fun N0 w vs _ ha => ?_⟩
  obtain ⟨v, u, rfl, h1, h2⟩ := args2 ha
  refine Calls.mono (text_any v u l ss w (lst_bs h1) (lst_sl h2) (by omega)) ?_
  rintro e w' ⟨v', rfl, h⟩
  exact ⟨_, rfl, h.ext, sl_own encB_ok h⟩
theorem ref_Put (ns : List Int) (hb : ns.length ≤ 1000000000) (hok : ∀ n ∈ ns, okNum n) : Fn Tryz.prog 90 [intsB ns] (ownB (ns.flatMap numI)) := by
  refine ⟨⟨_, Tryz.func90, by kernel_rfl, by kernel_rfl⟩, fun N0 w vs _ ha => ?_⟩
  obtain ⟨v, rfl, h1⟩ := args1 ha
  refine Calls.mono (refPut_any v ns w (lst_sl h1) (by omega) hok) ?_
  rintro e w' ⟨v', rfl, h⟩
  exact ⟨_, rfl, h.ext, sl_own encB_ok h⟩
theorem ref_Text (s : ByteArray) (hb : s.size ≤ 70368744177664) : Fn Tryz.prog 55 [sC s] (ownB (textB s)) := by
  refine ⟨⟨_, Tryz.func55, by kernel_rfl, by kernel_rfl⟩, fun N0 w vs _ ha => ?_⟩
  obtain ⟨v, rfl, h1⟩ := args1 ha
  obtain rfl : v = .string s := h1
  refine Calls.mono (refText_any s w hb) ?_
  rintro e w' ⟨v', rfl, h⟩
  exact ⟨_, rfl, h.ext, sl_own encB_ok h⟩
end Go.Proofs.YtbpmafpmlapekaaGreat
namespace Go.Proofs.YtbpmafpmlapekaaGreat
open Go.RowKit
structure It where
  key : ByteArray
  rep : Int
  cnt : Int
  rank : Int
  prio : Int
  dead : Bool
  body : ByteArray
deriving DecidableEq
def encV (v : Int × Int) : List Value := [.int .i64 v.1, .int .i64 v.2]
def encIt (x : It) : List Value := [.string x.key, .int .i64 x.rep, .int .i64 x.cnt, .int .i64 x.rank, .int .i64 x.prio, .bool x.dead, .string x.body]
def itV (x : It) : Value := .agg #[.string x.key, .int .i64 x.rep, .int .i64 x.cnt, .int .i64 x.rank, .int .i64 x.prio, .bool x.dead, .string x.body]
def keyR (s : ByteArray) : Bool := decide (1 ≤ s.size ∧ s.size ≤ 16)
def verR (r c : Int) : Bool := decide (1 ≤ r ∧ r ≤ 16 ∧ 1 ≤ c ∧ c ≤ 1099511627776)
def itR (x : It) : Bool := keyR x.key && verR x.rep x.cnt && decide (1 ≤ x.rank ∧ x.rank ≤ 1099511627776 ∧ 0 ≤ x.prio ∧ x.prio ≤ 255 ∧ x.body.size ≤ 64 ∧ (x.dead = true → x.body.size = 0))
theorem encIt_ok : Enc 7 encIt := ⟨by decide, fun _ => rfl, fun x u hu => by
  simp only [encIt, List.mem_cons, List.not_mem_nil, or_false] at hu
  rcases hu with rfl | rfl | rfl | rfl | rfl | rfl | rfl <;> rfl⟩
abbrev Its (w : World) (v : Value) (l : List It) : Prop := Sl 7 encIt w v l
end Go.Proofs.YtbpmafpmlapekaaGreat
namespace Go.Proofs.YtbpmafpmlapekaaGreat
open Go.RowKit

abbrev itP (x : It) : List PV := [rawP (.string x.key), rawP (.int .i64 x.rep), rawP (.int .i64 x.cnt), rawP (.int .i64 x.rank), rawP (.int .i64 x.prio), rawP (.bool x.dead), rawP (.string x.body)]
abbrev itC (x : It) : Cnt := .per (aggP (itP x))
abbrev vrP (r c : Int) : List PV := [rawP (.int .i64 r), rawP (.int .i64 c)]
abbrev vrC (r c : Int) : Cnt := .per (aggP (vrP r c))
theorem per_bool {a b : Bool} (h : a = b) : Cnt.per (rawP (.bool a)) = .per (rawP (.bool b)) := by rw [h]

theorem nil_toList : (⟨#[]⟩ : ByteArray).toList = [] := by rw [str_toList]
theorem sz_nil (s : ByteArray) : s.toList = [] ↔ s.size = 0 := by
  rw [str_toList, ← List.length_eq_zero_iff, str_len]
end Go.Proofs.YtbpmafpmlapekaaGreat
namespace Go.Proofs.YtbpmafpmlapekaaGreat
open Go.RowKit
def restNums (x : It) : List Int := [x.rep, x.cnt, x.rank, x.prio, if x.dead then 1 else 0]
def restB (x : It) : List UInt8 := (restNums x).flatMap numI ++ textB x.body
/-- an item's bytes, or none -/
def itB (x : It) : List UInt8 := if itR x then textB x.key ++ restB x else []
theorem itR_nums {x : It} (h : itR x = true) : (∀ n ∈ restNums x, okNum n) ∧ x.body.size ≤ 64 ∧ 1 ≤ x.key.size ∧ x.key.size ≤ 16 := by
  simp only [itR, keyR, verR, Bool.and_eq_true, decide_eq_true_eq] at h
  obtain ⟨⟨h1, h2⟩, h3⟩ := h
  refine ⟨?_, by omega, by omega, by omega⟩
  intro n hn
  simp only [restNums, List.mem_cons, List.not_mem_nil, or_false] at hn
  unfold okNum
  rcases hn with rfl | rfl | rfl | rfl | rfl
  · omega
  · omega
  · omega
  · omega
  · split <;> omega
theorem textB_len (s : ByteArray) (h : s.size ≤ 127) : (textB s).length = 1 + s.size := by
  unfold textB; rw [numB_lt (by omega)]; simp; omega

theorem take_snoc' {α : Type} (l : List α) (k : Nat) (h : k < l.length) : l.take (k + 1) = l.take k ++ [l[k]] := by rw [List.take_succ_eq_append_getElem h]
abbrev itsP (l : List It) : PV := lstP 7 (l.map itP)
abbrev itsB (l : List It) : Cnt := .bor 7 (l.map itP)
theorem itB_len (x : It) : (itB x).length ≤ 200 := by
  unfold itB
  split
  · rename_i h
    obtain ⟨h1, h2, h3, h4⟩ := itR_nums h
    have h5 := nums_len _ h1
    have h6 := textB_len x.body (by omega)
    have h7 := textB_len x.key (by omega)
    have h8 : (restNums x).length = 5 := rfl
    simp only [restB, List.length_append]; omega
  · simp
end Go.Proofs.YtbpmafpmlapekaaGreat
namespace Go.Proofs.YtbpmafpmlapekaaGreat
open Go.RowKit
def itE (x y : It) : Bool := (x.key == y.key) && (((x.rep == y.rep) && ((x.cnt == y.cnt) && true)) && ((x.rank == y.rank) && ((x.prio == y.prio) && ((x.dead == y.dead) && ((x.body == y.body) && true)))))
theorem sbeq (s u : ByteArray) : (s == u) = true ↔ s = u := by
  rw [beq_toListBytes, beq_iff_eq, str_toList, str_toList, Array.toList_inj]
  exact ⟨fun h => by cases s; cases u; simp_all, fun h => by rw [h]⟩
theorem itE_iff (x y : It) : itE x y = true ↔ x = y := by
  obtain ⟨a, b, c, d, e, f, g⟩ := x
  obtain ⟨a', b', c', d', e', f', g'⟩ := y
  simp only [itE, Bool.and_eq_true, sbeq, beq_iff_eq, and_true, It.mk.injEq]
  constructor
  · rintro ⟨h1, ⟨h2, h3⟩, h4, h5, h6, h7⟩; exact ⟨h1, h2, h3, h4, h5, h6, h7⟩
  · rintro ⟨h1, h2, h3, h4, h5, h6, h7⟩; exact ⟨h1, ⟨h2, h3⟩, h4, h5, h6, h7⟩
def itL (x : It) : Bool := decide (x.key.size > 60) || decide (x.body.size > 200)
def longB (l : List It) (most : Int) : Bool := decide ((l.length : Int) > most) || l.any itL
theorem any_snoc (l : List It) (k : Nat) (h : k < l.length) : (l.take (k + 1)).any itL = ((l.take k).any itL || itL l[k]) := by rw [take_snoc' l k h, List.any_append]; simp
end Go.Proofs.YtbpmafpmlapekaaGreat
namespace Go.Proofs.YtbpmafpmlapekaaGreat
open Go.RowKit
def cmpL : List UInt8 → List UInt8 → Int
  | [], [] => 0
  | [], _ :: _ => -1
  | _ :: _, [] => 1
  | x :: a, y :: b => if x.toNat < y.toNat then -1 else if y.toNat < x.toNat then 1 else cmpL a b
def cmpB (s t : ByteArray) : Int := cmpL s.data.toList t.data.toList
theorem cmpL_step (a b : List UInt8) (k : Nat) (h1 : k < a.length) (h2 : k < b.length) : cmpL (a.drop k) (b.drop k) = if a[k].toNat < b[k].toNat then -1 else if b[k].toNat < a[k].toNat then 1 else cmpL (a.drop (k + 1)) (b.drop (k + 1)) := by
  rw [List.drop_eq_getElem_cons h1, List.drop_eq_getElem_cons h2, cmpL]
theorem cmpL_end (a b : List UInt8) (k : Nat) (h : a.length ≤ k ∨ b.length ≤ k) (h1 : k ≤ a.length) (h2 : k ≤ b.length) : cmpL (a.drop k) (b.drop k) = if a.length < b.length then -1 else if a.length > b.length then 1 else 0 := by
  by_cases e1 : a.length ≤ k
  · rw [List.drop_eq_nil_of_le e1]
    by_cases e2 : b.length ≤ k
    · rw [List.drop_eq_nil_of_le e2, cmpL, if_neg (by omega), if_neg (by omega)]
    · rw [List.drop_eq_getElem_cons (by omega : k < b.length), cmpL, if_pos (by omega)]
  · have e2 : b.length ≤ k := by omega
    rw [List.drop_eq_nil_of_le e2, List.drop_eq_getElem_cons (by omega : k < a.length), cmpL, if_neg (by omega), if_pos (by omega)]
def cmpV (r c r' c' : Int) : Int := if r = r' ∧ c = c' then 0 else if r < r' ∨ r = r' ∧ c < c' then -1 else 1
def cmpI (x y : It) : Int := if x.rank > y.rank then 1 else if x.rank < y.rank then -1 else cmpV x.rep x.cnt y.rep y.cnt
def beats (x y : It) : Bool := decide (cmpI x y > 0)
section
set_option maxRecDepth 10000
set_option maxHeartbeats 4000000
theorem key_Cmp (s t : ByteArray) (hs : s.size ≤ 1000000000000) : Fn Tryz.prog 35 [sC s, sC t] (inR (cmpB s t)) := by
  generalize hR : cmpB s t = R
  refine fn_intro Tryz.func35 rfl (by kernel_rfl) Tryz.ntmps35 (Nat.le_of_ble_eq_true rfl) ?_
  (refine w0 ?_; (repeat' (first | refine W2.mk ?_ ?_ | refine W1.mk fun hc => ?_)))
  refine AW_loopP (fun k => k ≤ s.size ∧ k ≤ t.size ∧ cmpL (s.data.toList.drop k) (t.data.toList.drop k) = R) (fun k => mkSt [(0, sC s), (1, sC t), (10, iC .i64 (min (s.size : Int) (t.size : Int))), (11, iC .i64 (k : Nat))] []) (fun k => s.size - k) 0 ⟨Nat.zero_le _, Nat.zero_le _, hR⟩ ?_ ?_
  · exact le_auto
  · rintro k ⟨h1, h2, h3⟩
    have hst := cmpL_step s.data.toList t.data.toList k
    have hen := cmpL_end s.data.toList t.data.toList k
    simp only [str_len] at hst hen
    rw [h3] at hst hen
    by_cases hk : k < s.size ∧ k < t.size
    · have hst := hst hk.1 hk.2
      have hm : (k : Int) < min (s.size : Int) (t.size : Int) := by omega
      (refine w0 ?_; (repeat' (first | refine W2.mk ?_ ?_ | refine W1.mk fun hc => ?_)))
      · rw [if_pos (by omega)] at hst
        (refine ⟨(by first | exact .inl rfl | exact .inr rfl), res1 rfl ?_⟩)
        exact rv_int rfl hst.symm
      · rw [if_neg (by omega), if_pos (by omega)] at hst
        (refine ⟨(by first | exact .inl rfl | exact .inr rfl), res1 rfl ?_⟩)
        exact rv_int rfl hst.symm
      · rw [if_neg (by omega), if_neg (by omega)] at hst
        refine ⟨k + 1, ⟨by omega, by omega, hst.symm⟩, by omega, ?_⟩
        exact le_auto
    · have hen := hen (by omega) h1 h2
      have hm : ¬ (k : Int) < min (s.size : Int) (t.size : Int) := by omega
      (refine w0 ?_; (repeat' (first | refine W2.mk ?_ ?_ | refine W1.mk fun hc => ?_)))
      all_goals (refine ⟨(by first | exact .inl rfl | exact .inr rfl), res1 rfl ?_⟩)
      · rw [if_pos (by omega)] at hen
        exact rv_int rfl hen.symm
      · rw [if_neg (by omega), if_pos (by omega)] at hen
        exact rv_int rfl hen.symm
      · rw [if_neg (by omega), if_neg (by omega)] at hen
        exact rv_int rfl hen.symm
theorem ref_Less (s t : ByteArray) (hs : s.size ≤ 1000000000000) : Fn Tryz.prog 24 [sC s, sC t] (boR (decide (cmpB s t < 0))) := by
  generalize hR : cmpB s t = R
  refine fn_intro Tryz.func24 rfl (by kernel_rfl) Tryz.ntmps24 (Nat.le_of_ble_eq_true rfl) ?_
  (refine w0 ?_; (repeat' (first | refine W2.mk ?_ ?_ | refine W1.mk fun hc => ?_)))
  refine AW_loopP (fun k => k ≤ s.size ∧ k ≤ t.size ∧ cmpL (s.data.toList.drop k) (t.data.toList.drop k) = R) (fun k => mkSt [(0, sC s), (1, sC t), (5, iC .i64 (k : Nat))] []) (fun k => s.size - k) 0 ⟨Nat.zero_le _, Nat.zero_le _, hR⟩ ?_ ?_
  · exact le_auto
  · rintro k ⟨h1, h2, h3⟩
    have hst := cmpL_step s.data.toList t.data.toList k
    have hen := cmpL_end s.data.toList t.data.toList k
    simp only [str_len] at hst hen
    rw [h3] at hst hen
    by_cases hk : k < s.size ∧ k < t.size
    · have hst := hst hk.1 hk.2
      (refine w0 ?_; (repeat' (first | refine W2.mk ?_ ?_ | refine W1.mk fun hc => ?_)))
      · (refine ⟨(by first | exact .inl rfl | exact .inr rfl), res1 rfl ?_⟩)
        refine rv_bool rfl ?_
        rw [hst]
        clear hst hen h3
        generalize (s.data.toList[k]'(by simpa using hk.1)).toNat = x at *
        generalize (t.data.toList[k]'(by simpa using hk.2)).toNat = y at *
        split
        · rw [decide_eq_true (by omega), decide_eq_true (by omega)]
        · rw [if_pos (by omega), decide_eq_false (by omega), decide_eq_false (by omega)]
      · rw [if_neg (by omega), if_neg (by omega)] at hst
        refine ⟨k + 1, ⟨by omega, by omega, hst.symm⟩, by omega, ?_⟩
        exact le_auto
    · have hen := hen (by omega) h1 h2
      (refine w0 ?_; (repeat' (first | refine W2.mk ?_ ?_ | refine W1.mk fun hc => ?_)))
      all_goals (refine ⟨(by first | exact .inl rfl | exact .inr rfl), res1 rfl ?_⟩)
      all_goals refine rv_bool rfl ?_
      · rw [hen, if_neg (by omega)]
        split <;> simp
      · rw [hen]
        split
        · simp; omega
        · split <;> (simp; omega)
end
end Go.Proofs.YtbpmafpmlapekaaGreat
namespace Go.Proofs.YtbpmafpmlapekaaGreat
open Go.RowKit
structure Rg where
  lo : ByteArray
  hi : ByteArray
  op : Bool
deriving DecidableEq
def encRg (r : Rg) : List Value := [.string r.lo, .string r.hi, .bool r.op]
theorem encRg_ok : Enc 3 encRg := ⟨by decide, fun _ => rfl, fun x u hu => by
  simp only [encRg, List.mem_cons, List.not_mem_nil, or_false] at hu
  rcases hu with rfl | rfl | rfl <;> rfl⟩
abbrev rgP (r : Rg) : List PV := [rawP (.string r.lo), rawP (.string r.hi), rawP (.bool r.op)]
abbrev rgC (r : Rg) : Cnt := .per (aggP (rgP r))
abbrev rgsP (l : List Rg) : PV := lstP 3 (l.map rgP)
abbrev rgsB (l : List Rg) : Cnt := .bor 3 (l.map rgP)
def rgE (x y : Rg) : Bool := (x.lo == y.lo) && ((x.hi == y.hi) && ((x.op == y.op) && true))
theorem rgE_iff (x y : Rg) : rgE x y = true ↔ x = y := by
  obtain ⟨a, b, c⟩ := x
  obtain ⟨a', b', c'⟩ := y
  simp only [rgE, Bool.and_eq_true, sbeq, beq_iff_eq, and_true, Rg.mk.injEq]
theorem rgE_o (x y : Rg) : eqO Tryz.prog 10000 45 (encRg x) (encRg y) = some (rgE x y) := by kernel_rfl
theorem rgG : Tryz.prog.eqGuardType Tryz.prog.depth 45 = false := by kernel_rfl
theorem toL_inj' (s u : ByteArray) : s.toList = u.toList ↔ s = u := by
  rw [← sbeq, beq_toListBytes, beq_iff_eq]
def e0 : ByteArray := ⟨#[]⟩
/-- a right range -/
def rgR (r : Rg) : Bool := decide (r.lo.size ≤ 17 ∧ r.hi.size ≤ 17 ∧ (if r.op = true then r.hi = e0 else cmpB r.lo r.hi < 0))
theorem rgR_iff (r : Rg) : rgR r = true ↔ r.lo.size ≤ 17 ∧ r.hi.size ≤ 17 ∧ (if r.op = true then r.hi = e0 else cmpB r.lo r.hi < 0) := by
  unfold rgR; exact decide_eq_true_iff
/-- right, and behind the one ahead of it -/
def rgOk (l : List Rg) (i : Nat) : Prop := ∀ h : i < l.length, rgR l[i] = true ∧ ∀ h0 : 0 < i, l[i - 1].op = false ∧ cmpB l[i - 1].hi l[i].lo < 0
def rgsOk (l : List Rg) : Prop := ∀ i, rgOk l i
section
set_option maxRecDepth 10000
set_option maxHeartbeats 4000000
theorem key_Edge (s : ByteArray) : Fn Tryz.prog 66 [sC s] (boR (decide (s.size ≤ 17))) := by
  refine fn_intro Tryz.func66 rfl (by kernel_rfl) Tryz.ntmps66 (Nat.le_of_ble_eq_true rfl) ?_
  (refine w0 ?_; (repeat' (first | refine W2.mk ?_ ?_ | refine W1.mk fun hc => ?_)))
  (refine ⟨(by first | exact .inl rfl | exact .inr rfl), res1 rfl ?_⟩)
  exact rv_bool rfl (by simp; omega)
theorem span_Right (r : Rg) : Fn Tryz.prog 33 [rgC r] (boR (rgR r)) := by
  obtain ⟨lo, hi, op⟩ := r
  have h1 := key_Edge lo
  have h2 := key_Edge hi
  have hR := rgR_iff ⟨lo, hi, op⟩
  generalize rgR ⟨lo, hi, op⟩ = b at *
  simp only at hR
  show Fn Tryz.prog _ [.per (aggP [rawP (.string lo), rawP (.string hi), rawP (.bool op)])] (boR b)
  by_cases hl : lo.size ≤ 17
  · by_cases hh : hi.size ≤ 17
    · rw [decide_eq_true hl] at h1
      rw [decide_eq_true hh] at h2
      cases op with
      | true =>
        have hE := rgE_o ⟨lo, hi, true⟩ ⟨lo, e0, true⟩
        have hI := rgE_iff ⟨lo, hi, true⟩ ⟨lo, e0, true⟩
        generalize rgE ⟨lo, hi, true⟩ ⟨lo, e0, true⟩ = q at *
        refine fn_intro Tryz.func33 rfl (by kernel_rfl) Tryz.ntmps33 (Nat.le_of_ble_eq_true rfl) ?_
        (have kc1 := h1; have kc2 := h2; refine w0 ?_; (repeat' (first | refine W2.mk ?_ ?_ | refine W1.mk fun hc => ?_ | ((first | apply AL_t rfl | apply AL_0 rfl | apply AD_t rfl | apply AD_0 rfl); (focus (first | (exact op_eqA (us := encRg ⟨lo, hi, true⟩) (vs := encRg ⟨lo, e0, true⟩) ⟨rfl, rfl, rfl⟩ rfl rfl rfl (by first | exact .inl ⟨rfl, rfl⟩ | exact .inr ⟨rfl, rfl⟩) rgG rfl hE) | (apply u_g; (focus rfl); apply op_gyes rfl rfl rfl rfl rfl; first | (exact op_eqA (us := encRg ⟨lo, hi, true⟩) (vs := encRg ⟨lo, e0, true⟩) ⟨rfl, rfl, rfl⟩ rfl rfl rfl (by first | exact .inl ⟨rfl, rfl⟩ | exact .inr ⟨rfl, rfl⟩) rgG rfl hE)))); refine w0 ?_))); all_goals clear kc2 kc1)
        (refine ⟨(by first | exact .inl rfl | exact .inr rfl), res1 rfl ?_⟩)
        refine rv_bool rfl ?_
        rw [show (q != false) = q by cases q <;> rfl, Bool.eq_iff_iff, hI, hR]
        simp [hl, hh]
      | false =>
        have h3 := key_Cmp lo hi (by omega)
        refine fn_intro Tryz.func33 rfl (by kernel_rfl) Tryz.ntmps33 (Nat.le_of_ble_eq_true rfl) ?_
        (have kc1 := h1; have kc2 := h2; have kc3 := h3; refine w0 ?_; (repeat' (first | refine W2.mk ?_ ?_ | refine W1.mk fun hc => ?_)); all_goals clear kc3 kc2 kc1)
        (refine ⟨(by first | exact .inl rfl | exact .inr rfl), res1 rfl ?_⟩)
        refine rv_bool rfl ?_
        rw [Bool.eq_iff_iff, hR]
        simp [hl, hh]
    · rw [decide_eq_true hl] at h1
      rw [decide_eq_false hh] at h2
      have hr : b = false := by rw [← Bool.not_eq_true, hR]; exact fun h => hh h.2.1
      rw [hr]
      clear hR
      refine fn_intro Tryz.func33 rfl (by kernel_rfl) Tryz.ntmps33 (Nat.le_of_ble_eq_true rfl) ?_
      (have kc1 := h1; have kc2 := h2; refine w0 ?_; (repeat' (first | refine W2.mk ?_ ?_ | refine W1.mk fun hc => ?_)); all_goals clear kc2 kc1)
      (refine ⟨(by first | exact .inl rfl | exact .inr rfl), res1 rfl ?_⟩)
      exact rv_bool rfl rfl
  · rw [decide_eq_false hl] at h1
    have hr : b = false := by rw [← Bool.not_eq_true, hR]; exact fun h => hl h.1
    rw [hr]
    clear hR
    refine fn_intro Tryz.func33 rfl (by kernel_rfl) Tryz.ntmps33 (Nat.le_of_ble_eq_true rfl) ?_
    (have kc1 := h1; refine w0 ?_; (repeat' (first | refine W2.mk ?_ ?_ | refine W1.mk fun hc => ?_)); all_goals clear kc1)
    (refine ⟨(by first | exact .inl rfl | exact .inr rfl), res1 rfl ?_⟩)
    exact rv_bool rfl rfl
theorem rspan_Right (r : Rg) : Fn Tryz.prog 22 [rgC r] (boR (rgR r)) := by
  obtain ⟨lo, hi, op⟩ := r
  have hR := rgR_iff ⟨lo, hi, op⟩
  generalize rgR ⟨lo, hi, op⟩ = b at *
  simp only at hR
  show Fn Tryz.prog _ [.per (aggP [rawP (.string lo), rawP (.string hi), rawP (.bool op)])] (boR b)
  by_cases hl : lo.size ≤ 17
  · by_cases hh : hi.size ≤ 17
    · cases op with
      | true =>
        refine fn_intro Tryz.func22 rfl (by kernel_rfl) Tryz.ntmps22 (Nat.le_of_ble_eq_true rfl) ?_
        (refine w0 ?_; (repeat' (first | refine W2.mk ?_ ?_ | refine W1.mk fun hc => ?_)))
        (refine ⟨(by first | exact .inl rfl | exact .inr rfl), res1 rfl ?_⟩)
        refine rv_bool rfl ?_
        rw [Bool.eq_iff_iff, hR, beq_iff_eq, toL_inj']
        simp [hl, hh, e0]
      | false =>
        have h3 := ref_Less lo hi (by omega)
        refine fn_intro Tryz.func22 rfl (by kernel_rfl) Tryz.ntmps22 (Nat.le_of_ble_eq_true rfl) ?_
        (have kc1 := h3; refine w0 ?_; (repeat' (first | refine W2.mk ?_ ?_ | refine W1.mk fun hc => ?_)); all_goals clear kc1)
        (refine ⟨(by first | exact .inl rfl | exact .inr rfl), res1 rfl ?_⟩)
        refine rv_bool rfl ?_
        rw [Bool.eq_iff_iff, hR]
        simp [hl, hh]
    · have hr : b = false := by rw [← Bool.not_eq_true, hR]; exact fun h => hh h.2.1
      rw [hr]
      clear hR
      refine fn_intro Tryz.func22 rfl (by kernel_rfl) Tryz.ntmps22 (Nat.le_of_ble_eq_true rfl) ?_
      (refine w0 ?_; (repeat' (first | refine W2.mk ?_ ?_ | refine W1.mk fun hc => ?_)))
      (refine ⟨(by first | exact .inl rfl | exact .inr rfl), res1 rfl ?_⟩)
      exact rv_bool rfl rfl
  · have hr : b = false := by rw [← Bool.not_eq_true, hR]; exact fun h => hl h.1
    rw [hr]
    clear hR
    refine fn_intro Tryz.func22 rfl (by kernel_rfl) Tryz.ntmps22 (Nat.le_of_ble_eq_true rfl) ?_
    (refine w0 ?_; (repeat' (first | refine W2.mk ?_ ?_ | refine W1.mk fun hc => ?_)))
    (refine ⟨(by first | exact .inl rfl | exact .inr rfl), res1 rfl ?_⟩)
    exact rv_bool rfl rfl
end
end Go.Proofs.YtbpmafpmlapekaaGreat
