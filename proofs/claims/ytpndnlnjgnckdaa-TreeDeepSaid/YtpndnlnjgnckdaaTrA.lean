/- All items of a tree, one by one: the range over a function. -/
import Derived.RangeFuncNested
import Derived.RangeFuncBound
import Derived.RangeFuncBox
import Derived.RangeFuncLeaves
import Derived.Shelf.Abstract
import Derived.WalkKit
import Derived.OwnWalkIn
import Derived.TacticsInMore
import Derived.LoopNIn
import Derived.LoopIn
import Derived.Maps.AppendAt
import Derived.Test.YtpndnlnjgnckdaaTrM
namespace Go.Proofs.Ytpndnlnjgnckdaa
open Go.RowKit Go.Shelf
attribute [local go_sem] Oper.semAt_some
theorem room_none {F : Fence} (hd : F.depth = none) (k : Nat) : F.room k := fun d h => by rw [hd] at h; cases h
theorem round_deep {F : Fence} (hd : F.depth = none) {m m' : Nat} {P : Program} {l : Nat} {f : FuncId} {tmps : Array Value} {assign body : Code} {w : World} {R : Ending → World → Prop}
    (h : RoundIn F m P l f tmps assign body w R) : RoundIn F m' P l f tmps assign body w R := ⟨h.1, fun c cs _ => h.2 c cs (room_none hd _)⟩
theorem yield_deep {F : Fence} (hd : F.depth = none) {m : Nat} (m' : Nat) {P : Program} {l : Nat} {args : Array Value} {W : World} {R : Ending → World → Prop} (h : YieldAt F m P l args W R) : YieldAt F m' P l args W R := by
  obtain ⟨fn, tmps, assign, body, hy, hR⟩ := h
  exact ⟨fn, tmps, assign, body, hy, round_deep hd hR⟩
/-- the heap holds a tree at an address, in blocks below n₀ -/
def isT (n₀ : Nat) (W : World) : Value → Tr → Prop
  | v, .nil => v = .pointer none
  | v, .node l x _ r => ∃ (b q : Nat) (vl vr : Value), v = .pointer (some ⟨b, q, none⟩) ∧ b < n₀ ∧ ItAt W b q x ∧ W.cell? ⟨b, q + 7, none⟩ = some vl ∧ W.cell? ⟨b, q + 8, none⟩ = some vr ∧ vl.oneCell' = true ∧ vr.oneCell' = true ∧ isT n₀ W vl l ∧ isT n₀ W vr r
theorem itAt_below {n₀ : Nat} {A B : World} (h : Below n₀ A B) {b q : Nat} {x : It} (hb : b < n₀) (hi : ItAt A b q x) : ItAt B b q x := by
  obtain ⟨h0, h1, h2, h3, h4, h5, h6⟩ := hi
  exact ⟨(h.cell (p := ⟨b, q, none⟩) hb).trans h0, (h.cell (p := ⟨b, q + 1, none⟩) hb).trans h1, (h.cell (p := ⟨b, q + 2, none⟩) hb).trans h2, (h.cell (p := ⟨b, q + 3, none⟩) hb).trans h3, (h.cell (p := ⟨b, q + 4, none⟩) hb).trans h4, (h.cell (p := ⟨b, q + 5, none⟩) hb).trans h5, (h.cell (p := ⟨b, q + 6, none⟩) hb).trans h6⟩
theorem isT.below {n₀ : Nat} {A B : World} (h : Below n₀ A B) : ∀ {v : Value} {t : Tr}, isT n₀ A v t → isT n₀ B v t
  | _, .nil, ht => ht
  | _, .node _ _ _ _, ⟨b, q, vl, vr, hp, hb, hi, h7, h8, o1, o2, hl, hr⟩ => ⟨b, q, vl, vr, hp, hb, itAt_below h hb hi, (h.cell (p := ⟨b, q + 7, none⟩) hb).trans h7, (h.cell (p := ⟨b, q + 8, none⟩) hb).trans h8, o1, o2, isT.below h hl, isT.below h hr⟩
theorem isT_of {N : BP} {W : World} : ∀ {t : Tr} {v : Value}, (trP t).p N W v → isT W.heap.size W v t
  | .nil, _, h => h
  | .node l x o r, v, h => by
    rw [trP_node] at h
    obtain ⟨b, q, rfl, hb, -, hc⟩ := h
    obtain ⟨y0, e0, -, r0⟩ := hc 0 _ rfl
    obtain ⟨y1, e1, -, r1⟩ := hc 1 _ rfl
    obtain ⟨y2, e2, -, r2⟩ := hc 2 _ rfl
    obtain ⟨y3, e3, -, r3⟩ := hc 3 _ rfl
    obtain ⟨y4, e4, -, r4⟩ := hc 4 _ rfl
    obtain ⟨y5, e5, -, r5⟩ := hc 5 _ rfl
    obtain ⟨y6, e6, -, r6⟩ := hc 6 _ rfl
    obtain ⟨y7, e7, o7, r7⟩ := hc 7 (trP l) rfl
    obtain ⟨y8, e8, o8, r8⟩ := hc 8 (trP r) rfl
    obtain rfl : y0 = _ := r0
    obtain rfl : y1 = _ := r1
    obtain rfl : y2 = _ := r2
    obtain rfl : y3 = _ := r3
    obtain rfl : y4 = _ := r4
    obtain rfl : y5 = _ := r5
    obtain rfl : y6 = _ := r6
    exact ⟨b, q, y7, y8, rfl, hb, ⟨e0, e1, e2, e3, e4, e5, e6⟩, e7, e8, o7, o8, isT_of r7, isT_of r8⟩
set_option maxRecDepth 100000 in
set_option maxHeartbeats 2000000 in
theorem walk_in (F : Fence) (hd : F.depth = none) (h6 : F.fn 57) (hro : F.round = none) (l n₀ N : Nat) (J Jx : List It → World → Prop)
    (hY : ∀ m pre x W, J pre W → pre.length < N → YieldAt F m Try.prog l #[itV x] W fun e W' =>
      (e = .returned (.bool true) ∧ J (pre ++ [x]) W' ∧ Below n₀ W W') ∨ (e = .returned (.bool false) ∧ Jx (pre ++ [x]) W')) (T : Tr) :
    ∀ (n : Nat) (p : Value) (pre : List It) (W : World), isT n₀ W p T → J pre W → pre.length + T.lst.length ≤ N →
      CallsIn F n Try.prog 57 #[p, .func (.yield l) #[] #[]] W fun e W' =>
        (e = .returned (.bool true) ∧ J (pre ++ T.lst) W' ∧ Below n₀ W W') ∨ (e = .returned (.bool false) ∧ ∃ q, q <+: T.lst ∧ Jx (pre ++ q) W') := by
  induction T with
  | nil =>
    intro n p pre W ht hJ _
    obtain rfl : p = .pointer none := ht
    refine callsIn_of_wp Try.func57 rfl h6 ?_ hro
    simp only [Try.ntmps57, List.size_toArray, List.length_cons, List.length_nil, Nat.reduceAdd, Nat.reduceSub, Array.replicate_succ, Array.replicate_zero, List.push_toArray, List.append_toArray, List.nil_append, List.cons_append]
    gi_wp2_with (refine wpListIn_skip rfl rfl ?_)
    all_goals (try exact absurd (by assumption : some undef = some (Value.bool _)) (by simp [undef]))
    go_ret
    exact .inl ⟨rfl, by simpa [Tr.lst] using hJ, Below.refl _ _⟩
  | node tl x o tr ihl ihr =>
    intro n p pre W ht hJ hN
    obtain ⟨b, q, vl, vr, rfl, hb, hi, c7, c8, o7, o8, hl, hr⟩ := ht
    have hdd : ∀ k : Nat, (F.depth.isSome = true → 1 ≤ k) := fun k h => by rw [hd] at h; cases h
    simp only [Tr.lst, List.length_append, List.length_cons] at hN
    have hy2 : ∀ W1, J (pre ++ tl.lst) W1 → Below n₀ W W1 → YieldAt F (n - 1) Try.prog l #[itV x] W1 fun e W2 =>
        (e = .returned (.bool true) ∧ J (pre ++ tl.lst ++ [x]) W2 ∧ Below n₀ W W2 ∧ W2.cell? ⟨b, q + 8, none⟩ = some vr ∧ isT n₀ W2 vr tr) ∨ (e = .returned (.bool false) ∧ Jx (pre ++ tl.lst ++ [x]) W2) := fun W1 hJ1 hb1 =>
      YieldAt.mono (hY (n - 1) _ x W1 hJ1 (by simp; omega)) fun e W2 h => h.elim
        (fun ⟨he, hj, hb2⟩ => .inl ⟨he, hj, hb1.trans hb2, ((hb1.trans hb2).cell (p := ⟨b, q + 8, none⟩) hb).trans c8, hr.below (hb1.trans hb2)⟩) .inr
    have ih1 := (ihl (n - 1) vl pre W hl hJ (by omega)).mono (R' := fun e W1 =>
        (e = .returned (.bool true) ∧ ItAt W1 b q x ∧ YieldAt F (n - 1) Try.prog l #[itV x] W1 fun e W2 =>
          (e = .returned (.bool true) ∧ J (pre ++ tl.lst ++ [x]) W2 ∧ Below n₀ W W2 ∧ W2.cell? ⟨b, q + 8, none⟩ = some vr ∧ isT n₀ W2 vr tr) ∨ (e = .returned (.bool false) ∧ Jx (pre ++ tl.lst ++ [x]) W2)) ∨
        (e = .returned (.bool false) ∧ ∃ q, q <+: tl.lst ∧ Jx (pre ++ q) W1))
      (fun e W1 h => h.elim (fun ⟨he, hj, hb1⟩ => .inl ⟨he, itAt_below hb1 hb hi, hy2 W1 hj hb1⟩) .inr)
    clear hy2 ihl
    refine callsIn_of_wp Try.func57 rfl h6 ?_ hro
    simp only [Try.ntmps57, List.size_toArray, List.length_cons, List.length_nil, Nat.reduceAdd, Nat.reduceSub, Array.replicate_succ, Array.replicate_zero, List.push_toArray, List.append_toArray, List.nil_append, List.cons_append]
    gi_wp2_with (first
      | ((try refine ⟨hdd _, ?_⟩); gi_at_call 57; refine ih1.mono ?_; clear ih1; rintro e W1 (⟨rfl, ⟨g0, g1, g2, g3, g4, g5, g6⟩, fn, tmps, assign, body, hy, hR⟩ | ⟨rfl, q', hq, hx1⟩); (try dsimp only [itV] at hy))
      | ((try refine ⟨hdd _, ?_⟩); refine hR.mono ?_; clear hR; rintro e W2 (⟨rfl, hJ2, hb2, c2', hr2⟩ | ⟨rfl, hx2⟩))
      | ((try refine ⟨hdd _, ?_⟩); gi_at_call 57; refine (ihr (n - 1) vr _ _ hr2 hJ2 (by simp; omega)).mono ?_; rintro e W3 (⟨rfl, hJ3, hb3⟩ | ⟨rfl, q', hq, hx3⟩)))
    · go_ret
      exact .inl ⟨rfl, by simpa [Tr.lst, List.append_assoc] using hJ3, hb2.trans hb3⟩
    · go_ret
      obtain ⟨r, hr'⟩ := hq
      exact .inr ⟨rfl, tl.lst ++ x :: q', ⟨r, by simp [Tr.lst, ← hr']⟩, by simpa [List.append_assoc] using hx3⟩
    · go_ret
      exact .inr ⟨rfl, tl.lst ++ [x], ⟨tr.lst, by simp [Tr.lst]⟩, by simpa [List.append_assoc] using hx2⟩
    · refine ⟨fun _ h => (by cases h), ?_⟩
      gi_wp2
      go_ret
      exact .inr ⟨rfl, q', hq.trans (by simp [Tr.lst]), hx1⟩
set_option maxHeartbeats 1000000 in
theorem top_in (F : Fence) (n : Nat) (h : F.fn 37) (hro : F.round = none) (b q : Nat) (v : Value) (w : World) (hc : w.cell? ⟨b, q, none⟩ = some v) :
    CallsIn F n Try.prog 37 #[.pointer (some ⟨b, q, none⟩)] w fun e w' => e = .returned v ∧ w' = w := by
  refine callsIn_of_wp Try.func37 rfl h ?_ hro
  simp only [Try.ntmps37, List.size_toArray, List.length_cons, List.length_nil, Nat.reduceAdd, Nat.reduceSub, Array.replicate_succ, Array.replicate_zero, List.push_toArray, List.append_toArray, List.nil_append, List.cons_append]
  gi_wp2
  go_ret
  exact ⟨rfl, rfl⟩
set_option maxHeartbeats 1000000 in
theorem each1_in (F : Fence) (hd : F.depth = none) (n : Nat) (h5 : F.fn 56) (ht : F.fn 37) (h6 : F.fn 57) (hro : F.round = none) (l Bt n₀ b q : Nat) (v : Value) (T : Tr) (J Jx : List It → World → Prop)
    (hY : ∀ pre x W, J pre W → pre.length < T.lst.length → YieldAt F (n - 1) Try.prog l #[itV x] W fun e W' =>
      (e = .returned (.bool true) ∧ J (pre ++ [x]) W' ∧ Below n₀ W W') ∨ (e = .returned (.bool false) ∧ Jx (pre ++ [x]) W'))
    (W : World) (hBt : W.cell? ⟨Bt, 0, none⟩ = some (.pointer (some ⟨b, q, none⟩))) (hc : W.cell? ⟨b, q, none⟩ = some v) (hT : isT n₀ W v T) (h0 : J [] W) :
    CallsIn F n Try.prog 56 #[.func (.yield l) #[] #[], .pointer (some ⟨Bt, 0, none⟩)] W fun e W' => (∃ v, e = .returned v) ∧
      ((∃ ys, ys = T.lst ∧ J ys W') ∨ (∃ pre, pre <+: T.lst ∧ Jx pre W')) := by
  have hdd : ∀ k : Nat, (F.depth.isSome = true → 1 ≤ k) := fun k h => by rw [hd] at h; cases h
  have hp := walk_in F hd h6 hro l n₀ T.lst.length J Jx (fun m pre x W hj hl => yield_deep hd m (hY pre x W hj hl)) T (n - 1) v [] W hT h0 (by simp)
  have hq := top_in F (n - 1) ht hro b q v W hc
  refine callsIn_of_wp Try.func56 rfl h5 ?_ hro
  simp only [Try.ntmps56, List.size_toArray, List.length_cons, List.length_nil, Nat.reduceAdd, Nat.reduceSub, Array.replicate_succ, Array.replicate_zero, List.push_toArray, List.append_toArray, List.nil_append, List.cons_append]
  gi_wp2_with (first
    | ((try refine ⟨hdd _, ?_⟩); gi_at_call 37; refine hq.mono ?_; clear hq; rintro e W1 ⟨rfl, rfl⟩)
    | ((try refine ⟨hdd _, ?_⟩); gi_at_call 57; refine hp.mono ?_; clear hp; rintro e W1 (⟨rfl, hJ1, _⟩ | ⟨rfl, q, hq, hx⟩)))
  · go_end0
    exact ⟨⟨_, rfl⟩, .inl ⟨_, rfl, by simpa using hJ1⟩⟩
  · go_end0
    exact ⟨⟨_, rfl⟩, .inr ⟨q, hq, by simpa using hx⟩⟩
set_option maxHeartbeats 1000000 in
theorem each_in (F : Fence) (n : Nat) (h4 : F.fn 34) (hro : F.round = none) (p : Option Addr) (w : World) :
    CallsIn F n Try.prog 34 #[.pointer p] w fun e w' => e = .returned (.func (.func 56) #[] #[.pointer (some ⟨w.heap.size, 0, none⟩)]) ∧ w' = w.alloc (.cells #[.pointer p] 29) := by
  refine callsIn_of_wp Try.func34 rfl h4 ?_ hro
  simp only [Try.ntmps34, List.size_toArray, List.length_cons, List.length_nil, Nat.reduceAdd, Nat.reduceSub, Array.replicate_succ, Array.replicate_zero, List.push_toArray, List.append_toArray, List.nil_append, List.cons_append]
  gi_wp2
  go_ret
  exact ⟨rfl, rfl⟩
theorem each_stops (F : Fence) (hd : F.depth = none) (n : Nat) (h5 : F.fn 56) (ht : F.fn 37) (h6 : F.fn 57) (hro : F.round = none) (Bt n₀ b q : Nat) (v : Value) (T : Tr) (w : World) (hBt : Bt < w.heap.size) (hb : b < n₀) (hn₀ : n₀ ≤ w.heap.size)
    (hc : w.cell? ⟨Bt, 0, none⟩ = some (.pointer (some ⟨b, q, none⟩))) (hv : w.cell? ⟨b, q, none⟩ = some v) (hT : isT n₀ w v T) :
    SeqStopsK F n Try.prog 56 #[.pointer (some ⟨Bt, 0, none⟩)] (fun x : It => #[itV x]) (Below n₀) (fun ys => ys = T.lst) (fun pre => pre <+: T.lst) T.lst.length w := fun l J Jx W hW _ _ hY h0 =>
  each1_in F hd n h5 ht h6 hro l Bt n₀ b q v T J Jx hY W ((hW.cell (p := ⟨Bt, 0, none⟩) hBt).trans hc) ((hW.cell (p := ⟨b, q, none⟩) (Nat.lt_of_lt_of_le hb hn₀)).trans hv) (hT.below (hW.mono hn₀)) h0
theorem infoItem : (Try.prog.info? 35).map (fun i => (i.zero, i.size, i.bytes)) = some (some (.agg #[.string ⟨#[]⟩, .int .i64 0, .int .i64 0, .int .i64 0, .int .i64 0, .bool false, .string ⟨#[]⟩]), 7, 72) := by kernel_rfl
abbrev itCells (x : It) : Array Value := #[.string x.key, .int .i64 x.rep, .int .i64 x.cnt, .int .i64 x.rank, .int .i64 x.prio, .bool x.dead, .string x.body]
def ItBox (W : World) (B : Nat) (x : It) : Prop := W.heap[B]? = some (.cells (itCells x) 35 (0, 0))
theorem cells_new (W : World) (x : It) (T : TypeId) : ∀ j u, (encIt x)[j]? = some u → (W.alloc (.cells (itCells x) T)).cell? ((⟨W.heap.size, 0, none⟩ : Addr).add j) = some u := by
  intro j u hj
  have h : (⟨W.heap.size, 0, none⟩ : Addr).add j = ⟨W.heap.size, j, none⟩ := by
    cases j <;> simp [Addr.add]
  rw [h, cell_of_row _ _ _ _ _ _ (heap_alloc_new W _)]
  rw [show itCells x = (encIt x).toArray from rfl, List.getElem?_toArray]
  exact hj
theorem ItBox.lt {W : World} {B : Nat} {x : It} (h : ItBox W B x) : B < W.heap.size := (Array.getElem?_eq_some_iff.1 h).1
theorem ItBox.at {W : World} {B : Nat} {x : It} (h : ItBox W B x) : ItAt W B 0 x := by
  have hc : ∀ j v, (itCells x)[j]? = some v → W.cell? ⟨B, j, none⟩ = some v := by
    intro j v hj
    rw [cell_of_row _ _ _ _ _ _ h]; exact hj
  exact ⟨hc 0 _ rfl, hc 1 _ rfl, hc 2 _ rfl, hc 3 _ rfl, hc 4 _ rfl, hc 5 _ rfl, hc 6 _ rfl⟩
set_option maxRecDepth 100000 in
set_option maxHeartbeats 2000000 in
theorem all_in (b q : Nat) (v : Value) (T : Tr) (hN : T.lst.length ≤ 1000000) (w : World) (hb : b < w.heap.size) (hv : w.cell? ⟨b, q, none⟩ = some v) (hT : isT w.heap.size w v T) :
    CallsIn Fence.wide 9 Try.prog 13 #[.pointer (some ⟨b, q, none⟩)] w fun e W' => ∃ u, e = .returned u ∧ W'.ownsRow w.heap.size 35 7 u T.lst.length (T.lst.flatMap encIt) ∧ Below w.heap.size w W' := by
  obtain ⟨F, hF⟩ : ∃ F, F = Fence.wide := ⟨_, rfl⟩
  obtain ⟨n, hn⟩ : ∃ n, n = 9 := ⟨_, rfl⟩
  have hd : F.depth = none := by rw [hF]; rfl
  have hro : F.round = none := by rw [hF]; rfl
  have hf : ∀ k, F.fn k := fun k => by rw [hF]; trivial
  rw [← hF, ← hn]
  clear hF
  have h3 : 3 ≤ n := by omega
  clear hn
  have h1 : 1 ≤ n := by omega
  obtain ⟨i0, hi, hz0, hz1, hz2⟩ := info_parts infoItem
  refine callsIn_of_wp_marks Try.func13 rfl (hf _) ?_ hro
  simp only [Try.ntmps13, List.size_toArray, List.length_cons, List.length_nil, Nat.reduceAdd, Nat.reduceSub, Array.replicate_succ, Array.replicate_zero, List.push_toArray, List.append_toArray, List.nil_append, List.cons_append]
  gi_wp2_with (gi_at_call 34; refine (each_in F (n - 1) (hf _) hro _ _).mono ?_; rintro e w' ⟨rfl, rfl⟩)
  have bO := (Boxed.new w 22 (.slice none 0 0)).alloc (.cells #[.pointer (some ⟨b, q, none⟩)] 29)
  have bN := Boxed.new (w.alloc (.cells #[.slice none 0 0] 22)) 29 (.pointer (some ⟨b, q, none⟩))
  rw [World.size_alloc] at bN
  have hB0 : Below w.heap.size w ((w.alloc (.cells #[.slice none 0 0] 22)).alloc (.cells #[.pointer (some ⟨b, q, none⟩)] 29)) := ((Below.refl _ w).alloc (Nat.le_refl _) _).alloc (by simp) _
  have hsz : ((w.alloc (.cells #[.slice none 0 0] 22)).alloc (.cells #[.pointer (some ⟨b, q, none⟩)] 29)).heap.size = w.heap.size + 2 := by simp
  obtain ⟨W0, hW0⟩ : ∃ W0, (w.alloc (.cells #[.slice none 0 0] 22)).alloc (.cells #[.pointer (some ⟨b, q, none⟩)] 29) = W0 := ⟨_, rfl⟩
  rw [hW0] at bO bN hB0 hsz ⊢
  clear hW0
  refine wpIn_rangeFunc_ownH hro h1 (gf := 56) (lb := #[.pointer (some ⟨w.heap.size + 1, 0, none⟩)]) rfl (hf _) (enters_of Try.func56 (by kernel_rfl) rfl)
    (each_stops F hd (n - 1) (hf _) (hf _) (hf _) hro (w.heap.size + 1) w.heap.size b q v T W0 (by omega) hb (by omega) bN.cell ((hB0.cell (p := ⟨b, q, none⟩) hb).trans hv) (hT.below hB0)) belowK_t (belowK_b (by omega)) (Below.refl _ _) (fun _ => rfl)
    (fun (pre : List It) W => (∃ u, Boxed W w.heap.size 22 u ∧ W.ownsRow w.heap.size 35 7 u pre.length (pre.flatMap encIt) ∧ True) ∧ Below w.heap.size w W)
    (fun _ _ _ => False)
    (OwnFrom.and (Own.from (holdsRow_own w.heap.size w.heap.size 22 35 7 (fun pre : List It => pre.length) (fun pre : List It => pre.flatMap encIt) (fun _ _ => True)) _) (ownFrom_below (Nat.le_refl _) (by omega)))
    (fun _ _ _ _ _ hs _ _ => hs)
    ⟨⟨_, bO, World.ownsRow_nil _ _ _ _, trivial⟩, hB0⟩
    (fun x a' W => ∃ Bx, w.heap.size < Bx ∧ ItBox W Bx x ∧ a' = { tmps := #[.pointer (some ⟨b, q, none⟩), undef, .slice none 0 0, .pointer (some ⟨w.heap.size, 0, none⟩), .pointer (some ⟨Bx, 0, none⟩), .pointer (some ⟨b, q, none⟩), .func (.func 56) #[] #[.pointer (some ⟨w.heap.size + 1, 0, none⟩)], itV x, undef, undef, undef, undef, undef], defers := [] })
    (fun x a' _ X Y row hs hg hr => by
      obtain ⟨Bx, h1, h2, h3⟩ := hs
      refine ⟨Bx, h1, (hg.block Bx h2.lt fun e => ?_).trans h2, h3⟩
      obtain ⟨-, o, ho, hc⟩ := hr Bx e.symm
      rw [show X.heap[Bx]? = _ from h2] at ho; cases ho; cases hc)
    ?assign ?body ?done ?stop
  case assign =>
    rintro l pre x W K ⟨⟨u, hu, hrow, -⟩, hB⟩ hK
    simp only [itV]
    gi_wp2
    exact hK _ _ ((KeepsOthers.alloc _ _).from _) ((Below.refl _ W).alloc hB.size _) ⟨⟨u, hu.alloc _, hrow.alloc _, trivial⟩, hB.alloc hB.size _⟩ ⟨W.heap.size, hu.lt, heap_alloc_new W _, rfl⟩
  case body =>
    rintro l pre x a' W hl - ⟨⟨u, hu, hrow, -⟩, hB⟩ ⟨Bx, hBx, bX, rfl⟩ hlt
    have hc := hu.cell
    obtain ⟨g0, g1, g2, g3, g4, g5, g6⟩ := bX.at
    have hm0 : 1000001 ≤ maxLen := by decide
    have hb1 : pre.length + 1 ≤ maxLen := by omega
    have hb2' : (pre.length + 1) * 72 ≤ 140737488355328 := by omega
    clear hm0
    simp only [itV]
    gi_wp2_with (gi_at_builtin; refine wpListIn_append_own _ rfl _ _ 22 rfl w.heap.size 35 i0 (.agg (itCells it00)) 7 72 Try.underlying22 hi hz0 hz1 hz2 rfl (by decide) _ _ _ rfl (hrow.alloc _) ⟨W.heap.size, 0, none⟩ 1 1 (encIt x) rfl rfl (cells_new W x _) (encIt_ok.one x) hb1 hb2' (by have := hB.size; simp; omega) ?_; intro v' w1 hown' hgrow _; obtain ⟨g', cap', rfl⟩ := ownsRow_succ hown'; obtain ⟨hv1, hv2, hr2, hk2, hb2⟩ := hu.appended (by decide) hrow hB.size (Nat.le_refl _) hown' hgrow; have hc1 := hv1.cell; have hf1 := hv1.frozen)
    exact ⟨hk2.from _, hb2, ⟨⟨_, hv2, by simpa using hr2, trivial⟩, hB.trans hb2⟩⟩
  case done =>
    rintro D ys W hD rfl ⟨⟨u, hu, hrow, -⟩, hB⟩ hK
    have hc := hu.cell
    gi_wp2
    refine ⟨by simp, .inl ⟨_, _, rfl, run_takeDeferred hK, ?_⟩⟩
    exact ⟨_, results_tmp rfl _ _ _, u, rfl, ownsRow_putObj hrow _ hK rfl, hB.trans (belowK_b (w := w) (Nat.le_refl _) W D _ _ (by omega) hK rfl rfl)⟩
  case stop =>
    rintro D c pre W _ _ h _
    exact h.elim
theorem lst_len : ∀ t : Tr, t.lst.length = t.siz
  | .nil => rfl
  | .node l x o r => by
    have h1 := lst_len l
    have h2 := lst_len r
    simp only [Tr.lst, Tr.siz, List.length_append, List.length_cons]; omega
theorem tree_All (t : Tr) (s b : Int) (hs : t.siz ≤ 1000000) : Fn Try.prog 13 [.per (treeP t s b)] (.own 35 7 (t.lst.map itP)) := by
  refine ⟨⟨_, Try.func13, by kernel_rfl, by kernel_rfl⟩, fun N0 w vs _ ha => ?_⟩
  obtain ⟨v, rfl, h1⟩ := args1 ha
  obtain ⟨bb, o, rfl, hb, -, hc⟩ : (treeP t s b).p _ w v := h1
  obtain ⟨y, hy, -, hr⟩ := hc 0 (trP t) rfl
  refine Calls.mono (callsIn_wide.1 (all_in bb o y t (by rw [lst_len]; exact hs) w hb hy (isT_of hr))) ?_
  rintro e w' ⟨u, rfl, hrow, hx⟩
  exact ⟨_, rfl, hx, sl_own encIt_ok (show Own 35 7 encIt w w' u t.lst from ⟨hx, hrow⟩)⟩
end Go.Proofs.Ytpndnlnjgnckdaa
