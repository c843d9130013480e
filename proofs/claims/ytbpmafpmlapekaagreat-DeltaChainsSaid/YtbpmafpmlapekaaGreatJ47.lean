/- Texts joined: ArgsA OpenP OpenRg OpenKn. -/
import Derived.Test.YtbpmafpmlapekaaGreatJ08
import Derived.Test.YtbpmafpmlapekaaGreatJ46
import Derived.Test.YtbpmafpmlapekaaGreatJ13
import Derived.Test.YtbpmafpmlapekaaGreatJ17
namespace Go.Proofs.YtbpmafpmlapekaaGreat
open Go.RowKit
theorem sl_lst {α : Type} {top N : BP} {k : Nat} {enc : α → List Value} (hE : Enc k enc) {l : List α} {w : World} {v : Value} (hN : ∀ b, ¬ top b) (h : Sl k enc w v l) : lstAt top N k (l.map (rawsE enc)) w v := by
  obtain ⟨a, c, b, o, rfl, h1, h2, h3, h0, h4⟩ := h
  refine ⟨a, c, b, o, by rw [List.length_map], by rw [List.length_map]; exact h1, h2, h0, fun hl => ?_, fun i cs hi => ?_⟩
  · rw [List.length_map] at hl
    refine ⟨h3 hl, ?_, hN b⟩
    have hk : 0 < (enc l[0]).length := by rw [hE.len]; exact hE.pos
    have := h4 0 l[0] (by simp [hl]) 0 (enc l[0])[0] (by simp [hk])
    rcases Nat.lt_or_ge b w.heap.size with hb | hb
    · exact hb
    · simp [World.cell?, Array.getElem?_eq_none hb] at this
  · rw [List.getElem?_map] at hi
    cases hx : l[i]? with
    | none => rw [hx] at hi; cases hi
    | some x =>
      rw [hx] at hi; cases hi
      refine ⟨by unfold rawsE; rw [List.length_map, hE.len], fun j A hj => ?_⟩
      unfold rawsE at hj
      rw [List.getElem?_map] at hj
      cases hy : (enc x)[j]? with
      | none => rw [hy] at hj; cases hj
      | some y =>
        rw [hy] at hj; cases hj
        exact ⟨y, h4 i x hx j y hy, hE.one x y (List.mem_of_getElem? hy), rfl⟩
def cx (w : World) : Ctx := ⟨w, fun _ => False, fun _ => False, g0⟩
abbrev In (w : World) (v : Value) (c : Cnt) : Prop := crep (cx w) (fun _ => 0) g0 w v c
theorem in_raw {w : World} {v : Value} : In w v (.per (rawP v)) := rfl
theorem in_lst {α : Type} {k : Nat} {enc : α → List Value} (hE : Enc k enc) {l : List α} {w : World} {v : Value} (h : Sl k enc w v l) : In w v (.per (lstP k (l.map (rawsE enc)))) :=
  sl_lst hE (fun _ hb => hb.elim id (fun h => h rfl)) h
theorem in_agg {w : World} {vs : List Value} (h : ∀ u ∈ vs, u.oneCell' = true) : In w (.agg vs.toArray) (.per (aggP (vs.map rawP))) := by
  refine ⟨vs.toArray, rfl, by simp, fun j A hj => ?_⟩
  rw [List.getElem?_map] at hj
  cases hv : vs[j]? with
  | none => rw [hv] at hj; cases hj
  | some y =>
    rw [hv] at hj; cases hj
    exact ⟨y, by simpa using hv, h y (List.mem_of_getElem? hv), rfl⟩
theorem run1 {P : Program} {f : FuncId} {c : Cnt} {w : World} {v : Value} (h : Fn P f [c] (.per (rawP (.bool true)))) (h0 : In w v c) : Calls P f #[v] w fun e w' => e = .returned (.bool true) ∧ Ext w w' := by
  refine (h.run (fun _ => False) w [v] (fun _ hb => hb.elim) ⟨rfl, fun i u d hi hj => ?_⟩).mono ?_
  · match i, hi, hj with
    | 0, hi, hj => cases hi; cases hj; exact h0
    | _ + 1, hi, _ => simp at hi
  · rintro e w' ⟨u, rfl, hx, hu⟩
    have hu : u = .bool true := hu
    exact ⟨by rw [hu], hx⟩
theorem run2 {P : Program} {f : FuncId} {c d : Cnt} {w : World} {v v' : Value} (h : Fn P f [c, d] (.per (rawP (.bool true)))) (h0 : In w v c) (h1 : In w v' d) : Calls P f #[v, v'] w fun e w' => e = .returned (.bool true) ∧ Ext w w' := by
  refine (h.run (fun _ => False) w [v, v'] (fun _ hb => hb.elim) ⟨rfl, fun i u d hi hj => ?_⟩).mono ?_
  · match i, hi, hj with
    | 0, hi, hj => cases hi; cases hj; exact h0
    | 1, hi, hj => cases hi; cases hj; exact h1
    | _ + 2, hi, _ => simp at hi
  · rintro e w' ⟨u, rfl, hx, hu⟩
    have hu : u = .bool true := hu
    exact ⟨by rw [hu], hx⟩
theorem run3 {P : Program} {f : FuncId} {c d d' : Cnt} {w : World} {v v' v'' : Value} (h : Fn P f [c, d, d'] (.per (rawP (.bool true)))) (h0 : In w v c) (h1 : In w v' d) (h2 : In w v'' d') : Calls P f #[v, v', v''] w fun e w' => e = .returned (.bool true) ∧ Ext w w' := by
  refine (h.run (fun _ => False) w [v, v', v''] (fun _ hb => hb.elim) ⟨rfl, fun i u d hi hj => ?_⟩).mono ?_
  · match i, hi, hj with
    | 0, hi, hj => cases hi; cases hj; exact h0
    | 1, hi, hj => cases hi; cases hj; exact h1
    | 2, hi, hj => cases hi; cases hj; exact h2
    | _ + 3, hi, _ => simp at hi
  · rintro e w' ⟨u, rfl, hx, hu⟩
    have hu : u = .bool true := hu
    exact ⟨by rw [hu], hx⟩
end Go.Proofs.YtbpmafpmlapekaaGreat
namespace Go.Proofs.YtbpmafpmlapekaaGreat
open Go.RowKit
abbrev NIn (w : World) : BP := g0.N (cx w)
/-- cells that read as y is written -/
def Wr {β : Type} (w : World) (k : Nat) (f : β → List PV) (cs : List Value) (y : β) : Prop :=
  cs.length = k ∧ (f y).length = k ∧ ∀ (j : Nat) (A : PV) (u : Value), (f y)[j]? = some A → cs[j]? = some u → u.oneCell' = true ∧ A.p (NIn w) w u
def RdP {β : Type} (P : Program) (w : World) (t : TypeId) (k : Nat) (f : β → List PV) (Q : β → Prop) : Prop := Rd P w t (fun cs => ∃ y : β, Q y ∧ Wr w k f cs y)
section
variable {P : Program} {w : World} {t e : TypeId} {β : Type} {k : Nat} {f : β → List PV} {Q : β → Prop}
theorem Wr.ones {cs : List Value} {y : β} (h : Wr w k f cs y) : ∀ u ∈ cs, u.oneCell' = true := fun u hu => by
  obtain ⟨j, hj, rfl⟩ := List.getElem_of_mem hu
  have hj' : j < (f y).length := by have := h.1; have := h.2.1; omega
  exact (h.2.2 j _ _ (List.getElem?_eq_getElem hj') (List.getElem?_eq_getElem hj)).1
theorem RdP.slice (h : RdP P w e k f Q) (ht : P.underlying t = some (.slice e)) (hk : P.cellsOf e = k) (hk0 : 0 < k) :
    Rd P w t (fun cs => ∃ (v : Value) (l : List β), cs = [v] ∧ (lstP k (l.map f)).p (NIn w) w v ∧ ∀ y ∈ l, Q y) := by
  refine (Rd.slice (α := { cs : List Value // cs.length = k ∧ ∀ u ∈ cs, u.oneCell' = true }) (enc := fun x => x.1) (G := fun x => ∃ y : β, Q y ∧ Wr w k f x.1 y) ht hk hk0 h fun cs ⟨y, h1, h2⟩ => ⟨⟨cs, h2.1, h2.ones⟩, rfl, y, h1, h2⟩).mono ?_
  rintro cs ⟨v, lv, rfl, ⟨a, c, b, o, rfl, h1, h2, h3, h0, h4⟩, hG⟩
  obtain ⟨l, hl, hg⟩ := list_of_each (G := fun i y => ∀ (h : i < lv.length), Q y ∧ Wr w k f lv[i].1 y) lv.length (fun i hi => by
    obtain ⟨y, q1, q2⟩ := hG lv[i] (List.getElem_mem hi)
    exact ⟨y, fun _ => ⟨q1, q2⟩⟩)
  refine ⟨_, l, rfl, ⟨a, c, b, o, by rw [List.length_map, hl], by rw [List.length_map, hl]; exact h1, h2, h0, fun hn => ?_, fun i cs hi => ?_⟩, fun y hy => ?_⟩
  · rw [List.length_map, hl] at hn
    refine ⟨h3 hn, ?_, fun hb => hb.elim id (fun h => h rfl)⟩
    have hp := lv[0].2.1
    have := h4 0 lv[0] (by simp [hn]) 0 (lv[0].1[0]'(by omega)) (by simp)
    rcases Nat.lt_or_ge b w.heap.size with hb | hb
    · exact hb
    · simp [World.cell?, Array.getElem?_eq_none hb] at this
  · rw [List.getElem?_map] at hi
    cases hx : l[i]? with
    | none => rw [hx] at hi; cases hi
    | some y =>
      rw [hx] at hi; cases hi
      have hil : i < lv.length := by
        have := (List.getElem?_eq_some_iff.1 hx).1; omega
      obtain ⟨_, q1, q2, q3⟩ := hg i y hx hil
      refine ⟨q2, fun j A hj => ?_⟩
      have hjk : j < lv[i].1.length := by
        have := (List.getElem?_eq_some_iff.1 hj).1; omega
      obtain ⟨r1, r2⟩ := q3 j A _ hj (List.getElem?_eq_getElem hjk)
      exact ⟨_, h4 i lv[i] (List.getElem?_eq_getElem hil) j _ (List.getElem?_eq_getElem hjk), r1, r2⟩
  · obtain ⟨i, hi, rfl⟩ := List.getElem_of_mem hy
    exact (hg i _ (List.getElem?_eq_getElem hi) (by omega)).1
theorem RdP.arg {v : Value} (h : RdP P w e k f Q) (hA : Arg P w t v) (ht : P.underlying t = some (.slice e)) (hk : P.cellsOf e = k) (hk0 : 0 < k) :
    ∃ l : List β, In w v (.per (lstP k (l.map f))) ∧ ∀ y ∈ l, Q y :=
  hA.slice (Q := fun v => ∃ l : List β, In w v (.per (lstP k (l.map f))) ∧ ∀ y ∈ l, Q y) ht ((h.slice ht hk hk0).mono fun _ ⟨v, l, h1, h2, h3⟩ => ⟨v, h1, l, h2, h3⟩)
/-- flat things -/
theorem RdP.flat {enc : β → List Value} (hE : Enc k enc) (h : Rd P w e (fun cs => ∃ y, cs = enc y ∧ Q y)) : RdP P w e k (rawsE enc) Q :=
  h.mono fun cs ⟨y, h1, h2⟩ => ⟨y, h2, by rw [h1, hE.len], by unfold rawsE; rw [List.length_map, hE.len], fun j A u hj hu => by
    unfold rawsE at hj
    rw [List.getElem?_map] at hj
    rw [h1] at hu
    rw [hu] at hj; cases hj
    exact ⟨hE.one y u (List.mem_of_getElem? hu), rfl⟩⟩
/-- lists of lists -/
theorem RdP.lists {s : TypeId} (h : RdP P w s k f Q) (ht : P.underlying e = some (.slice s)) (hk : P.cellsOf s = k) (hk0 : 0 < k) : RdP P w e 1 (fun l : List β => [lstP k (l.map f)]) (fun l => ∀ y ∈ l, Q y) :=
  (h.slice ht hk hk0).mono fun cs ⟨v, l, h1, h2, h3⟩ => ⟨l, h3, by rw [h1]; rfl, rfl, fun j A u hj hu => by
    subst h1
    match j, hj, hu with
    | 0, hj, hu => cases hj; cases hu; exact ⟨by obtain ⟨a, c, b, o, rfl, _⟩ := h2; rfl, h2⟩
    | _ + 1, hj, _ => simp at hj⟩
end
end Go.Proofs.YtbpmafpmlapekaaGreat
namespace Go.Proofs.YtbpmafpmlapekaaGreat
open Go.RowKit
theorem list3 {α : Type} (l : List α) (h : l.length = 3) : ∃ a b c, l = [a, b, c] := by
  match l, h with | [a, b, c], _ => exact ⟨a, b, c, rfl⟩
theorem list4 {α : Type} (l : List α) (h : l.length = 4) : ∃ a b c d, l = [a, b, c, d] := by
  match l, h with | [a, b, c, d], _ => exact ⟨a, b, c, d, rfl⟩
def RgWf (x : Rg) : Prop := x.lo.size ≤ maxLen ∧ x.hi.size ≤ maxLen
def NdWf (x : Nd) : Prop := x.lo.size ≤ maxLen ∧ x.hi.size ≤ maxLen ∧ (Lit.int .i64 x.op).wf = true ∧ (Lit.int .i64 x.kids).wf = true
theorem rdRg (w : World) : Rd Tryz.prog w 45 (fun cs => ∃ x, cs = encRg x ∧ RgWf x) := by
  refine (Rd.struct' Tryz.underlying45).mono ?_
  rintro cs ⟨hl, hf⟩
  obtain ⟨c0, c1, c2, rfl⟩ := list3 cs (hl.trans (by kernel_rfl))
  obtain ⟨s0, h0, w0⟩ := hf 0 0 9 1 _ rfl (by kernel_rfl) (Rd.string Tryz.underlying9)
  obtain ⟨s1, h1, w1⟩ := hf 1 1 9 1 _ rfl (by kernel_rfl) (Rd.string Tryz.underlying9)
  obtain ⟨b2, h2⟩ := hf 2 2 4 1 _ rfl (by kernel_rfl) (Rd.bool Tryz.underlying4)
  simp at h0 h1 h2
  subst h0 h1 h2
  exact ⟨⟨s0, s1, b2⟩, rfl, w0, w1⟩
theorem Arg.ranges {w : World} {v : Value} (h : Arg Tryz.prog w 59 v) : ∃ l, Sl 3 encRg w v l ∧ ∀ x ∈ l, RgWf x :=
  h.flats Tryz.underlying59 (by kernel_rfl) (by decide) (rdRg w) fun cs ⟨x, h1, h2⟩ => ⟨x, h1, h2⟩
theorem Arg.range {w : World} {v : Value} (h : Arg Tryz.prog w 45 v) : ∃ x, v = .agg (encRg x).toArray ∧ RgWf x := by
  obtain ⟨cs, rfl⟩ := h.cells (by rw [Tryz.underlying45])
  obtain ⟨x, h1, h2⟩ := h.rd _ (rdRg w)
  refine ⟨x, ?_, h2⟩
  rw [← h1]; simp [Value.cells]
end Go.Proofs.YtbpmafpmlapekaaGreat
namespace Go.Proofs.YtbpmafpmlapekaaGreat
open Go.RowKit
theorem rdRn (w : World) : Rd Tryz.prog w 102 (fun cs => ∃ x, cs = encRn x ∧ True) := by
  refine (Rd.struct' Tryz.underlying102).mono ?_
  rintro cs ⟨hl, hf⟩
  obtain ⟨c0, c1, rfl⟩ := list2 cs (hl.trans (by kernel_rfl))
  obtain ⟨n0, h0, w0⟩ := hf 0 0 3 1 _ rfl (by kernel_rfl) (Rd.int Tryz.underlying3)
  obtain ⟨n1, h1, w1⟩ := hf 1 1 3 1 _ rfl (by kernel_rfl) (Rd.int Tryz.underlying3)
  simp at h0 h1
  subst h0 h1
  exact ⟨⟨n0, n1⟩, rfl, trivial⟩
theorem rdpRn (w : World) : RdP Tryz.prog w 102 2 rnP (fun _ => True) := RdP.flat encRn_ok (rdRn w)
theorem rdpKn (w : World) : RdP Tryz.prog w 64 2 knP (fun _ => True) := by
  refine (Rd.struct' Tryz.underlying64).mono ?_
  rintro cs ⟨hl, hf⟩
  obtain ⟨c0, c1, rfl⟩ := list2 cs (hl.trans (by kernel_rfl))
  obtain ⟨n0, h0, w0⟩ := hf 0 0 3 1 _ rfl (by kernel_rfl) (Rd.int Tryz.underlying3)
  obtain ⟨v, l, h1, h2, _⟩ := hf 1 1 62 1 _ rfl (by kernel_rfl) ((rdpRn w).slice Tryz.underlying62 (by kernel_rfl) (by decide))
  simp at h0 h1
  subst h0 h1
  refine ⟨⟨n0, l⟩, trivial, rfl, rfl, fun j A u hj hu => ?_⟩
  match j, hj, hu with
  | 0, hj, hu => cases hj; cases hu; exact ⟨rfl, rfl⟩
  | 1, hj, hu => cases hj; cases hu; exact ⟨by obtain ⟨a, c, b, o, rfl, _⟩ := h2; rfl, h2⟩
  | _ + 2, hj, _ => simp at hj
theorem Arg.knowns {w : World} {v : Value} (h : Arg Tryz.prog w 46 v) : ∃ l : List Kn, In w v (.per (knsP l)) ∧ ∀ y ∈ l, True :=
  (rdpKn w).arg h Tryz.underlying46 (by kernel_rfl) (by decide)
theorem rdpPc (w : World) : RdP Tryz.prog w 48 4 pcP (fun p => RgWf p.rg) := by
  refine (Rd.struct' Tryz.underlying48).mono ?_
  rintro cs ⟨hl, hf⟩
  obtain ⟨c0, c1, c2, c3, rfl⟩ := list4 cs (hl.trans (by kernel_rfl))
  obtain ⟨r, h0, w0⟩ := hf 0 0 45 3 _ rfl (by kernel_rfl) (rdRg w)
  obtain ⟨v, l, h1, h2, _⟩ := hf 1 3 46 1 _ rfl (by kernel_rfl) ((rdpKn w).slice Tryz.underlying46 (by kernel_rfl) (by decide))
  simp [encRg] at h0 h1
  obtain ⟨rfl, rfl, rfl⟩ := h0
  subst h1
  refine ⟨⟨r, l⟩, w0, rfl, rfl, fun j A u hj hu => ?_⟩
  match j, hj, hu with
  | 0, hj, hu => cases hj; cases hu; exact ⟨rfl, rfl⟩
  | 1, hj, hu => cases hj; cases hu; exact ⟨rfl, rfl⟩
  | 2, hj, hu => cases hj; cases hu; exact ⟨rfl, rfl⟩
  | 3, hj, hu => cases hj; cases hu; exact ⟨by obtain ⟨a, c, b, o, rfl, _⟩ := h2; rfl, h2⟩
  | _ + 4, hj, _ => simp at hj
theorem Arg.pieces {w : World} {v : Value} (h : Arg Tryz.prog w 22 v) : ∃ l : List Pc, In w v (.per (pcsP l)) ∧ ∀ p ∈ l, RgWf p.rg :=
  (rdpPc w).arg h Tryz.underlying22 (by kernel_rfl) (by decide)
end Go.Proofs.YtbpmafpmlapekaaGreat
