/- Lists in lists that came in: general. -/
import Derived.Test.YtbpmafpmlapekaaArgsA
namespace Go.Proofs.Ytbpmafpmlapekaa
open Go.RowKit
abbrev NIn (w : World) : BP := g0.N (cx w)
/-- cells that read as y is written -/
def Wr {β : Type} (w : World) (k : Nat) (f : β → List PV) (cs : List Value) (y : β) : Prop :=
  cs.length = k ∧ (f y).length = k ∧ ∀ (j : Nat) (A : PV) (u : Value), (f y)[j]? = some A → cs[j]? = some u → u.oneCell' = true ∧ A.p (NIn w) w u
def RdP {β : Type} (P : Program) (w : World) (t : TypeId) (k : Nat) (f : β → List PV) (Q : β → Prop) : Prop := Rd P w t (fun cs => ∃ y : β, Q y ∧ Wr w k f cs y)
section
variable {P : Program} {w : World} {t e : TypeId} {β : Type} {k : Nat} {f : β → List PV} {Q : β → Prop}
theorem Wr.ones {cs : List Value} {y : β} (h : Wr w k f cs y) : ∀ u ∈ cs, u.oneCell' = true := fun u hu => by
  obtain ⟨j, hj, rfl⟩ := List.getElem_of_mem hu
  have hj' : j < (f y).length := by have := h.1; have := h.2.1; omega
  exact (h.2.2 j _ _ (List.getElem?_eq_getElem hj') (List.getElem?_eq_getElem hj)).1
theorem RdP.slice (h : RdP P w e k f Q) (ht : P.underlying t = some (.slice e)) (hk : P.cellsOf e = k) (hk0 : 0 < k) :
    Rd P w t (fun cs => ∃ (v : Value) (l : List β), cs = [v] ∧ (lstP k (l.map f)).p (NIn w) w v ∧ ∀ y ∈ l, Q y) := by
  refine (Rd.slice (α := { cs : List Value // cs.length = k ∧ ∀ u ∈ cs, u.oneCell' = true }) (enc := fun x => x.1) (G := fun x => ∃ y : β, Q y ∧ Wr w k f x.1 y) ht hk hk0 h fun cs ⟨y, h1, h2⟩ => ⟨⟨cs, h2.1, h2.ones⟩, rfl, y, h1, h2⟩).mono ?_
  rintro cs ⟨v, lv, rfl, ⟨a, c, b, o, rfl, h1, h2, h3, h0, h4⟩, hG⟩
  obtain ⟨l, hl, hg⟩ := list_of_each (G := fun i y => ∀ (h : i < lv.length), Q y ∧ Wr w k f lv[i].1 y) lv.length (fun i hi => by
    obtain ⟨y, q1, q2⟩ := hG lv[i] (List.getElem_mem hi)
    exact ⟨y, fun _ => ⟨q1, q2⟩⟩)
  refine ⟨_, l, rfl, ⟨a, c, b, o, by rw [List.length_map, hl], by rw [List.length_map, hl]; exact h1, h2, h0, fun hn => ?_, fun i cs hi => ?_⟩, fun y hy => ?_⟩
  · rw [List.length_map, hl] at hn
    refine ⟨h3 hn, ?_, fun hb => hb.elim id (fun h => h rfl)⟩
    have hp := lv[0].2.1
    have := h4 0 lv[0] (by simp [hn]) 0 (lv[0].1[0]'(by omega)) (by simp)
    rcases Nat.lt_or_ge b w.heap.size with hb | hb
    · exact hb
    · simp [World.cell?, Array.getElem?_eq_none hb] at this
  · rw [List.getElem?_map] at hi
    cases hx : l[i]? with
    | none => rw [hx] at hi; cases hi
    | some y =>
      rw [hx] at hi; cases hi
      have hil : i < lv.length := by
        have := (List.getElem?_eq_some_iff.1 hx).1; omega
      obtain ⟨_, q1, q2, q3⟩ := hg i y hx hil
      refine ⟨q2, fun j A hj => ?_⟩
      have hjk : j < lv[i].1.length := by
        have := (List.getElem?_eq_some_iff.1 hj).1; omega
      obtain ⟨r1, r2⟩ := q3 j A _ hj (List.getElem?_eq_getElem hjk)
      exact ⟨_, h4 i lv[i] (List.getElem?_eq_getElem hil) j _ (List.getElem?_eq_getElem hjk), r1, r2⟩
  · obtain ⟨i, hi, rfl⟩ := List.getElem_of_mem hy
    exact (hg i _ (List.getElem?_eq_getElem hi) (by omega)).1
theorem RdP.arg {v : Value} (h : RdP P w e k f Q) (hA : Arg P w t v) (ht : P.underlying t = some (.slice e)) (hk : P.cellsOf e = k) (hk0 : 0 < k) :
    ∃ l : List β, In w v (.per (lstP k (l.map f))) ∧ ∀ y ∈ l, Q y :=
  hA.slice (Q := fun v => ∃ l : List β, In w v (.per (lstP k (l.map f))) ∧ ∀ y ∈ l, Q y) ht ((h.slice ht hk hk0).mono fun _ ⟨v, l, h1, h2, h3⟩ => ⟨v, h1, l, h2, h3⟩)
/-- flat things -/
theorem RdP.flat {enc : β → List Value} (hE : Enc k enc) (h : Rd P w e (fun cs => ∃ y, cs = enc y ∧ Q y)) : RdP P w e k (rawsE enc) Q :=
  h.mono fun cs ⟨y, h1, h2⟩ => ⟨y, h2, by rw [h1, hE.len], by unfold rawsE; rw [List.length_map, hE.len], fun j A u hj hu => by
    unfold rawsE at hj
    rw [List.getElem?_map] at hj
    rw [h1] at hu
    rw [hu] at hj; cases hj
    exact ⟨hE.one y u (List.mem_of_getElem? hu), rfl⟩⟩
/-- lists of lists -/
theorem RdP.lists {s : TypeId} (h : RdP P w s k f Q) (ht : P.underlying e = some (.slice s)) (hk : P.cellsOf s = k) (hk0 : 0 < k) : RdP P w e 1 (fun l : List β => [lstP k (l.map f)]) (fun l => ∀ y ∈ l, Q y) :=
  (h.slice ht hk hk0).mono fun cs ⟨v, l, h1, h2, h3⟩ => ⟨l, h3, by rw [h1]; rfl, rfl, fun j A u hj hu => by
    subst h1
    match j, hj, hu with
    | 0, hj, hu => cases hj; cases hu; exact ⟨by obtain ⟨a, c, b, o, rfl, _⟩ := h2; rfl, h2⟩
    | _ + 1, hj, _ => simp at hj⟩
end
end Go.Proofs.Ytbpmafpmlapekaa
