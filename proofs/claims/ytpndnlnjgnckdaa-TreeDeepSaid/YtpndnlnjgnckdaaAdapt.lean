/- Contracts of the elder kind, said as the abstract walks use them. -/
import Derived.Test.YtpndnlnjgnckdaaAbsT
namespace Go.Proofs.Ytpndnlnjgnckdaa
open Go.RowKit

def rawsE {α : Type} (enc : α → List Value) (x : α) : List PV := (enc x).map rawP
theorem lst_sl {α : Type} {top N : BP} {k : Nat} {enc : α → List Value} {l : List α} {w : World} {v : Value} (h : lstAt top N k (l.map (rawsE enc)) w v) : Sl k enc w v l := by
  obtain ⟨ad, c, b, of, h1, h2, h3, h4, h5, h6⟩ := h
  simp only [List.length_map] at h1 h2 h5
  refine ⟨ad, c, b, of, h1, h2, h3, fun h0 => (h5 h0).1, h4, fun i x hx j y hy => ?_⟩
  obtain ⟨_, q⟩ := h6 i (rawsE enc x) (by rw [List.getElem?_map, hx]; rfl)
  obtain ⟨u, r1, _, r3⟩ := q j (rawP y) (by unfold rawsE; rw [List.getElem?_map, hy]; rfl)
  have r3 : u = y := r3
  subst r3; exact r1
theorem sl_own {α : Type} {e k : Nat} {enc : α → List Value} (hE : Enc k enc) {N0 : BP} {w w' : World} {v : Value} {l : List α} (h : Own e k enc w w' v l) : (Ret.own e k (l.map (rawsE enc))).rep N0 w w' v := by
  obtain ⟨_, hl, h2⟩ := h
  rcases h2 with ⟨h3, h4⟩ | ⟨q, cap, cs, h3, h4, h5, h6, h7, h8, h9⟩
  · exact .inl ⟨h3, by rw [List.eq_nil_of_length_eq_zero h4]; rfl⟩
  · refine .inr ⟨q, cap, cs, by rw [List.length_map]; exact h3, h4, h5, by rw [List.length_map]; exact h6, h7, h8, fun i ps hi => ?_⟩
    rw [List.getElem?_map] at hi
    cases hx : l[i]? with
    | none => rw [hx] at hi; cases hi
    | some x =>
      rw [hx] at hi; cases hi
      refine ⟨by unfold rawsE; rw [List.length_map, hE.len], fun j A hj => ?_⟩
      unfold rawsE at hj
      rw [List.getElem?_map] at hj
      cases hy : (enc x)[j]? with
      | none => rw [hy] at hj; cases hj
      | some y =>
        rw [hy] at hj; cases hj
        have hf := flatMap_get k enc hE.len l i x hx j y hy
        refine ⟨y, ?_, hE.one x y (List.mem_of_getElem? hy), rfl⟩
        rw [← h9, List.getElem?_take] at hf
        split at hf
        · simpa using hf
        · cases hf
/-- one argument, two, three -/
theorem args1 {N0 : BP} {w : World} {vs : List Value} {c : Cnt} (h : argsRep N0 w vs [c]) : ∃ v, vs = [v] ∧ crep ⟨w, N0, fun _ => False, g0⟩ (fun _ => 0) g0 w v c := by
  obtain ⟨h1, h2⟩ := h
  match vs, h1 with
  | [v], _ => exact ⟨v, rfl, h2 0 v c rfl rfl⟩
theorem args2 {N0 : BP} {w : World} {vs : List Value} {c d : Cnt} (h : argsRep N0 w vs [c, d]) : ∃ v u, vs = [v, u] ∧ crep ⟨w, N0, fun _ => False, g0⟩ (fun _ => 0) g0 w v c ∧ crep ⟨w, N0, fun _ => False, g0⟩ (fun _ => 0) g0 w u d := by
  obtain ⟨h1, h2⟩ := h
  match vs, h1 with
  | [v, u], _ => exact ⟨v, u, rfl, h2 0 v c rfl rfl, h2 1 u d rfl rfl⟩
theorem args3 {N0 : BP} {w : World} {vs : List Value} {c d e : Cnt} (h : argsRep N0 w vs [c, d, e]) : ∃ v u x, vs = [v, u, x] ∧ crep ⟨w, N0, fun _ => False, g0⟩ (fun _ => 0) g0 w v c ∧ crep ⟨w, N0, fun _ => False, g0⟩ (fun _ => 0) g0 w u d ∧ crep ⟨w, N0, fun _ => False, g0⟩ (fun _ => 0) g0 w x e := by
  obtain ⟨h1, h2⟩ := h
  match vs, h1 with
  | [v, u, x], _ => exact ⟨v, u, x, rfl, h2 0 v c rfl rfl, h2 1 u d rfl rfl, h2 2 x e rfl rfl⟩
abbrev boR (b : Bool) : Ret := .per (rawP (.bool b))
abbrev inR (n : Int) : Ret := .per (rawP (.int .i64 n))
abbrev bytesB (l : List UInt8) : Cnt := .bor 1 (l.map byteP)
abbrev intsB (l : List Int) : Cnt := .bor 1 (l.map intP)
abbrev strsB (l : List ByteArray) : Cnt := .bor 1 (l.map strP)
theorem byteP_eq : (byteP : UInt8 → List PV) = rawsE encB := rfl
theorem intP_eq : (intP : Int → List PV) = rawsE encI := rfl
theorem strP_eq : (strP : ByteArray → List PV) = rawsE encS := rfl
end Go.Proofs.Ytpndnlnjgnckdaa
