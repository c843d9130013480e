/- Arguments that come in, as the abstract walks take them. -/
import Derived.Test.YtpndnlnjgnckdaaAdapt
import Derived.Test.YtpndnlnjgnckdaaOpenIt
namespace Go.Proofs.Ytpndnlnjgnckdaa
open Go.RowKit
theorem sl_lst {α : Type} {top N : BP} {k : Nat} {enc : α → List Value} (hE : Enc k enc) {l : List α} {w : World} {v : Value} (hN : ∀ b, ¬ top b) (h : Sl k enc w v l) : lstAt top N k (l.map (rawsE enc)) w v := by
  obtain ⟨a, c, b, o, rfl, h1, h2, h3, h0, h4⟩ := h
  refine ⟨a, c, b, o, by rw [List.length_map], by rw [List.length_map]; exact h1, h2, h0, fun hl => ?_, fun i cs hi => ?_⟩
  · rw [List.length_map] at hl
    refine ⟨h3 hl, ?_, hN b⟩
    have hk : 0 < (enc l[0]).length := by rw [hE.len]; exact hE.pos
    have := h4 0 l[0] (by simp [hl]) 0 (enc l[0])[0] (by simp [hk])
    rcases Nat.lt_or_ge b w.heap.size with hb | hb
    · exact hb
    · simp [World.cell?, Array.getElem?_eq_none hb] at this
  · rw [List.getElem?_map] at hi
    cases hx : l[i]? with
    | none => rw [hx] at hi; cases hi
    | some x =>
      rw [hx] at hi; cases hi
      refine ⟨by unfold rawsE; rw [List.length_map, hE.len], fun j A hj => ?_⟩
      unfold rawsE at hj
      rw [List.getElem?_map] at hj
      cases hy : (enc x)[j]? with
      | none => rw [hy] at hj; cases hj
      | some y =>
        rw [hy] at hj; cases hj
        exact ⟨y, h4 i x hx j y hy, hE.one x y (List.mem_of_getElem? hy), rfl⟩
def cx (w : World) : Ctx := ⟨w, fun _ => False, fun _ => False, g0⟩
abbrev In (w : World) (v : Value) (c : Cnt) : Prop := crep (cx w) (fun _ => 0) g0 w v c
theorem in_raw {w : World} {v : Value} : In w v (.per (rawP v)) := rfl
theorem in_lst {α : Type} {k : Nat} {enc : α → List Value} (hE : Enc k enc) {l : List α} {w : World} {v : Value} (h : Sl k enc w v l) : In w v (.per (lstP k (l.map (rawsE enc)))) :=
  sl_lst hE (fun _ hb => hb.elim id (fun h => h rfl)) h
theorem in_agg {w : World} {vs : List Value} (h : ∀ u ∈ vs, u.oneCell' = true) : In w (.agg vs.toArray) (.per (aggP (vs.map rawP))) := by
  refine ⟨vs.toArray, rfl, by simp, fun j A hj => ?_⟩
  rw [List.getElem?_map] at hj
  cases hv : vs[j]? with
  | none => rw [hv] at hj; cases hj
  | some y =>
    rw [hv] at hj; cases hj
    exact ⟨y, by simpa using hv, h y (List.mem_of_getElem? hv), rfl⟩
theorem run1 {P : Program} {f : FuncId} {c : Cnt} {w : World} {v : Value} (h : Fn P f [c] (.per (rawP (.bool true)))) (h0 : In w v c) : Calls P f #[v] w fun e w' => e = .returned (.bool true) ∧ Ext w w' := by
  refine (h.run (fun _ => False) w [v] (fun _ hb => hb.elim) ⟨rfl, fun i u d hi hj => ?_⟩).mono ?_
  · match i, hi, hj with
    | 0, hi, hj => cases hi; cases hj; exact h0
    | _ + 1, hi, _ => simp at hi
  · rintro e w' ⟨u, rfl, hx, hu⟩
    have hu : u = .bool true := hu
    exact ⟨by rw [hu], hx⟩
theorem run2 {P : Program} {f : FuncId} {c d : Cnt} {w : World} {v v' : Value} (h : Fn P f [c, d] (.per (rawP (.bool true)))) (h0 : In w v c) (h1 : In w v' d) : Calls P f #[v, v'] w fun e w' => e = .returned (.bool true) ∧ Ext w w' := by
  refine (h.run (fun _ => False) w [v, v'] (fun _ hb => hb.elim) ⟨rfl, fun i u d hi hj => ?_⟩).mono ?_
  · match i, hi, hj with
    | 0, hi, hj => cases hi; cases hj; exact h0
    | 1, hi, hj => cases hi; cases hj; exact h1
    | _ + 2, hi, _ => simp at hi
  · rintro e w' ⟨u, rfl, hx, hu⟩
    have hu : u = .bool true := hu
    exact ⟨by rw [hu], hx⟩
theorem run3 {P : Program} {f : FuncId} {c d d' : Cnt} {w : World} {v v' v'' : Value} (h : Fn P f [c, d, d'] (.per (rawP (.bool true)))) (h0 : In w v c) (h1 : In w v' d) (h2 : In w v'' d') : Calls P f #[v, v', v''] w fun e w' => e = .returned (.bool true) ∧ Ext w w' := by
  refine (h.run (fun _ => False) w [v, v', v''] (fun _ hb => hb.elim) ⟨rfl, fun i u d hi hj => ?_⟩).mono ?_
  · match i, hi, hj with
    | 0, hi, hj => cases hi; cases hj; exact h0
    | 1, hi, hj => cases hi; cases hj; exact h1
    | 2, hi, hj => cases hi; cases hj; exact h2
    | _ + 3, hi, _ => simp at hi
  · rintro e w' ⟨u, rfl, hx, hu⟩
    have hu : u = .bool true := hu
    exact ⟨by rw [hu], hx⟩
end Go.Proofs.Ytpndnlnjgnckdaa
