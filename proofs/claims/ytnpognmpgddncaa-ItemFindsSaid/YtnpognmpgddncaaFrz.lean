/- A row that is handed back, as one who only reads it sees it. No program in sight. -/
import Derived.Test.YtnpognmpgddncaaAbsX
namespace Go.Proofs.Ytnpognmpgddncaa
open Go.RowKit
def Ret.frz : Ret → Ret
  | .per A => .per A
  | .own _ k es => .per (lstP k es)
  | .tup2 c d => .tup2 c.frz d.frz
  | .tup3 c d e => .tup3 c.frz d.frz e.frz
theorem Ret.frz_rep {N0 : BP} {w w' : World} (hN : ∀ b, N0 b → b < w.heap.size) : ∀ {r : Ret} {v : Value}, r.rep N0 w w' v → r.frz.rep N0 w w' v := by
  intro r
  induction r with
  | per A => intro v h; exact h
  | own e k es =>
    intro v h
    show lstAt N0 N0 k es w' v
    rcases h with ⟨rfl, rfl⟩ | ⟨q, cap, cs, rfl, hq, hh, h1, h2, h3, h4⟩
    · exact ⟨none, 0, 0, 0, rfl, by simp, by decide, fun _ => rfl, by simp, fun i cs hi => by simp at hi⟩
    · have hlt : q < w'.heap.size := by
        rcases Nat.lt_or_ge q w'.heap.size with h | h
        · exact h
        · rw [Array.getElem?_eq_none h] at hh; cases hh
      refine ⟨_, cap, q, 0, rfl, h1, h2, by simp, fun _ => ⟨rfl, hlt, fun hn => by have := hN q hn; omega⟩, fun i ps hi => ?_⟩
      obtain ⟨r1, r2⟩ := h4 i ps hi
      refine ⟨r1, fun j A hj => ?_⟩
      obtain ⟨y, s1, s2, s3⟩ := r2 j A hj
      exact ⟨y, by rw [Nat.zero_add, cell_at hh]; exact s1, s2, A.mono (Nat.le_refl _) (fun _ _ _ => rfl) (fun b _ hb => .inl hb) s3⟩
  | tup2 c d ih1 ih2 => rintro v ⟨x, y, rfl, h1, h2⟩; exact ⟨x, y, rfl, ih1 h1, ih2 h2⟩
  | tup3 c d e ih1 ih2 ih3 => rintro v ⟨x, y, z, rfl, h1, h2, h3⟩; exact ⟨x, y, z, rfl, ih1 h1, ih2 h2, ih3 h3⟩
theorem Fn.frz {P : Program} {f : FuncId} {As : List Cnt} {r : Ret} (h : Fn P f As r) : Fn P f As r.frz :=
  ⟨h.ent, fun N0 w vs hN ha => Calls.mono (h.run N0 w vs hN ha) fun _ _ ⟨v, h1, h2, h3⟩ => ⟨v, h1, h2, Ret.frz_rep hN h3⟩⟩
end Go.Proofs.Ytnpognmpgddncaa
