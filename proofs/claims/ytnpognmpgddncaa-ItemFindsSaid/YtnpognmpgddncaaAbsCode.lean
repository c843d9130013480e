/- Code, calls and loops over abstract states. No program in sight. -/
import Derived.Test.YtnpognmpgddncaaAbsRun
namespace Go.Proofs.Ytnpognmpgddncaa
open Go.RowKit

/-! ### regions whose order is drawn -/
structure AD (P : Program) (n : Nat) (ops : Array Oper) (Q : St → Prop) (done : List (List Nat × List Nat)) (l : List Oper) (S : St) : Prop where
  ex : ∃ rs, TR n P ops l S rs ∧ chk ops.toList (done ++ rs.map Rec.fp) = true ∧ Q (runR S rs)
section
variable {P : Program} {n : Nat} {ops : Array Oper} {Q : St → Prop} {done : List (List Nat × List Nat)} {l : List Oper} {S : St}
theorem AD_nil (hc : chk ops.toList done = true) (h : Q S) : AD P n ops Q done [] S := ⟨[], .nil, by simpa using hc, h⟩
theorem AD_cons {o : Oper} {F : List Nat} {c : Cnt} {b : Upd} (h : OpOk n P ops o F c b S) (k : AD P n ops Q (done ++ [(F, wrN o.dst b)]) l (S.app o.dst c b)) :
    AD P n ops Q done (o :: l) S := by
  obtain ⟨rs, h1, h2, h3⟩ := k.ex
  exact ⟨⟨F, o.dst, c, b⟩ :: rs, .cons h h1, by simpa [Rec.fp] using h2, h3⟩
end

theorem R.drew {C : Ctx} {n : Nat} {S : St} {a : Act} {w : World} (h : R C n S a w) : R C n S a { w with drawn := w.drawn + 1 } := by
  obtain ⟨g, h⟩ := h
  have hx : Ext w { w with drawn := w.drawn + 1 } := ⟨rfl, rfl, rfl, Nat.le_refl _, fun _ _ => rfl⟩
  exact ⟨g, h.app0 (d := none) (c := .any) (v := undef) hx (fun _ h => by cases h) trivial⟩

theorem least {p : Nat → Prop} (h : ∃ k, p k) : ∃ k, p k ∧ ∀ m, p m → k ≤ m := by
  obtain ⟨k, hk⟩ := h
  induction k using Nat.strongRecOn with
  | _ k ih =>
    by_cases h : ∃ m, m < k ∧ p m
    · obtain ⟨m, h1, h2⟩ := h
      exact ih m h1 h2
    · exact ⟨k, hk, fun m hm => Nat.le_of_not_lt (fun hlt => h ⟨m, hlt, hm⟩)⟩

/-! ### code -/
def thenA (next : St → Prop) (Q : Exit → St → Prop) : Exit → St → Prop
  | .normal, S => next S
  | e, S => Q e S
def inBlockA (id : Nat) (Q : Exit → St → Prop) : Exit → St → Prop
  | .exit id', S => if id' = id then Q .normal S else Q (.exit id') S
  | e, S => Q e S
structure AW (P : Program) (n : Nat) (c : Code) (Q : Exit → St → Prop) (S : St) : Prop where
  run : ∀ (C : Ctx) a w, R C n S a w → c.wp P (fun e a w => ∃ S', Q e S' ∧ R C n S' a w) a w
def Le (n : Nat) (S S' : St) : Prop := ∀ (C : Ctx) a w, R C n S a w → R C n S' a w
section
variable {P : Program} {n : Nat} {Q : Exit → St → Prop} {S : St}
theorem AW_le {c : Code} {S' : St} (h : Le n S S') (k : AW P n c Q S') : AW P n c Q S := ⟨fun C a w hr => k.run C a w (h C a w hr)⟩
theorem AW_seq {x y : Code} (h : AW P n x (thenA (AW P n y Q) Q) S) : AW P n (.seq x y) Q S := ⟨fun C a w hr =>
  wp_seq (wp_mono (h.run C a w hr) (fun e a w hq => by
    obtain ⟨S', hq, hr⟩ := hq
    cases e <;> first | exact AW.run hq C a w hr | exact ⟨S', hq, hr⟩))⟩
theorem AW_mid {x y : Code} (M : St → Prop) (h : AW P n x (thenA M Q) S) (k : ∀ S', M S' → AW P n y Q S') : AW P n (.seq x y) Q S :=
  AW_seq ⟨fun C a w hr => wp_mono (h.run C a w hr) (fun e a w ⟨S', hq, hr⟩ => ⟨S', by cases e <;> first | exact k _ hq | exact hq, hr⟩)⟩
theorem AW_block {id : Nat} {c : Code} (h : AW P n c (inBlockA id Q) S) : AW P n (.block id c) Q S := ⟨fun C a w hr =>
  wp_block (wp_mono (h.run C a w hr) (fun e a w hq => by
    obtain ⟨S', hq, hr⟩ := hq
    cases e with
    | exit id' =>
      simp only [Exit.inBlock, inBlockA] at hq ⊢
      split
      · rename_i h; rw [if_pos h] at hq; exact ⟨S', hq, hr⟩
      · rename_i h; rw [if_neg h] at hq; exact ⟨S', hq, hr⟩
    | _ => exact ⟨S', hq, hr⟩))⟩
theorem AW_skip (h : Q .normal S) : AW P n .skip Q S := ⟨fun _ _ _ hr => wp_skip ⟨S, h, hr⟩⟩
theorem AW_ret (h : Q .ret S) : AW P n .ret Q S := ⟨fun _ _ _ hr => wp_ret ⟨S, h, hr⟩⟩
theorem AW_exit {id : Nat} (h : Q (.exit id) S) : AW P n (.exit id) Q S := ⟨fun _ _ _ hr => wp_exit ⟨S, h, hr⟩⟩
theorem AW_label {l : Nat} (h : Q .normal S) : AW P n (.label l) Q S := ⟨fun _ _ _ hr => wp_label ⟨S, h, hr⟩⟩
theorem AW_region {id : Nat} {l : List Oper} (h : AL P n l.toArray (Q .normal) l S) : AW P n (.region id l.toArray false) Q S := ⟨fun C a w hr =>
  wp_region_lit (by
    have := h.run C a w hr
    have key : ∀ (l' : List Oper) a w, wpList P l.toArray (fun e a w => e = .normal ∧ ∃ S', Q .normal S' ∧ R C n S' a w) l' a w → wpList P l.toArray (fun e a w => ∃ S', Q e S' ∧ R C n S' a w) l' a w := by
      intro l'
      induction l' with
      | nil => rintro a w ⟨_, h⟩; exact h
      | cons o l' ih =>
        intro a w h
        unfold wpList at h ⊢
        split
        · rename_i hw
          rw [if_pos hw] at h
          rcases h with h | ⟨h, a0, w0, hq, _⟩
          · exact .inl (Oper.wp_monoQ ih (fun e a w ⟨he, S', h1, h2⟩ => ⟨S', by rw [he]; exact h1, h2⟩) h)
          · cases hq
        · rename_i hw
          rw [if_neg hw] at h
          exact ih _ _ h
    exact key l a w this)⟩
theorem AW_draw {id : Nat} {l : List Oper} (hm : P.follows .mixedOrders = true) (h : AD P n l.toArray (Q .normal) [] l S) : AW P n (.region id l.toArray true) Q S := ⟨fun C a w hr => by
  obtain ⟨rs, h1, h2, h3⟩ := h.ex
  refine wp_region_any hm (wpAny_of (ops := l.toArray) h1 (by simpa using h2) _ (fun a w hr => ⟨_, h3, hr⟩) l.toArray.size (Array.replicate l.toArray.size false) (by simp) ?_ ?_ a _ ?_)
  · intro i o hi hE
    have : i < l.toArray.size := (Array.getElem?_eq_some_iff.1 hi).1
    rw [Array.getD_eq_getD_getElem?, Array.getElem?_replicate, if_pos this] at hE
    simp at hE
  · omega
  · have hlen := h1.get.1
    rw [runE_none rs S 0 _ (fun k hk => by
      have : k < l.toArray.size := by simp at hlen ⊢; omega
      rw [Nat.zero_add, Array.getD_eq_getD_getElem?, Array.getElem?_replicate, if_pos this]; rfl)]
    exact hr.drew⟩
theorem AW_loop {c : Code} {X : Type} (I : X → St) (mu : X → Nat) (x0 : X) (h0 : Le n S (I x0))
    (round : ∀ x, AW P n c (thenA (fun S' => ∃ x', mu x' < mu x ∧ Le n S' (I x')) Q) (I x)) : AW P n (.loop c) Q S := by
  refine ⟨?_⟩
  intro C a w hr
  let J : Act → World → Nat → Prop := fun a w m => ∃ x, mu x = m ∧ R C n (I x) a w
  have key : ∀ m, ∀ a w, J a w m → (Code.loop c).wp P (fun e a w => ∃ S', Q e S' ∧ R C n S' a w) a w := by
    intro m a w hJ
    classical
    let mm : Act → World → Nat := fun a w => if h : ∃ k, J a w k then Classical.choose (least h) else 0
    have hex : ∃ k, J a w k := ⟨m, hJ⟩
    refine wp_loop (fun a w => ∃ k, J a w k) mm hex ?_
    intro a w hk
    have hmm : mm a w = Classical.choose (least hk) := dif_pos hk
    obtain ⟨x, hx, hR⟩ := (Classical.choose_spec (least hk)).1
    refine wp_mono ((round x).run C a w hR) (fun e a' w' ⟨S', hq, hr'⟩ => ?_)
    cases e with
    | normal =>
      obtain ⟨x', hlt, hle⟩ := hq
      have hJ' : J a' w' (mu x') := ⟨x', rfl, hle C a' w' hr'⟩
      have hex' : ∃ k, J a' w' k := ⟨mu x', hJ'⟩
      refine ⟨hex', ?_⟩
      have h2 : mm a' w' = Classical.choose (least hex') := dif_pos hex'
      have h3 := (Classical.choose_spec (least hex')).2 _ hJ'
      omega
    | _ => exact ⟨S', hq, hr'⟩
  exact key (mu x0) a w ⟨x0, rfl, h0 C a w hr⟩
end
theorem AW_cond_per {P : Program} {n : Nat} {Q : Exit → St → Prop} {S : St} {c : Operand} {x y : Code} {b : Bool} {t : Nat} (hc : c = .tmp t) (hb : S.get t = bC b)
    (h1 : b = true → AW P n x Q S) (h2 : b = false → AW P n y Q S) : AW P n (.cond c x y) Q S := ⟨fun C a w hr => by
  obtain ⟨g, hg⟩ := hr
  have := hg.slots t
  rw [hb] at this
  subst hc
  exact wp_cond_split (t := b) this (fun h => (h1 h).run C a w ⟨g, hg⟩) (fun h => (h2 h).run C a w ⟨g, hg⟩)⟩

/-! ### calls -/
def g0 : Gh := ⟨fun _ => none, fun _ => 0, fun _ => undef⟩
inductive Ret where
  | per (A : PV)
  /-- a row of the call's own -/
  | own (e k : Nat) (es : List (List PV))
  | tup2 (c d : Ret)
  | tup3 (c d e : Ret)
def Ret.rep (N0 : BP) (w w' : World) (v : Value) : Ret → Prop
  | .per A => A.p N0 w' v
  | .own e k es => (v = .slice none 0 0 ∧ es = []) ∨ ∃ (q cap : Nat) (cs : Array Value), v = .slice (some ⟨q, 0, none⟩) es.length cap ∧ w.heap.size ≤ q ∧
      w'.heap[q]? = some (.cells cs e (0, 0)) ∧ es.length ≤ cap ∧ cap ≤ maxLen ∧ cs.size = cap * k ∧
      ∀ (i : Nat) (ps : List PV), es[i]? = some ps → ps.length = k ∧ ∀ (j : Nat) (A : PV), ps[j]? = some A → ∃ y, cs[i * k + j]? = some y ∧ y.oneCell' = true ∧ A.p (fun b => N0 b ∨ b = q) w' y
  | .tup2 c d => ∃ x y, v = .tuple #[x, y] ∧ c.rep N0 w w' x ∧ d.rep N0 w w' y
  | .tup3 c d e => ∃ x y z, v = .tuple #[x, y, z] ∧ c.rep N0 w w' x ∧ d.rep N0 w w' y ∧ e.rep N0 w w' z

def argsRep (N0 : BP) (w : World) (vs : List Value) (As : List Cnt) : Prop :=
  vs.length = As.length ∧ ∀ (i : Nat) (v : Value) (c : Cnt), vs[i]? = some v → As[i]? = some c → crep ⟨w, N0, fun _ => False, g0⟩ (fun _ => 0) g0 w v c
/-- a function with a body -/
def Ent (P : Program) (f : FuncId) : Prop := ∃ fn, P.funcs[f]? = some fn ∧ (fn.name == "runtime.NumGoroutine") = false ∧ fn.body.isNone = false
/-- what a function answers: it leaves all that was there as it was -/
structure Fn (P : Program) (f : FuncId) (As : List Cnt) (r : Ret) : Prop where
  ent : Ent P f
  run : ∀ (N0 : BP) (w : World) (vs : List Value), (∀ b, N0 b → b < w.heap.size) → argsRep N0 w vs As →
    Calls P f vs.toArray w (fun e w' => ∃ v, e = .returned v ∧ Ext w w' ∧ r.rep N0 w w' v)

def initS (As : List Cnt) : St := ⟨fun t => (As[t]?).getD .any, fun _ => .none, fun _ => 0⟩
/-- what the results read as -/
def ResOk (P : Program) (n : Nat) (fn : Func) (S : St) (r : Ret) : Prop :=
  ∀ (C : Ctx) a w, (∀ b, ¬ C.L b) → R C n S a w → ∃ v, (results fn a.tmps).run P w = .ok v w ∧ r.rep C.N0 C.W0 w v

theorem fn_intro {P : Program} {f : FuncId} {fn : Func} {body : Code} {As : List Cnt} {r : Ret} {n : Nat} (hf : P.funcs[f]? = some fn) (hb : fn.body = some body) (hm : (fn.name == "runtime.NumGoroutine") = false) (hn : fn.ntmps = n) (hl : As.length ≤ n)
    (h : AW P n body (fun e S => (e = .ret ∨ e = .normal) ∧ ResOk P n fn S r) (initS As)) (hn1 : Nat.ble n 1000 = true := by rfl) : Fn P f As r := by
  refine ⟨⟨fn, hf, hm, by rw [hb]; rfl⟩, ?_⟩
  intro N0 w vs hN hargs
  refine calls_of_wp hf hb ?_
  have hsz : (vs.toArray ++ Array.replicate (fn.ntmps - vs.toArray.size) undef).size = n := by
    have := hargs.1; simp; omega
  have hR : R ⟨w, N0, fun _ => False, g0⟩ n (initS As) { tmps := vs.toArray ++ Array.replicate (fn.ntmps - vs.toArray.size) undef, defers := [] } w := by
    refine ⟨g0, rfl, hsz, Nat.le_of_ble_eq_true hn1, fun _ _ => ⟨rfl, rfl⟩, rfl, rfl, rfl, Nat.le_refl _, fun _ _ _ => rfl, hN, fun _ _ h => h, fun b id e => by simp [g0] at e, fun t => ?_, fun id => trivial⟩
    show crep _ (fun _ => 0) g0 w _ ((As[t]?).getD .any)
    cases hA : As[t]? with
    | none => trivial
    | some c =>
      have ht : t < As.length := by
        rcases Nat.lt_or_ge t As.length with h | h
        · exact h
        · rw [List.getElem?_eq_none h] at hA; cases hA
      have hv : t < vs.length := by have := hargs.1; omega
      refine hargs.2 t _ c ?_ hA
      rw [Array.getD_eq_getD_getElem?, Array.getElem?_append_left (by simpa using hv)]
      simp [hv]
  refine wp_mono (h.run _ _ _ hR) ?_
  rintro e a' w' ⟨S', ⟨he, hres⟩, hr⟩
  obtain ⟨v, h1, h2⟩ := hres _ a' w' (fun _ h => h) hr
  obtain ⟨g, hg⟩ := hr
  have hE : Ext w w' := ⟨hg.os, hg.tape, hg.output, hg.size, fun k hk => hg.old k hk (fun h => h)⟩
  rcases he with rfl | rfl <;> exact ⟨hg.defers, v, h1, v, rfl, hE, h2⟩
end Go.Proofs.Ytnpognmpgddncaa
