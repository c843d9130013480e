/- Operations over abstract states: answers that are rows, append, results; how a state is said anew. No program in sight. -/
import Derived.Test.YtnpognmpgddncaaAbsOps3
import Derived.Maps.AppendAt
namespace Go.Proofs.Ytnpognmpgddncaa
open Go.RowKit

def Gh.mkN (g : Gh) (t : Nat) (v : Value) : Gh := ⟨g.ow, g.ph, fun i => if i = t then v else g.rh i⟩
section
variable {P : Program} {n : Nat} {ops : Array Oper} {o : Oper} {F : List Nat} {S T : St} {C : Ctx} {g : Gh} {a : Act} {w w' : World} {t : Nat}

theorem stp_mkN {v : Value} (hR : RG C n T g a w) (hx : Ext w w') {vr' : Nat → Nat} (h : ∀ i, vr' i = if i = t then T.ver t + 1 else T.ver i) (hfx : isFix t = false) : Stp C (fun i => i = t) T.ver vr' g (g.mkN t v) w w' := by
  refine ⟨hx.size, fun b hb _ => hx.block b hb, fun _ _ _ => rfl, fun _ _ h => h, fun b id e => ⟨Nat.lt_of_lt_of_le (hR.dom b id e).1 hx.size, (hR.dom b id e).2⟩, fun i => ?_, fun i hi => ?_, fun i hi => ?_, hx.os, hx.tape, hx.output⟩
  · rw [h]
    by_cases hi : i = t
    · subst hi; exact .inr ⟨rfl, by rw [if_pos rfl]; omega⟩
    · rw [if_neg hi]; exact .inl rfl
  · rw [h] at hi
    by_cases hit : i = t
    · subst hit; rw [if_pos rfl] at hi; omega
    · exact ⟨rfl, if_neg hit⟩
  · exact ⟨rfl, if_neg (fun e => by subst e; rw [hfx] at hi; cases hi)⟩

/-- a row that a call hands back -/
theorem own_in {e k : Nat} {es : List (List PV)} {v : Value} (hR : RG C n T g a w) (hx : Ext w w') {vr' : Nat → Nat} (hvr : ∀ i, vr' i = if i = t then T.ver t + 1 else T.ver i) (hfx : isFix t = false)
    (h : (Ret.own e k es).rep (fun b => b < w.heap.size ∧ g.N C b) w w' v) :
    ∃ g', Stp C (fun i => i = t) T.ver vr' g g' w w' ∧ g'.rh t = v ∧ brep C vr' g' w' t (.row e k es) := by
  rcases h with ⟨h1, h2⟩ | ⟨q, cap, cs, h1, h2, h3, h4, h5, h6, h7⟩
  · exact ⟨g.mkN t v, stp_mkN hR hx hvr hfx, if_pos rfl, .inl ⟨by show (if t = t then v else _) = _; rw [if_pos rfl]; exact h1, h2⟩⟩
  · have hq : q < w'.heap.size := (Array.getElem?_eq_some_iff.1 h3).1
    have hst := stp_mk (v := v) (w' := w') hR hx h2 hq rfl hvr hfx
    have hph : (g.mk1 t q v).ph t = q := if_pos rfl
    have hrh : (g.mk1 t q v).rh t = v := if_pos rfl
    refine ⟨g.mk1 t q v, hst, hrh, .inr ⟨cap, cs, by rw [hrh, hph]; exact h1, by rw [hph]; exact h3, by rw [hph]; exact if_pos rfl, h4, h5, h6, fun i ps hi => ?_⟩⟩
    obtain ⟨r1, r2⟩ := h7 i ps hi
    refine ⟨r1, fun j A hj => ?_⟩
    obtain ⟨y, s1, s2, s3⟩ := r2 j A hj
    refine ⟨y, s1, s2, ?_⟩
    refine A.mono (Nat.le_refl _) (fun _ _ _ => rfl) (fun b hb hbn => ?_) s3
    rcases Nat.lt_or_ge b w.heap.size with hlt | hge
    · exact .inl ⟨hlt, hst.n b hlt hbn⟩
    · rcases hbn with hbn | hbn
      · exact absurd hbn (n0_lt hR b hge)
      · refine .inr ?_
        change (if b = q then some t else g.ow b) ≠ none at hbn
        by_cases hbq : b = q
        · exact hbq
        · rw [if_neg hbq, ow_none hR b hge] at hbn; exact absurd rfl hbn
theorem op_call_own {f : FuncId} {xs : List Operand} {As : List Cnt} {e k : Nat} {es : List (List PV)} (hp : Pl n o t) (ho : isCall o f xs) (hf : Fn P f As (.own e k es)) (hg : GivesL F S xs As) (hF : 2 * t + 1 ∈ F) :
    OpOk n P ops o F (.row t (S.ver t + 1)) [(t, S.ver t + 1, .row e k es)] S := by
  refine ⟨?_⟩
  intro C T hA a w ⟨g, hR⟩
  unfold Exec
  rw [if_pos (hp.wanted a)]
  refine callWp hf.ent ho (hf.run _ w (xs.map a.eval) (fun b h => h.1) (hg.rep hA hR)) ?_
  rintro v w' ⟨hx, hr⟩
  have hvt := (hA.2 t hF).2
  have hvr : ∀ i, (T.app o.dst (.row t (S.ver t + 1)) [(t, S.ver t + 1, .row e k es)]).ver i = if i = t then T.ver t + 1 else T.ver i := fun i => by rw [St.app_some_ver, hvt]
  obtain ⟨g', h1, h2, h3⟩ := own_in hR hx hvr (hp.nofix hR) hr
  exact ⟨g', hR.app1 hp.dOk h1 ⟨by rw [hvr, if_pos rfl, hvt]; exact Nat.le_refl _, fun _ => h2.symm⟩ h3⟩
/-- a row, and a value beside it -/
theorem op_call_own2 {f : FuncId} {xs : List Operand} {As : List Cnt} {e k : Nat} {es : List (List PV)} {u : Value} (hp : Pl n o t) (ho : isCall o f xs) (hf : Fn P f As (.tup2 (.own e k es) (.per (rawP u)))) (hg : GivesL F S xs As) (hF : 2 * t + 1 ∈ F) :
    OpOk n P ops o F (.tup2 (.row t (S.ver t + 1)) (.per (rawP u))) [(t, S.ver t + 1, .row e k es)] S := by
  refine ⟨?_⟩
  intro C T hA a w ⟨g, hR⟩
  unfold Exec
  rw [if_pos (hp.wanted a)]
  refine callWp hf.ent ho (hf.run _ w (xs.map a.eval) (fun b h => h.1) (hg.rep hA hR)) ?_
  rintro v w' ⟨hx, x, y, rfl, hr, hu⟩
  have hvt := (hA.2 t hF).2
  have hvr : ∀ i, (T.app o.dst (.tup2 (.row t (S.ver t + 1)) (.per (rawP u))) [(t, S.ver t + 1, .row e k es)]).ver i = if i = t then T.ver t + 1 else T.ver i := fun i => by rw [St.app_some_ver, hvt]
  obtain ⟨g', h1, h2, h3⟩ := own_in hR hx hvr (hp.nofix hR) hr
  exact ⟨g', hR.app1 hp.dOk h1 ⟨x, y, rfl, ⟨by rw [hvr, if_pos rfl, hvt]; exact Nat.le_refl _, fun _ => h2.symm⟩, hu⟩ h3⟩

/-! ### append -/
/-- whence new elements come -/
def Src (F : List Nat) (S : St) (x : Operand) (k : Nat) (ns : List (List PV)) : Prop := ∀ (n : Nat) (C : Ctx) (T : St) (g : Gh) (a : Act) (w : World), Agree F T S → RG C n T g a w →
  lstAt (fun _ => False) (g.N C) k ns w (a.eval x)
theorem lst_weak {top top' N : BP} {k : Nat} {es : List (List PV)} {v : Value} (ht : ∀ b, top' b → top b) (h : lstAt top N k es w v) : lstAt top' N k es w v :=
  lstAt.mono (Nat.le_refl _) (fun _ _ _ => rfl) (fun _ _ _ => rfl) (fun b _ hb => ht b hb) (fun _ _ h => h) h
theorem src_lst {x : Operand} {k : Nat} {ns : List (List PV)} (hx : S.opd x = .per (lstP k ns)) (hF : ∀ k ∈ opdN x, k ∈ F) : Src F S x k ns := fun n C T g a w hA hR => by
  have h := opd_rep (x := x) hA hF hR
  rw [hx] at h
  exact lst_weak (fun _ h => h.elim) h
theorem src_bor {x : Operand} {k : Nat} {ns : List (List PV)} (hx : S.opd x = .bor k ns) (hF : ∀ k ∈ opdN x, k ∈ F) : Src F S x k ns := fun n C T g a w hA hR => by
  have h := opd_rep (x := x) hA hF hR
  rw [hx] at h
  exact lst_weak (fun _ h => h.elim) h
theorem src_row {x : Operand} {id vr e k : Nat} {es : List (List PV)} (hx : S.opd x = .row id vr) (hv : S.ver id = vr) (hb : S.blk id = .row e k es) (hF : ∀ k ∈ opdN x, k ∈ F) (hF' : 2 * id + 1 ∈ F) : Src F S x k es := fun n C T g a w hA hR => by
  obtain ⟨h1, h2⟩ := row_at (x := x) hA hF hF' hR hx hv hb
  rw [h1]; exact row_bor (fun _ _ h => h) hR h2
theorem src_nil {x : Operand} {k : Nat} (hx : S.opd x = .per (rawP (.slice none 0 0))) (hF : ∀ k ∈ opdN x, k ∈ F) : Src F S x k [] := fun n C T g a w hA hR => by
  have h := raw_opd (x := x) hA hF hR hx
  rw [h]
  exact ⟨none, 0, 0, 0, rfl, by simp, by decide, fun _ => rfl, by simp, fun i cs hi => by simp at hi⟩

/-- the cells of a list that lies in memory, written out -/
theorem lst_cells {N : BP} {k : Nat} : ∀ {es : List (List PV)} {b of : Nat}, (∀ (i : Nat) (cs : List PV), es[i]? = some cs → cs.length = k ∧ ∀ (j : Nat) (A : PV), cs[j]? = some A →
      ∃ y, w.cell? ⟨b, of + i * k + j, none⟩ = some y ∧ y.oneCell' = true ∧ A.p N w y) →
    ∃ vs : List Value, vs.length = es.length * k ∧ (∀ (j : Nat) (u : Value), vs[j]? = some u → w.cell? ⟨b, of + j, none⟩ = some u) ∧ (∀ u ∈ vs, u.oneCell' = true) ∧
      ∀ (i : Nat) (cs : List PV), es[i]? = some cs → cs.length = k ∧ ∀ (j : Nat) (A : PV), cs[j]? = some A → ∃ y, vs[i * k + j]? = some y ∧ y.oneCell' = true ∧ A.p N w y := by
  intro es
  induction es with
  | nil => intro b of _; exact ⟨[], by simp, fun j u h => by simp at h, by simp, fun i cs h => by simp at h⟩
  | cons cs es ih =>
    intro b of h
    obtain ⟨h0, h1⟩ := h 0 cs rfl
    obtain ⟨us, g1, g2, g3⟩ := list_of_cells (N := N) (w := w) (f := fun j => w.cell? ⟨b, of + j, none⟩) cs (fun j A hj => by
      obtain ⟨y, q1, q2⟩ := h1 j A hj
      exact ⟨y, by simpa using q1, q2⟩)
    obtain ⟨vs, r1, r2, r3, r4⟩ := ih (b := b) (of := of + k) (fun i cs' hi => by
      obtain ⟨q1, q2⟩ := h (i + 1) cs' (by simpa using hi)
      refine ⟨q1, fun j A hj => ?_⟩
      obtain ⟨y, s1, s2⟩ := q2 j A hj
      exact ⟨y, by rw [show of + k + i * k + j = of + (i + 1) * k + j by rw [Nat.succ_mul]; omega]; exact s1, s2⟩)
    have hul : us.length = k := by omega
    refine ⟨us ++ vs, by simp [hul, r1, Nat.succ_mul, Nat.add_comm], fun j u hj => ?_, fun u hu => ?_, fun i cs' hi => ?_⟩
    · rcases Nat.lt_or_ge j k with hlt | hge
      · rw [List.getElem?_append_left (by omega)] at hj; exact g2 j u hj
      · rw [List.getElem?_append_right (by omega), hul] at hj
        have := r2 _ u hj
        rw [show of + k + (j - k) = of + j by omega] at this; exact this
    · rcases List.mem_append.1 hu with q | q
      · obtain ⟨j, hj, rfl⟩ := List.getElem_of_mem q
        obtain ⟨y, s1, s2, _⟩ := g3.2 j cs[j] (by simp)
        have : us[j] = y := by simpa [hj] using s1
        rw [this]; exact s2
      · exact r3 u q
    · cases i with
      | zero =>
        simp at hi; subst hi
        refine ⟨h0, fun j A hj => ?_⟩
        obtain ⟨y, s1, s2⟩ := g3.2 j A hj
        have hjl : j < us.length := by
          rcases Nat.lt_or_ge j us.length with q | q
          · exact q
          · rw [List.getElem?_eq_none (by omega)] at hj; cases hj
        exact ⟨y, by rw [Nat.zero_mul, Nat.zero_add, List.getElem?_append_left hjl]; simpa using s1, s2⟩
      | succ i =>
        obtain ⟨q1, q2⟩ := r4 i cs' (by simpa using hi)
        refine ⟨q1, fun j A hj => ?_⟩
        obtain ⟨y, s1, s2⟩ := q2 j A hj
        exact ⟨y, by rw [List.getElem?_append_right (by rw [Nat.succ_mul]; omega), hul, show (i + 1) * k + j - k = i * k + j by rw [Nat.succ_mul]; omega]; exact s1, s2⟩

def isAppend (o : Oper) (ty : TypeId) (s x : Operand) : Prop := o.op = .call { callee := .builtin .append, args := #[s, x], argTypes := #[ty, ty] }
theorem execApp {ty : TypeId} {s x : Operand} {u v r : Value} (ho : isAppend o ty s x) (hs : a.eval s = u) (hx : a.eval x = v) (h : (Builtin.append_ #[ty, ty] o.type #[u, v]).run P w = .ok r w') : (execOp a.eval o).run P w = .ok (.value r) w' := by
  unfold isAppend at ho
  simp only [execOp, ho, resolve, invoke, builtin, Sem.run_bind, Sem.run_pure, Result.andThen_ok, List.map_toArray, List.map_cons, List.map_nil, hs, hx, h]

/-- the concrete cells of a row -/
theorem row_cells {e k id : Nat} {es : List (List PV)} (hb : brep C T.ver g w id (.row e k es)) : ∃ xs : List Value, w.ownsRow 0 e k (g.rh id) es.length xs ∧
    ∀ (i : Nat) (cs : List PV), es[i]? = some cs → cs.length = k ∧ ∀ (j : Nat) (A : PV), cs[j]? = some A → ∃ y, xs[i * k + j]? = some y ∧ y.oneCell' = true ∧ A.p (g.N C) w y := by
  rcases hb with ⟨q1, rfl⟩ | ⟨cap, cs, q1, q2, q3, q4, q5, q6, q7⟩
  · exact ⟨[], ⟨by simp, .inl ⟨q1, rfl⟩⟩, fun i cs h => by simp at h⟩
  · have hmul : es.length * k ≤ cap * k := Nat.mul_le_mul_right k q4
    refine ⟨cs.toList.take (es.length * k), ⟨by simp; omega, .inr ⟨g.ph id, cap, cs, q1, Nat.zero_le _, q2, q4, q5, q6, rfl⟩⟩, fun i ps hi => ?_⟩
    obtain ⟨r1, r2⟩ := q7 i ps hi
    refine ⟨r1, fun j A hj => ?_⟩
    obtain ⟨y, t1, t2⟩ := r2 j A hj
    have hil : i < es.length := by
      rcases Nat.lt_or_ge i es.length with q | q
      · exact q
      · rw [List.getElem?_eq_none q] at hi; cases hi
    have hjl : j < k := by
      rcases Nat.lt_or_ge j ps.length with q | q
      · omega
      · rw [List.getElem?_eq_none q] at hj; cases hj
    have : i * k + j < es.length * k := by
      have := Nat.mul_le_mul_right k (show i + 1 ≤ es.length from hil)
      rw [Nat.succ_mul] at this; omega
    exact ⟨y, by rw [List.getElem?_take, if_pos this]; simpa using t1, t2⟩
theorem own_blk {e k id : Nat} {es : List (List PV)} (hb : brep C T.ver g w id (.row e k es)) : ∀ q, (g.rh id).ownBlock = some q → g.ow q = some id ∧ q = g.ph id := by
  intro q hq
  rcases hb with ⟨q1, _⟩ | ⟨cap, cs, q1, q2, q3, _⟩
  · rw [q1] at hq; cases hq
  · rw [q1] at hq; cases hq; exact ⟨q3, rfl⟩
/-- a row that has grown -/
theorem app_fin {e k id m : Nat} {es ns : List (List PV)} {v' : Value} {xs news : List Value} (hm : ns.length = m) (hR : RG C n T g a w) (hb : brep C T.ver g w id (.row e k es))
    (how : w.ownsRow 0 e k (g.rh id) es.length xs)
    (hxs : ∀ (i : Nat) (cs : List PV), es[i]? = some cs → cs.length = k ∧ ∀ (j : Nat) (A : PV), cs[j]? = some A → ∃ y, xs[i * k + j]? = some y ∧ y.oneCell' = true ∧ A.p (g.N C) w y)
    (n4 : ∀ (i : Nat) (cs : List PV), ns[i]? = some cs → cs.length = k ∧ ∀ (j : Nat) (A : PV), cs[j]? = some A → ∃ y, news[i * k + j]? = some y ∧ y.oneCell' = true ∧ A.p (g.N C) w y)
    (r2 : w'.ownsRow 0 e k v' (es.length + m) (xs ++ news)) (r3 : w.grownBy w' (g.rh id).ownBlock) (r4 : v'.ownBlock = (g.rh id).ownBlock ∨ ∀ q, v'.ownBlock = some q → w.heap.size ≤ q)
    (hfx : isFix id = false) {vr' : Nat → Nat} (hvr : ∀ i, vr' i = if i = id then T.ver id + 1 else T.ver i) : ∃ g', Stp C (fun i => i = id) T.ver vr' g g' w w' ∧ g'.rh id = v' ∧ brep C vr' g' w' id (.row e k (es ++ ns)) := by
  subst hm
  have hown_blk := own_blk hb
  have hlen2 : (es ++ ns).length = es.length + ns.length := by simp
  have hheap : ∀ b, b < w.heap.size → g.ow b ≠ some id → w'.heap[b]? = w.heap[b]? := fun b hb hne => r3.block b hb (fun e => hne (hown_blk b e.symm).1)
  have hver : ∀ j, vr' j = T.ver j ∨ (j = id ∧ T.ver j < vr' j) := fun j => by
    rw [hvr]
    by_cases hj : j = id
    · subst hj; exact .inr ⟨rfl, by rw [if_pos rfl]; omega⟩
    · rw [if_neg hj]; exact .inl rfl
  have helems : ∀ {g' : Gh}, Stp C (fun i => i = id) T.ver vr' g g' w w' → ∀ (i : Nat) (ps : List PV), (es ++ ns)[i]? = some ps → ps.length = k ∧ ∀ (j : Nat) (A : PV), ps[j]? = some A → ∃ y, (xs ++ news)[i * k + j]? = some y ∧ y.oneCell' = true ∧ A.p (g'.N C) w' y := by
    intro g' hst i ps hi
    have hxl : xs.length = es.length * k := how.1
    rcases Nat.lt_or_ge i es.length with hlt | hge
    · rw [List.getElem?_append_left hlt] at hi
      obtain ⟨q1, q2⟩ := hxs i ps hi
      refine ⟨q1, fun j A hj => ?_⟩
      obtain ⟨y, t1, t2, t3⟩ := q2 j A hj
      have : i * k + j < xs.length := by
        rcases Nat.lt_or_ge (i * k + j) xs.length with q | q
        · exact q
        · rw [List.getElem?_eq_none q] at t1; cases t1
      exact ⟨y, by rw [List.getElem?_append_left this]; exact t1, t2, A.mono hst.sz hst.keepN hst.n t3⟩
    · rw [List.getElem?_append_right hge] at hi
      obtain ⟨q1, q2⟩ := n4 _ ps hi
      refine ⟨q1, fun j A hj => ?_⟩
      obtain ⟨y, t1, t2, t3⟩ := q2 j A hj
      have hm : i * k = es.length * k + (i - es.length) * k := by rw [← Nat.add_mul]; congr 1; omega
      exact ⟨y, by rw [List.getElem?_append_right (by omega), hxl, show i * k + j - es.length * k = (i - es.length) * k + j by omega]; exact t1, t2, A.mono hst.sz hst.keepN hst.n t3⟩
  rcases r2.2 with ⟨hv', hn0⟩ | ⟨q, cap, cur, hv', _, hh, hle, hcm, hcs, htk⟩
  · -- nothing at all
    have hst : Stp C (fun i => i = id) T.ver vr' g (g.mkN id v') w w' := by
      refine ⟨r3.size, fun b hb hne => hheap b hb (hne id rfl), fun _ _ _ => rfl, fun _ _ h => h, fun b i e => ⟨Nat.lt_of_lt_of_le (hR.dom b i e).1 r3.size, (hR.dom b i e).2⟩, hver, fun i hi => ?_, fun i hi => ⟨rfl, if_neg (fun e => by subst e; rw [hfx] at hi; cases hi)⟩, r3.os, r3.tape, r3.output⟩
      by_cases hid : i = id
      · subst hid; rw [hvr, if_pos rfl] at hi; omega
      · exact ⟨rfl, if_neg hid⟩
    refine ⟨_, hst, if_pos rfl, .inl ⟨by show (if id = id then v' else _) = _; rw [if_pos rfl]; exact hv', ?_⟩⟩
    have h0 : es.length = 0 ∧ ns.length = 0 := by omega
    rw [List.eq_nil_of_length_eq_zero h0.1, List.eq_nil_of_length_eq_zero h0.2]; rfl
  · have hq : q < w'.heap.size := (Array.getElem?_eq_some_iff.1 hh).1
    have hqq : (g.ow q = some id) ∨ w.heap.size ≤ q := by
      have hvb : v'.ownBlock = some q := by rw [hv']; rfl
      rcases r4 with r | r
      · exact .inl (hown_blk q (by rw [← r]; exact hvb)).1
      · exact .inr (r q hvb)
    have hst : Stp C (fun i => i = id) T.ver vr' g (g.mk1 id q v') w w' := by
      refine ⟨r3.size, fun b hb hne => hheap b hb (hne id rfl), fun b hb hne => ?_, fun b hb hn => ?_, fun b i e => ?_, hver, fun i hi => ?_, fun i hi => ⟨if_neg (fun e => by subst e; rw [hfx] at hi; cases hi), if_neg (fun e => by subst e; rw [hfx] at hi; cases hi)⟩, r3.os, r3.tape, r3.output⟩
      · show (if b = q then some id else g.ow b) = _
        refine if_neg (fun e => ?_)
        subst e
        rcases hqq with r | r
        · exact hne id rfl r
        · omega
      · change (if b = q then some id else g.ow b) ≠ none at hn
        by_cases e : b = q
        · subst e
          rcases hqq with r | r
          · rw [r]; simp
          · omega
        · rwa [if_neg e] at hn
      · change (if b = q then some id else g.ow b) = some i at e
        by_cases e' : b = q
        · subst e'
          rw [if_pos rfl] at e; cases e
          refine ⟨hq, ?_⟩
          rcases hqq with r | r
          · exact (hR.dom _ _ r).2
          · exact .inl (Nat.le_trans hR.size r)
        · rw [if_neg e'] at e
          exact ⟨Nat.lt_of_lt_of_le (hR.dom b i e).1 r3.size, (hR.dom b i e).2⟩
      · by_cases hid : i = id
        · subst hid; rw [hvr, if_pos rfl] at hi; omega
        · exact ⟨if_neg hid, if_neg hid⟩
    have hph : (g.mk1 id q v').ph id = q := if_pos rfl
    have hrh : (g.mk1 id q v').rh id = v' := if_pos rfl
    refine ⟨_, hst, hrh, .inr ⟨cap, cur, by rw [hrh, hph, hlen2]; exact hv', by rw [hph]; exact hh, by rw [hph]; exact if_pos rfl, by omega, hcm, hcs, fun i ps hi => ?_⟩⟩
    obtain ⟨q1, q2⟩ := helems hst i ps hi
    refine ⟨q1, fun j A hj => ?_⟩
    obtain ⟨y, t1, t2⟩ := q2 j A hj
    rw [← htk, List.getElem?_take] at t1
    split at t1
    · exact ⟨y, by simpa using t1, t2⟩
    · cases t1
/-- what append does to a row -/
theorem app_run {ty ty' e k bytes id : Nat} {es ns : List (List PV)} {v : Value} (hT : TI P ty e k bytes) (hk : 0 < k) (hR : RG C n T g a w) (hfx : isFix id = false) (hb : brep C T.ver g w id (.row e k es)) (hsrc : lstAt (fun _ => False) (g.N C) k ns w v)
    (hlen : es.length + ns.length ≤ maxLen) (hby : (es.length + ns.length) * bytes ≤ 140737488355328) :
    ∃ v' w', (Builtin.append_ #[ty, ty] ty' #[g.rh id, v]).run P w = .ok v' w' ∧ ∀ {vr' : Nat → Nat}, (∀ i, vr' i = if i = id then T.ver id + 1 else T.ver i) → ∃ g', Stp C (fun i => i = id) T.ver vr' g g' w w' ∧ g'.rh id = v' ∧ brep C vr' g' w' id (.row e k (es ++ ns)) := by
  obtain ⟨i, z, hi, hz, h1, h2, h3⟩ := hT.info
  obtain ⟨ad, c, b, of, rfl, s2, s3, s4, s5, s6⟩ := hsrc
  obtain ⟨news, n1, n2, n3, n4⟩ := lst_cells s6
  obtain ⟨xs, how, hxs⟩ := row_cells hb
  have main : ∃ v' w', (Builtin.append_ #[ty, ty] ty' #[g.rh id, .slice ad ns.length c]).run P w = .ok v' w' ∧ w'.ownsRow 0 e k v' (es.length + ns.length) (xs ++ news) ∧ w.grownBy w' (g.rh id).ownBlock ∧ (v'.ownBlock = (g.rh id).ownBlock ∨ v'.ownBlock = some w.heap.size) := by
    cases ad with
    | none =>
      have hns : ns = [] := by
        cases ns with
        | nil => rfl
        | cons x l => have := (s5 (by simp)).1; cases this
      subst hns
      obtain rfl := s4 rfl
      have hn : news = [] := List.eq_nil_of_length_eq_zero (by simpa using n1)
      subst hn
      refine ⟨g.rh id, w, run_append_owned_none (P := P) (w := w) 0 ty ty' e i k hT.und hi _ _ _ how, by simpa using how, ⟨rfl, rfl, rfl, Nat.le_refl _, fun _ _ _ => rfl⟩, .inl rfl⟩
    | some ad =>
      have hcell : ∀ (j : Nat) (u : Value), news[j]? = some u → w.cell? (ad.add j) = some u := by
        intro j u hj
        have hjl : j < news.length := by
          rcases Nat.lt_or_ge j news.length with q | q
          · exact q
          · rw [List.getElem?_eq_none q] at hj; cases hj
        have hn0 : 0 < ns.length := by
          rcases Nat.eq_zero_or_pos ns.length with q | q
          · rw [n1, q, Nat.zero_mul] at hjl; omega
          · exact q
        have hade := (s5 hn0).1
        simp at hade; subst hade
        rw [Addr.add_lit]; exact n2 j u hj
      obtain ⟨v', w', r1, r2, r3, _, r5⟩ := run_append_own_at (P := P) w 0 ty ty' e i z k bytes hT.und hi hz h1 h2 h3 hk (g.rh id) es.length xs how ad ns.length c news n1 hcell n3 hlen hby (Nat.zero_le _)
      exact ⟨v', w', r1, r2, r3, r5⟩
  obtain ⟨v', w', r1, r2, r3, r4⟩ := main
  refine ⟨v', w', r1, fun {vr'} hvr => app_fin rfl hR hb how hxs n4 r2 r3 ?_ hfx hvr⟩
  rcases r4 with r | r
  · exact .inl r
  · exact .inr (fun q hq => by rw [r] at hq; cases hq; exact Nat.le_refl _)
theorem op_append {ty : TypeId} {s x : Operand} {id vr e k bytes : Nat} {es ns : List (List PV)} (hp : Pl n o t) (ho : isAppend o ty s x) (hT : TI P ty e k bytes) (hk : Nat.blt 0 k = true)
    (hs : S.opd s = .row id vr) (hv : S.ver id = vr) (hb : S.blk id = .row e k es) (hx : Src ((2 * id + 1) :: F) S x k ns) (hF : ∀ k ∈ opdN s, k ∈ F)
    (hlen : es.length + ns.length ≤ maxLen) (hby : (es.length + ns.length) * bytes ≤ 140737488355328) (hfx : isFix id = false := by rfl) :
    OpOk n P ops o ((2 * id + 1) :: F) (.row id (vr + 1)) [(id, vr + 1, .row e k (es ++ ns))] S := by
  refine ⟨?_⟩
  intro C T hA a w ⟨g, hR⟩
  obtain ⟨h1, h2⟩ := row_at (x := s) hA (fun k h => by simp [hF k h]) (by simp) hR hs hv hb
  have hvt := (hA.2 id (by simp)).2
  obtain ⟨v', w', r1, r2⟩ := app_run (P := P) (ty' := o.type) hT (Nat.le_of_ble_eq_true hk) hR hfx h2 (hx n C T g a w hA hR) hlen hby
  unfold Exec
  rw [if_pos (hp.wanted a)]
  unfold Oper.wp
  rw [execApp ho h1 rfl r1, Oper.upon_value]
  have hvr : ∀ i, (T.app o.dst (.row id (vr + 1)) [(id, vr + 1, .row e k (es ++ ns))]).ver i = if i = id then T.ver id + 1 else T.ver i := fun i => by rw [St.app_some_ver, hvt, hv]
  obtain ⟨g', s1, s2, s3⟩ := r2 hvr
  exact ⟨g', hR.app1 hp.dOk s1 ⟨by rw [hvr, if_pos rfl, hvt, hv]; exact Nat.le_refl _, fun _ => s2.symm⟩ s3⟩
end
end Go.Proofs.Ytnpognmpgddncaa
