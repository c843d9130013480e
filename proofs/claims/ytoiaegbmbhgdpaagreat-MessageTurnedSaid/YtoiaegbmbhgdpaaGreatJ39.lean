/- Texts joined: ArgsA Wk MsC Map. -/
import Derived.Test.YtoiaegbmbhgdpaaGreatJ10
import Derived.Test.YtoiaegbmbhgdpaaGreatJ38
import Derived.Test.YtoiaegbmbhgdpaaGreatJ09
import Derived.Test.YtoiaegbmbhgdpaaGreatJ35
import Derived.Test.YtoiaegbmbhgdpaaGreatJ36
import Derived.Test.YtoiaegbmbhgdpaaGreatJ32
import Derived.Test.YtoiaegbmbhgdpaaGreatJ37
import Derived.Test.YtoiaegbmbhgdpaaGreatJ29
import Derived.Maps.OwnOps
import Derived.Maps.Views
namespace Go.Proofs.YtoiaegbmbhgdpaaGreat
open Go.RowKit
theorem sl_lst {α : Type} {top N : BP} {k : Nat} {enc : α → List Value} (hE : Enc k enc) {l : List α} {w : World} {v : Value} (hN : ∀ b, ¬ top b) (h : Sl k enc w v l) : lstAt top N k (l.map (rawsE enc)) w v := by
  obtain ⟨a, c, b, o, rfl, h1, h2, h3, h0, h4⟩ := h
  refine ⟨a, c, b, o, by rw [List.length_map], by rw [List.length_map]; exact h1, h2, h0, fun hl => ?_, fun i cs hi => ?_⟩
  · rw [List.length_map] at hl
    refine ⟨h3 hl, ?_, hN b⟩
    have hk : 0 < (enc l[0]).length := by rw [hE.len]; exact hE.pos
    have := h4 0 l[0] (by simp [hl]) 0 (enc l[0])[0] (by simp [hk])
    rcases Nat.lt_or_ge b w.heap.size with hb | hb
    · exact hb
    · simp [World.cell?, Array.getElem?_eq_none hb] at this
  · rw [List.getElem?_map] at hi
    cases hx : l[i]? with
    | none => rw [hx] at hi; cases hi
    | some x =>
      rw [hx] at hi; cases hi
      refine ⟨by unfold rawsE; rw [List.length_map, hE.len], fun j A hj => ?_⟩
      unfold rawsE at hj
      rw [List.getElem?_map] at hj
      cases hy : (enc x)[j]? with
      | none => rw [hy] at hj; cases hj
      | some y =>
        rw [hy] at hj; cases hj
        exact ⟨y, h4 i x hx j y hy, hE.one x y (List.mem_of_getElem? hy), rfl⟩
def cx (w : World) : Ctx := ⟨w, fun _ => False, fun _ => False, g0⟩
abbrev In (w : World) (v : Value) (c : Cnt) : Prop := crep (cx w) (fun _ => 0) g0 w v c
theorem in_raw {w : World} {v : Value} : In w v (.per (rawP v)) := rfl
theorem in_lst {α : Type} {k : Nat} {enc : α → List Value} (hE : Enc k enc) {l : List α} {w : World} {v : Value} (h : Sl k enc w v l) : In w v (.per (lstP k (l.map (rawsE enc)))) :=
  sl_lst hE (fun _ hb => hb.elim id (fun h => h rfl)) h
theorem run1 {P : Program} {f : FuncId} {c : Cnt} {w : World} {v : Value} (h : Fn P f [c] (.per (rawP (.bool true)))) (h0 : In w v c) : Calls P f #[v] w fun e w' => e = .returned (.bool true) ∧ Ext w w' := by
  refine (h.run (fun _ => False) w [v] (fun _ hb => hb.elim) ⟨rfl, fun i u d hi hj => ?_⟩).mono ?_
  · match i, hi, hj with
    | 0, hi, hj => cases hi; cases hj; exact h0
    | _ + 1, hi, _ => simp at hi
  · rintro e w' ⟨u, rfl, hx, hu⟩
    have hu : u = .bool true := hu
    exact ⟨by rw [hu], hx⟩
theorem run2 {P : Program} {f : FuncId} {c d : Cnt} {w : World} {v v' : Value} (h : Fn P f [c, d] (.per (rawP (.bool true)))) (h0 : In w v c) (h1 : In w v' d) : Calls P f #[v, v'] w fun e w' => e = .returned (.bool true) ∧ Ext w w' := by
  refine (h.run (fun _ => False) w [v, v'] (fun _ hb => hb.elim) ⟨rfl, fun i u d hi hj => ?_⟩).mono ?_
  · match i, hi, hj with
    | 0, hi, hj => cases hi; cases hj; exact h0
    | 1, hi, hj => cases hi; cases hj; exact h1
    | _ + 2, hi, _ => simp at hi
  · rintro e w' ⟨u, rfl, hx, hu⟩
    have hu : u = .bool true := hu
    exact ⟨by rw [hu], hx⟩
theorem run3 {P : Program} {f : FuncId} {c d d' : Cnt} {w : World} {v v' v'' : Value} (h : Fn P f [c, d, d'] (.per (rawP (.bool true)))) (h0 : In w v c) (h1 : In w v' d) (h2 : In w v'' d') : Calls P f #[v, v', v''] w fun e w' => e = .returned (.bool true) ∧ Ext w w' := by
  refine (h.run (fun _ => False) w [v, v', v''] (fun _ hb => hb.elim) ⟨rfl, fun i u d hi hj => ?_⟩).mono ?_
  · match i, hi, hj with
    | 0, hi, hj => cases hi; cases hj; exact h0
    | 1, hi, hj => cases hi; cases hj; exact h1
    | 2, hi, hj => cases hi; cases hj; exact h2
    | _ + 3, hi, _ => simp at hi
  · rintro e w' ⟨u, rfl, hx, hu⟩
    have hu : u = .bool true := hu
    exact ⟨by rw [hu], hx⟩
end Go.Proofs.YtoiaegbmbhgdpaaGreat
namespace Go.Proofs.YtoiaegbmbhgdpaaGreat
open Go.RowKit
/-- what reads as A reads as B -/
def Imp (A B : PV) : Prop := ∀ (N : BP) (w : World) (v : Value), A.p N w v → B.p N w v
theorem Imp.refl {A : PV} : Imp A A := fun _ _ _ h => h
theorem nil_imp {k : Nat} : Imp (rawP (.slice none 0 0)) (lstP k []) := fun N w v h => by
  have h : v = .slice none 0 0 := h
  subst h
  exact ⟨none, 0, 0, 0, rfl, by simp, by decide, fun _ => rfl, by simp, fun i cs hi => by simp at hi⟩
inductive PW : List PV → List PV → Prop
  | nil : PW [] []
  | cons {A B : PV} {l l' : List PV} (h : Imp A B) (k : PW l l') : PW (A :: l) (B :: l')
theorem PW.len {l l' : List PV} (h : PW l l') : l.length = l'.length := by
  induction h with
  | nil => rfl
  | cons h k ih => simp [ih]
theorem PW.get {l l' : List PV} (h : PW l l') : ∀ (j : Nat) (B : PV), l'[j]? = some B → ∃ A, l[j]? = some A ∧ Imp A B := by
  induction h with
  | nil => intro j B h; simp at h
  | @cons A B l l' h k ih =>
    intro j C hj
    cases j with
    | zero => simp at hj; subst hj; exact ⟨A, rfl, h⟩
    | succ j => simpa using ih j C (by simpa using hj)
theorem agg_imp {l l' : List PV} (h : PW l l') : Imp (aggP l) (aggP l') := fun N w v ⟨vs, e, h1, h2⟩ => by
  refine ⟨vs, e, by rw [h1, h.len], fun j B hj => ?_⟩
  obtain ⟨A, q1, q2⟩ := h.get j B hj
  obtain ⟨y, r1, r2, r3⟩ := h2 j A q1
  exact ⟨y, r1, r2, q2 N w y r3⟩
section
variable {P : Program} {n : Nat} {S : St} {A B : PV} {rv : ResultVar} {τ : List (Nat × Nat)}
theorem rvm_wk (h : RVM P n S τ rv (.per A)) (k : Imp A B) : RVM P n S τ rv (.per B) := fun C g a w hR => by
  obtain ⟨v, h1, h2⟩ := h C g a w hR
  exact ⟨v, h1, k _ _ _ h2⟩
theorem rv_wk (h : ResVarOk P n S rv (.per A)) (k : Imp A B) : ResVarOk P n S rv (.per B) := fun C g a w hL hR => by
  obtain ⟨v, h1, h2⟩ := h C g a w hL hR
  exact ⟨v, h1, k _ _ _ h2⟩
theorem Fn.arg1 {f : FuncId} {r : Ret} (h : Fn P f [.per B] r) (k : Imp A B) : Fn P f [.per A] r := ⟨h.ent, fun N0 w vs hN ha => by
  refine h.run N0 w vs hN ⟨ha.1, fun i u c hi hj => ?_⟩
  match i, hi, hj with
  | 0, hi, hj => cases hj; exact k _ _ _ (ha.2 0 u (.per A) hi rfl)
  | _ + 1, _, hj => simp at hj⟩
end
end Go.Proofs.YtoiaegbmbhgdpaaGreat
namespace Go.Proofs.YtoiaegbmbhgdpaaGreat
open Go.RowKit
abbrev msCs (m : Msg) : List PV := [rawP (.int .i64 m.kind), rawP (.int .i64 m.ses), rawP (.int .i64 m.num), rawP (.int .i64 m.lim), rawP (.int .i64 m.seed), rawP (.int .i64 m.bits), rawP (.int .i64 m.nxt), rawP (.int .i64 m.err), rawP (.bool m.wants), rawP (.bool m.same), rawP (.bool m.last), rgsP m.flt, pcsP m.know, bysP m.there, rawP (.string m.rg.lo), rawP (.string m.rg.hi), rawP (.bool m.rg.op), rawP (.int .u64 (m.sum : Nat)), itsP m.its]
abbrev msP (m : Msg) : PV := aggP (msCs m)
abbrev msC (m : Msg) : Cnt := .per (msP m)
abbrev nilP : PV := rawP (.slice none 0 0)
abbrev eP : PV := rawP (.string ⟨#[]⟩)
abbrev zIP : PV := rawP (.int .i64 0)
abbrev zBP : PV := rawP (.bool false)
/-- the cells of 'Message{}' -/
abbrev zmCs : List PV := [zIP, zIP, zIP, zIP, zIP, zIP, zIP, zIP, zBP, zBP, zBP, nilP, nilP, nilP, eP, eP, zBP, rawP (.int .u64 0), nilP]
end Go.Proofs.YtoiaegbmbhgdpaaGreat
namespace Go.Proofs.YtoiaegbmbhgdpaaGreat
open Go.RowKit Go.WideMaps Go
def litI (n : Int) : DataW Unit := .lit (.int .i64 n)
/-- a map of texts to numbers, of at most n entries: at a text it has f -/
def mapO (P : Program) (K E : TypeId) (n : Nat) (f : ByteArray → Int) : OV where
  p F _ w v := ∃ (b : Nat) (D : DataW Unit), v = .map (some b) ∧ F b ∧ World.ownsMap w P K (plainElem P E) b n D ∧ ∀ s : ByteArray, s.size ≤ maxLen → D.atKey (.string s.data.toList) (litI 0) = litI (f s)
  mono := by
    rintro F F' N N' w w' v h1 h2 h3 h4 h5 h6 ⟨b, D, rfl, hb, ⟨es, clock, q1, q2, q3, q4⟩, hD⟩
    exact ⟨b, D, rfl, h1 b hb, ⟨es, clock, by rw [h4 b (h2 b hb) hb]; exact q1, q2, q3, q4⟩, hD⟩
  one := by
    rintro F N w v ⟨b, D, rfl, _⟩
    exact ⟨rfl, rfl⟩
section
variable {P : Program} {n t : Nat} {ops : Array Oper} {o : Oper} {S : St} {K E : TypeId}
theorem op_mkmap {ty : TypeId} (hp : Pl n o t) (ho : o.op = .makeMap ty none) : OpOk n P ops o [2 * t + 1] (.row t (S.ver t + 1)) [(t, S.ver t + 1, .obj (mapO P K E 0 (fun _ => 0)))] S :=
  op_mk hp (by simp) fun C T g a w hA hR => by
    refine ⟨.map (some w.heap.size), w.alloc (.map #[] 0), w.heap.size, ?_, (Ext.refl w).alloc _, Nat.le_refl _, alloc_lt _ _, fun vr' hvr hst => ⟨?_, ?_⟩⟩
    · simp only [execOp, ho, Sem.run_bind]; rfl
    · exact ⟨by rw [hvr, if_pos rfl]; exact Nat.le_refl _, fun _ => (if_pos rfl).symm⟩
    · have hrh : (g.mk1 t w.heap.size (.map (some w.heap.size))).rh t = .map (some w.heap.size) := if_pos rfl
      refine ⟨w.heap.size, .map [], hrh, if_pos rfl, World.ownsMap_made _ _ _ _, fun s _ => rfl⟩
theorem op_mapget {ty : TypeId} {x k : Operand} {id vr m : Nat} {f : ByteArray → Int} {s : ByteArray} (hp : Pl n o t) (ho : o.op = .lookup ty x k false) (hK : P.underlying K = some .string) (hT : P.underlying ty = some (.map K E)) (hE : P.underlying E = some (.int .i64))
    (hz : ∀ w : World, (zeroValue E).run P w = .ok (.int .i64 0) w) (hx : S.opd x = .row id vr) (hv : S.ver id = vr) (hb : S.blk id = .obj (mapO P K E m f)) (hk : S.opd k = sC s) (hs : s.size ≤ maxLen) :
    OpOk n P ops o ((2 * id + 1) :: (opdN x ++ opdN k)) (iC .i64 (f s)) [] S :=
  op_val hp fun C T g a w hA hR => by
    have hxe := opd_rep (x := x) hA (fun k h => by simp [h]) hR
    rw [hx] at hxe
    have hvt := (hA.2 id (by simp)).2
    have hev := hxe.2 (by rw [hvt, hv])
    have hke := raw_opd (x := k) hA (fun k h => by simp [h]) hR hk
    have hB := hR.blks id
    rw [(hA.2 id (by simp)).1, hb] at hB
    obtain ⟨b, D, q1, q2, q3, q4⟩ := hB
    rw [q1] at hev
    obtain ⟨c, hrun, hat, _⟩ := q3.lookup_int (Maps.string_keyed hK) hT hE (hz w) (keyOf_string_mk hK hs)
    have hc : c = f s := by
      have := q4 s hs
      unfold litI at this
      rw [hat] at this
      injection this with this
      injection this
    refine ⟨.int .i64 (f s), ?_, rfl⟩
    simp only [execOp, ho, hev, hke, Sem.run_bind, hrun, hc]; rfl
theorem op_mapset {ty : TypeId} {x k y : Operand} {id vr m : Nat} {f : ByteArray → Int} {s : ByteArray} {z : Int} (hp : Pl0 o) (ho : o.op = .mapUpdate ty x k y) (hK : P.underlying K = some .string) (hT : P.underlying ty = some (.map K E)) (hE : P.underlying E = some (.int .i64))
    (hx : S.opd x = .row id vr) (hv : S.ver id = vr) (hb : S.blk id = .obj (mapO P K E m f)) (hk : S.opd k = sC s) (hs : s.size ≤ maxLen) (hy : S.opd y = iC .i64 z) (hw : (Lit.int .i64 z).wf = true) (hm : m < maxLen) :
    OpOk n P ops o ((2 * id + 1) :: (opdN x ++ opdN k ++ opdN y)) .any [(id, vr, .obj (mapO P K E (m + 1) (fun u => if u = s then z else f u)))] S := by
  refine ⟨?_⟩
  intro C T hA a w ⟨g, hR⟩
  have hxe := opd_rep (x := x) hA (fun k h => by simp [h]) hR
  rw [hx] at hxe
  have hvt := (hA.2 id (by simp)).2
  have hev := hxe.2 (by rw [hvt, hv])
  have hke := raw_opd (x := k) hA (fun k h => by simp [h]) hR hk
  have hye := raw_opd (x := y) hA (fun k h => by simp [h]) hR hy
  have hB := hR.blks id
  rw [(hA.2 id (by simp)).1, hb] at hB
  obtain ⟨b, D, q1, q2, q3, q4⟩ := hB
  rw [q1] at hev
  obtain ⟨w', hrun, r1, r2⟩ := q3.update (Maps.string_keyed hK) hT hm (keyOf_string_mk hK hs) (plainElem_int hE hw)
  unfold Exec
  rw [if_pos (by simp [Region.wanted, hp.1])]
  unfold Oper.wp
  have hex : (execOp a.eval o).run P w = .ok .skip w' := by
    simp only [execOp, ho, hev, hke, hye, Sem.run_bind, hrun]; rfl
  rw [hex, Oper.upon_skip]
  have hver : (T.app o.dst .any [(id, vr, .obj (mapO P K E (m + 1) (fun u => if u = s then z else f u)))]).ver = T.ver := by
    funext i'
    rw [St.app_some_ver]
    split
    · rename_i h; subst h; rw [hvt, hv]
    · rfl
  have hst : Stp C (fun i => i = id) T.ver T.ver g g w w' := by
    refine ⟨r2.size, fun b' hb' hn => r2.block b' hb' (fun e => by cases e; exact hn id rfl q2), fun b _ _ => rfl, fun b _ h => h, fun b i e => ?_, fun _ => .inl rfl, fun _ _ => ⟨rfl, rfl⟩, fun _ _ => ⟨rfl, rfl⟩, r2.os, r2.tape, r2.output⟩
    have := hR.dom b i e
    exact ⟨Nat.lt_of_lt_of_le this.1 r2.size, this.2⟩
  refine ⟨g, hR.app1 (c := .any) (fun t h => by rw [hp.2] at h; cases h) (by rw [hver]; exact hst) trivial ?_⟩
  rw [hver]
  refine ⟨b, _, q1, q2, r1, fun u hu => ?_⟩
  by_cases e : u = s
  · subst e
    show _ = litI (if u = u then z else f u)
    rw [if_pos rfl]
    exact Maps.atKey_put_same (by obtain ⟨_, _, _, _, _, h⟩ := q3; exact ⟨_, h⟩) (by trivial) _ _
  · show _ = litI (if u = s then z else f u)
    rw [if_neg e, Maps.atKey_put_other (fun h => e (by
      injection h with h
      exact ByteArray.ext (Array.toList_inj.1 h)))]
    exact q4 u hu
end
end Go.Proofs.YtoiaegbmbhgdpaaGreat
