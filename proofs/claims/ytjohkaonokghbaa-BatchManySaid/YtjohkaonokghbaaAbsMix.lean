/- Rows whose last cell is a row of the call's own ('out[last] = append(out[last], x)'). No program in sight. -/
import Derived.Test.YtjohkaonokghbaaAbsU
namespace Go.Proofs.Ytjohkaonokghbaa
open Go.RowKit
section
variable {P : Program} {n : Nat} {ops : Array Oper} {o : Oper} {F : List Nat} {S T : St} {C : Ctx} {g : Gh} {a : Act} {w w' : World} {t : Nat}

/-- a step that turns what is said of a block alone -/
theorem R_blk {id vr : Nat} {B : Blk} (hR : RG C n S g a w) (hv : S.ver id = vr) (hb : brep C S.ver g w id B) : RG C n (S.putB (some (id, vr, B))) g a w := by
  have hver : (S.putB (some (id, vr, B))).ver = S.ver := by
    funext i
    rw [St.putB_ver]
    split
    · rename_i h; subst h; exact hv.symm
    · rfl
  refine ⟨hR.defers, hR.tsz, hR.os, hR.tape, hR.output, hR.size, hR.old, hR.n0, hR.dom, fun t => ?_, fun i => ?_⟩
  · rw [hver]; exact hR.slots t
  · rw [hver, St.putB_blk]
    split
    · rename_i h; subst h; exact hb
    · exact hR.blks i
/-- the last cell, which is nil, is from now on a row of the call's own -/
theorem Le_mix (id vr id2 e e2 k2 : Nat) {D : List PV} (hv : S.ver id = vr) (hb : S.blk id = .row e 1 (D.map (fun A => [A]) ++ [[rawP (.slice none 0 0)]])) (hne : Nat.beq id id2 = false) :
    Le n S ((S.putB (some (id2, S.ver id2 + 1, .row e2 k2 []))).putB (some (id, vr, .mix e D (.row id2 (S.ver id2 + 1))))) := by
  rintro C a w ⟨g, hR⟩
  have hne' : id ≠ id2 := fun h => by rw [nbeq_true.2 h] at hne; cases hne
  have hvr : ∀ i, (S.app none .any (some (id2, S.ver id2 + 1, .row e2 k2 []))).ver i = if i = id2 then S.ver id2 + 1 else S.ver i := fun i => St.app_some_ver _ _ _ _ _ _ _
  have hst := stp_mkN (v := .slice none 0 0) (t := id2) hR (Ext.refl w) hvr
  have h1 := hR.app1 (d := none) (c := .any) (v := undef) (fun _ h => by cases h) hst trivial (.inl ⟨if_pos rfl, rfl⟩)
  have hvr2 := fun i => St.putB_ver S id2 (S.ver id2 + 1) (.row e2 k2 []) i
  refine ⟨_, R_blk (id := id) (vr := vr) h1 ?_ ?_⟩
  · rw [hvr2, if_neg hne', hv]
  · have h2 := h1.blks id
    rw [St.app_some_blk, if_neg hne', hb] at h2
    rcases h2 with ⟨_, q⟩ | ⟨cap, cs, q1, q2, q3, q4, q5, q6, q7⟩
    · simp at q
    · simp only [List.length_append, List.length_map, List.length_cons, List.length_nil] at q1 q4
      refine ⟨cap, cs, q1, q2, q3, q4, q5, by rw [q6, Nat.mul_one], fun i A hi => ?_, ?_⟩
      · obtain ⟨_, r⟩ := q7 i [A] (by rw [List.getElem?_append_left (by
          have := (List.getElem?_eq_some_iff.1 hi).1; simpa using this), List.getElem?_map, hi]; rfl)
        obtain ⟨y, s1, s2, s3⟩ := r 0 A rfl
        exact ⟨y, by simpa using s1, s2, s3⟩
      · obtain ⟨_, r⟩ := q7 D.length [rawP (.slice none 0 0)] (by rw [List.getElem?_append_right (by simp)]; simp)
        obtain ⟨y, s1, s2, s3⟩ := r 0 _ rfl
        have s3 : y = .slice none 0 0 := s3
        exact ⟨y, by simpa using s1, s2, by rw [hvr2, if_pos rfl]; exact Nat.le_refl _, fun _ => by rw [s3]; exact (if_pos rfl).symm⟩
/-- the last cell's row is nobody's any more -/
theorem Le_unmix (id vr id2 e : Nat) {v2 e2 k2 : Nat} {D : List PV} {es2 : List (List PV)} (hid : Nat.blt id2 1000 = true) (hv : S.ver id = vr) (hb : S.blk id = .mix e D (.row id2 v2)) (hv2 : S.ver id2 = v2) (hb2 : S.blk id2 = .row e2 k2 es2) :
    Le n S ((S.putB (some (id2, v2 + 1, .none))).putB (some (id, vr, .row e 1 (D.map (fun A => [A]) ++ [[lstP k2 es2]])))) := by
  rintro C a w ⟨g, hR⟩
  have hne' : id ≠ id2 := fun h => by rw [h, hb2] at hb; cases hb
  let g' : Gh := ⟨fun b => if g.ow b = some id2 then none else g.ow b, g.ph, g.rh⟩
  have hg' : ∀ b, g'.ow b = if g.ow b = some id2 then none else g.ow b := fun _ => rfl
  have hvr : ∀ i, (S.app none .any (some (id2, v2 + 1, .none))).ver i = if i = id2 then v2 + 1 else S.ver i := fun i => St.app_some_ver _ _ _ _ _ _ _
  have hst : Stp C (some id2) S.ver (S.app none .any (some (id2, v2 + 1, .none))).ver g g' w w := by
    refine ⟨Nat.le_refl _, fun _ _ _ => rfl, fun b _ hn => ?_, fun b _ hn => ?_, fun b i e => ?_, fun i => ?_, fun _ _ => ⟨rfl, rfl⟩, rfl, rfl, rfl⟩
    · rw [hg', if_neg (hn id2 rfl)]
    · rw [hg'] at hn
      by_cases h : g.ow b = some id2
      · rw [h]; simp
      · rwa [if_neg h] at hn
    · rw [hg'] at e
      by_cases h : g.ow b = some id2
      · rw [if_pos h] at e; cases e
      · rw [if_neg h] at e; exact hR.dom b i e
    · rw [hvr]
      by_cases h : i = id2
      · subst h; exact .inr ⟨rfl, by rw [if_pos rfl]; omega⟩
      · rw [if_neg h]; exact .inl rfl
  have hB := hR.blks id
  rw [hb] at hB
  have hB2 := hR.blks id2
  rw [hb2] at hB2
  have h1 := hR.app1 (d := none) (c := .any) (v := undef) (fun _ h => by cases h) hst trivial trivial
  have hvr2 := fun i => St.putB_ver S id2 (v2 + 1) .none i
  refine ⟨_, R_blk (id := id) (vr := vr) h1 ?_ ?_⟩
  · rw [hvr2, if_neg hne', hv]
  · obtain ⟨cap, cs, q1, q2, q3, q4, q5, q6, q7, y, r1, r2, r3⟩ := hB
    have hlst : lstAt (g'.N C) (g'.N C) k2 es2 w y := by
      rw [show y = g.rh id2 from r3.2 hv2.symm]
      rcases hB2 with ⟨t1, rfl⟩ | ⟨cap2, cs2, t1, t2, t3, t4, t5, t6, t7⟩
      · exact ⟨none, 0, 0, 0, by rw [t1]; rfl, by simp, by decide, fun _ => rfl, by simp, fun i cs hi => by simp at hi⟩
      · have hd := hR.dom _ _ t3
        refine ⟨_, cap2, g.ph id2, 0, t1, t4, t5, by simp, fun _ => ⟨rfl, hd.1, fun hn => ?_⟩, fun i ps hi => ?_⟩
        · rcases hn with hn | hn
          · have := hR.n0 _ hn
            rcases hd.2 with q | q
            · omega
            · have := Nat.le_of_ble_eq_true hid; omega
          · rw [hg', if_pos t3] at hn; exact hn rfl
        · obtain ⟨u1, u2⟩ := t7 i ps hi
          refine ⟨u1, fun j A hj => ?_⟩
          obtain ⟨y, s1, s2, s3⟩ := u2 j A hj
          exact ⟨y, by rw [Nat.zero_add, cell_at t2]; exact s1, s2, A.mono (Nat.le_refl _) (fun _ _ _ => rfl) hst.n s3⟩
    refine .inr ⟨cap, cs, by simpa using q1, q2, by rw [hg', if_neg (by rw [q3]; simpa using hne')]; exact q3, by simpa using q4, q5, by rw [q6, Nat.mul_one], fun i ps hi => ?_⟩
    rcases Nat.lt_or_ge i D.length with hlt | hge
    · rw [List.getElem?_append_left (by simpa using hlt), List.getElem?_map] at hi
      cases hA : D[i]? with
      | none => rw [hA] at hi; cases hi
      | some A =>
        rw [hA] at hi; cases hi
        refine ⟨rfl, fun j A' hj => ?_⟩
        cases j with
        | zero =>
          simp at hj; subst hj
          obtain ⟨y', s1, s2, s3⟩ := q7 i A hA
          exact ⟨y', by simpa using s1, s2, A.mono (Nat.le_refl _) (fun _ _ _ => rfl) hst.n s3⟩
        | succ j => simp at hj
    · rw [List.getElem?_append_right (by simpa using hge)] at hi
      have h0 : i - (D.map (fun A => [A])).length = 0 := by
        cases hq : i - (D.map (fun A => [A])).length with
        | zero => rfl
        | succ q => rw [hq] at hi; simp at hi
      rw [h0] at hi
      simp at hi; subst hi
      have hiD : i = D.length := by simp at h0; omega
      subst hiD
      refine ⟨rfl, fun j A' hj => ?_⟩
      cases j with
      | zero => simp at hj; subst hj; exact ⟨y, by simpa using r1, r2, hlst⟩
      | succ j => simp at hj
theorem mix_at {x : Operand} {id vr e : Nat} {D : List PV} {c : Cnt} (hA : Agree F T S) (hF : ∀ k ∈ opdN x, k ∈ F) (hF' : 2 * id + 1 ∈ F) (hR : RG C n T g a w) (hx : S.opd x = .row id vr) (hv : S.ver id = vr) (hb : S.blk id = .mix e D c) :
    a.eval x = g.rh id ∧ brep C T.ver g w id (.mix e D c) := by
  have h := opd_rep hA hF hR
  rw [hx] at h
  have h2 := hA.2 id hF'
  have h3 := hR.blks id
  rw [h2.1, hb] at h3
  exact ⟨h.2 (by rw [h2.2, hv]), h3⟩
theorem u_len_m {ty e' : TypeId} {x : Operand} {id vr e : Nat} {D : List PV} {c : Cnt} (hp : Pl n o t) (ho : isLen o ty x) (hT : Und P ty (.slice e')) (hx : S.opd x = .row id vr) (hv : S.ver id = vr) (hb : S.blk id = .mix e D c) :
    OpOk n P ops o ((2 * id + 1) :: opdN x) (iC .i64 ((D.length + 1 : Nat) : Int)) none S :=
  op_val hp fun C T g a w hA hR => by
    obtain ⟨h1, cap, cs, q1, _⟩ := mix_at (x := x) hA (fun k h => by simp [h]) (by simp) hR hx hv hb
    exact ⟨_, execLen ho (h1.trans q1) (lenRun hT.h w), rfl⟩
theorem u_index_m {ty e' : TypeId} {x ix : Operand} {id vr e i : Nat} {kk : IntKind} {z : Int} {D : List PV} {c : Cnt} (hp : Pl n o t) (ho : o.op = .indexAddr ty x ix) (hT : Und P ty (.slice e')) (hk : Siz P e' 1)
    (hx : S.opd x = .row id vr) (hv : S.ver id = vr) (hb : S.blk id = .mix e D c) (hi : S.opd ix = iC kk z) (hz : z = (i : Int)) (hlt : i < D.length + 1) : OpOk n P ops o ((2 * id + 1) :: (opdN x ++ opdN ix)) (.ept id vr 1 i 0) none S :=
  op_val hp fun C T g a w hA hR => by
    obtain ⟨h1, cap, cs, q1, _⟩ := mix_at (x := x) hA (fun k h => by simp [h]) (by simp) hR hx hv hb
    have h3 := raw_opd (x := ix) hA (fun k h => by simp [h]) hR hi
    have hvt := (hA.2 id (by simp)).2
    refine ⟨.pointer (some ⟨g.ph id, 0 + i * 1, none⟩), ?_, ⟨by omega, fun _ => by simp⟩⟩
    subst hz
    simp only [execOp, ho, h1, q1, h3, Sem.run_bind, indexAt_run hT.h hk.h (by decide) hlt]; rfl
theorem ept_at {x : Operand} {id vr e i : Nat} {D : List PV} {c : Cnt} (hA : Agree F T S) (hF : ∀ k ∈ opdN x, k ∈ F) (hF' : 2 * id + 1 ∈ F) (hR : RG C n T g a w) (hx : S.opd x = .ept id vr 1 i 0) (hv : S.ver id = vr) (hb : S.blk id = .mix e D c) :
    a.eval x = .pointer (some ⟨g.ph id, i, none⟩) ∧ brep C T.ver g w id (.mix e D c) := by
  have h := opd_rep hA hF hR
  rw [hx] at h
  have h2 := hA.2 id hF'
  have h3 := hR.blks id
  rw [h2.1, hb] at h3
  have := h.2 (by rw [h2.2, hv])
  exact ⟨by simpa using this, h3⟩
theorem u_load_m {ty : TypeId} {x : Operand} {id vr e i : Nat} {D : List PV} {c : Cnt} (hp : Pl n o t) (ho : o.op = .load ty x) (hT : AggC P ty false) (hx : S.opd x = .ept id vr 1 i 0) (hv : S.ver id = vr) (hb : S.blk id = .mix e D c) (hi : i = D.length) :
    OpOk n P ops o ((2 * id + 1) :: opdN x) c none S :=
  op_val hp fun C T g a w hA hR => by
    obtain ⟨h1, cap, cs, q1, q2, q3, q4, q5, q6, q7, y, r1, r2, r3⟩ := ept_at (x := x) hA (fun k h => by simp [h]) (by simp) hR hx hv hb
    obtain ⟨d, d1, d2⟩ := hT.h
    subst hi
    refine ⟨y, ?_, r3⟩
    simp only [execOp, ho, h1, Sem.run_bind, loadAt_one (b := g.ph id) (o := D.length) d1 d2 (by rw [cell_at q2]; exact r1)]; rfl
theorem u_store_m {ty : TypeId} {x y : Operand} {id vr e i id2 v2 e2 k2 : Nat} {D : List PV} {c : Cnt} {es2 : List (List PV)} (hp : Pl0 o) (ho : o.op = .store ty x y) (hk : Siz P ty 1) (hx : S.opd x = .ept id vr 1 i 0) (hv : S.ver id = vr) (hb : S.blk id = .mix e D c) (hi : i = D.length)
    (hy : S.opd y = .row id2 v2) (hv2 : S.ver id2 = v2) (hb2 : S.blk id2 = .row e2 k2 es2) :
    OpOk n P ops o ((2 * id + 1) :: (2 * id2 + 1) :: (opdN x ++ opdN y)) .any (some (id, vr, .mix e D (.row id2 v2))) S := by
  refine ⟨?_⟩
  intro C T hA a w ⟨g, hR⟩
  obtain ⟨h1, cap, cs, q1, q2, q3, q4, q5, q6, q7, yy, r1, r2, r3⟩ := ept_at (x := x) hA (fun k h => by simp [h]) (by simp) hR hx hv hb
  obtain ⟨hy1, hy2⟩ := row_at (x := y) hA (fun k h => by simp [h]) (by simp) hR hy hv2 hb2
  have hvt := (hA.2 id (by simp)).2
  have hvt2 := (hA.2 id2 (by simp)).2
  subst hi
  have hone : (g.rh id2).oneCell' = true ∧ (g.rh id2).cells = #[g.rh id2] := by
    rcases hy2 with ⟨t1, _⟩ | ⟨cap2, cs2, t1, _⟩ <;> rw [t1] <;> exact ⟨rfl, rfl⟩
  have hlt : D.length < cs.size := by omega
  unfold Exec
  rw [if_pos (by simp [Region.wanted, hp.1])]
  unfold Oper.wp
  have hrun := storeAt_run (P := P) (ty := ty) (off := D.length) (v := g.rh id2) q2 (by rw [hk.h, hone.2]; rfl) (by rw [hone.2]; exact Nat.zero_lt_one) (by rw [hone.2]; exact hlt) (by rw [hone.2]; simpa using hone.1)
  have hex : (execOp a.eval o).run P w = .ok .skip (w.setRow (g.ph id) (cs.toList.take D.length ++ (g.rh id2).cells.toList ++ cs.toList.drop (D.length + (g.rh id2).cells.size)).toArray) := by
    simp only [execOp, ho, h1, hy1, Sem.run_bind, hrun]; rfl
  rw [hex, Oper.upon_skip]
  have hst := stp_set (cs' := (cs.toList.take D.length ++ (g.rh id2).cells.toList ++ cs.toList.drop (D.length + (g.rh id2).cells.size)).toArray) hR rfl q2 q3
  have hver : (T.app o.dst .any (some (id, vr, .mix e D (.row id2 v2)))).ver = T.ver := by
    funext i
    rw [St.app_some_ver]
    split
    · rename_i h; subst h; rw [hvt, hv]
    · rfl
  refine ⟨g, hR.app1 (c := .any) (fun t h => by rw [hp.2] at h; cases h) (by rw [hver]; exact hst) trivial ?_⟩
  rw [hver]
  have hlen : (cs.toList.take D.length).length = D.length := by simp; omega
  refine ⟨cap, _, q1, setRow_heap _ _ _ _ _ _ q2, q3, q4, q5, by rw [hone.2]; simp; omega, fun i A hA' => ?_, g.rh id2, ?_, hone.1, ⟨by rw [hvt2, hv2]; exact Nat.le_refl _, fun _ => rfl⟩⟩
  · have hil : i < D.length := (List.getElem?_eq_some_iff.1 hA').1
    obtain ⟨y', s1, s2, s3⟩ := q7 i A hA'
    refine ⟨y', ?_, s2, A.mono hst.sz hst.keepN hst.n s3⟩
    rw [List.getElem?_toArray, List.append_assoc, List.getElem?_append_left (by omega), List.getElem?_take, if_pos hil]
    simpa using s1
  · rw [hone.2, List.getElem?_toArray, List.append_assoc, List.getElem?_append_right (by omega), hlen]
    simp
end
end Go.Proofs.Ytjohkaonokghbaa
