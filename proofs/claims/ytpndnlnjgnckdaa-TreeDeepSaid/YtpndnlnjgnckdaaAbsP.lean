/- Calls that read what the call owns: lent for reading. No program in sight. -/
import Derived.Test.YtpndnlnjgnckdaaAbsO
import Derived.Test.YtpndnlnjgnckdaaAbsB
namespace Go.Proofs.Ytpndnlnjgnckdaa
open Go.RowKit
section
variable {P : Program} {n : Nat} {ops : Array Oper} {o : Oper} {S : St} {t : Nat}
def idsN (ids : List Nat) : List Nat := ids.map fun i => 2 * i + 1
theorem idsN_mem {ids : List Nat} : ∀ i ∈ ids, 2 * i + 1 ∈ idsN ids := fun i hi => List.mem_map.2 ⟨i, hi, rfl⟩
theorem GivesP.mono {F F' : List Nat} {ids : List Nat} {x : Operand} {c : Cnt} (h : GivesP F S ids x c) (hF : ∀ k ∈ F, k ∈ F') : GivesP F' S ids x c :=
  fun n C T g a w hA hR => h n C T g a w ⟨fun t ht => hA.1 t (hF _ ht), fun i hi => hA.2 i (hF _ hi)⟩ hR
inductive GPl (S : St) (ids : List Nat) : List Operand → List Cnt → Prop
  | nil : GPl S ids [] []
  | cons {x : Operand} {c : Cnt} {xs : List Operand} {cs : List Cnt} (h : GivesP (srcN S x ++ idsN ids) S ids x c) (t : GPl S ids xs cs) : GPl S ids (x :: xs) (c :: cs)
theorem GPl.gives {ids : List Nat} {xs : List Operand} {cs : List Cnt} (h : GPl S ids xs cs) {F : List Nat} (hF : ∀ k ∈ callN S xs, k ∈ F) (hI : ∀ k ∈ idsN ids, k ∈ F) : GivesPL F S ids xs cs := by
  induction h with
  | nil => exact .nil
  | cons h t ih =>
    refine .cons (h.mono (fun k hk => ?_)) (ih (fun k hk => hF k (by simp only [callN, List.flatMap_cons, List.mem_append]; exact .inr hk)))
    rcases List.mem_append.1 hk with q | q
    · exact hF k (by simp only [callN, List.flatMap_cons, List.mem_append]; exact .inl q)
    · exact hI k q
theorem gpq_sees {ids : List Nat} {x : Operand} {c : Cnt} {A : PV} (hx : S.opd x = c) (h : Sees S ids c A) : GivesP (srcN S x ++ idsN ids) S ids x (.per A) := gp_sees hx h (fun k hk => by simp [srcN, hk]) (fun i hi => by simp [idsN_mem i hi])
theorem gpq_per {ids : List Nat} {x : Operand} {A : PV} (hx : S.opd x = .per A) : GivesP (srcN S x ++ idsN ids) S ids x (.per A) := gpq_sees hx .per
theorem gpq_lst {ids : List Nat} {x : Operand} {k : Nat} {es : List (List PV)} (hx : S.opd x = .per (lstP k es)) : GivesP (srcN S x ++ idsN ids) S ids x (.bor k es) := gp_lst hx (fun k hk => by simp [srcN, hk])
theorem gpq_bor {ids : List Nat} {x : Operand} {k : Nat} {es : List (List PV)} (hx : S.opd x = .bor k es) : GivesP (srcN S x ++ idsN ids) S ids x (.bor k es) := gp_bor hx (fun k hk => by simp [srcN, hk])
theorem gpq_row {ids : List Nat} {x : Operand} {id vr e k : Nat} {es : List (List PV)} (hx : S.opd x = .row id vr) (hv : S.ver id = vr) (hb : S.blk id = .row e k es) : GivesP (srcN S x ++ idsN ids) S ids x (.bor k es) := gp_row hx hv hb (fun k hk => by simp [srcN, hk]) (by simp [srcN, hx, rowN])
theorem gpq_rows {ids : List Nat} {x : Operand} {id vr e k : Nat} {es : List (List PV)} (hx : S.opd x = .row id vr) (hv : S.ver id = vr) (hb : S.blk id = .row e k es) (hi : memN id ids = true) : GivesP (srcN S x ++ idsN ids) S ids x (.per (lstP k es)) := gpq_sees hx (.row hv hb hi)
theorem gpq_box {ids : List Nat} {x : Operand} {id vr e : Nat} {cells : List Cnt} {As : List PV} (hx : S.opd x = .ptr id vr 0) (hv : S.ver id = vr) (hb : S.blk id = .box e cells) (hi : memN id ids = true) (h : SeesL S ids cells As) : GivesP (srcN S x ++ idsN ids) S ids x (.per (rptrP As)) :=
  gp_box hx hv hb hi h (fun k hk => by simp [srcN, hk]) (fun i hi => by simp [idsN_mem i hi])
theorem c_P {ids : List Nat} {f : FuncId} {xs : List Operand} {As : List Cnt} {r : Ret} (hf : Fn P f As r) (hp : Pl n o t := by exact ⟨rfl, rfl, rfl⟩) (ho : isCall o f xs := by exact ⟨_, rfl⟩) (hpl : r.plain = true := by rfl) (ha : AbsR r := by infer_instance) (hg : GPl S ids xs As) :
    OpOk n P ops o (callN S xs ++ idsN ids) (ansC t 0 r) [] S := op_callP hp ho hf hpl ha (hg.gives (fun _ h => by simp [h]) (fun _ h => by simp [h]))
theorem op_callP_own {F : List Nat} {ids : List Nat} {f : FuncId} {xs : List Operand} {As : List Cnt} {e k : Nat} {es : List (List PV)} (hp : Pl n o t) (ho : isCall o f xs) (hf : Fn P f As (.own e k es)) (ha : AbsR (.own e k es)) (hg : GivesPL F S ids xs As) (hF : 2 * t + 1 ∈ F) :
    OpOk n P ops o F (.row t (S.ver t + 1)) [(t, S.ver t + 1, .row e k es)] S := by
  refine ⟨?_⟩
  intro C T hA a w ⟨g, hR⟩
  unfold Exec
  rw [if_pos (hp.wanted a)]
  refine callWp hf.ent ho (hf.run _ w (xs.map a.eval) (fun b h => h.1) (hg.rep hA hR)) ?_
  rintro v w' ⟨hx, hr⟩
  have hvt := (hA.2 t hF).2
  have hvr : ∀ i, (T.app o.dst (.row t (S.ver t + 1)) [(t, S.ver t + 1, .row e k es)]).ver i = if i = t then T.ver t + 1 else T.ver i := fun i => by rw [St.app_some_ver, hvt]
  obtain ⟨g', h1, h2, h3⟩ := own_in hR hx hvr (hp.nofix hR) (ha.h hr)
  exact ⟨g', hR.app1 hp.dOk h1 ⟨by rw [hvr, if_pos rfl, hvt]; exact Nat.le_refl _, fun _ => h2.symm⟩ h3⟩
theorem c_PO {ids : List Nat} {f : FuncId} {xs : List Operand} {As : List Cnt} {e k : Nat} {es : List (List PV)} (hf : Fn P f As (.own e k es)) (hp : Pl n o t := by exact ⟨rfl, rfl, rfl⟩) (ho : isCall o f xs := by exact ⟨_, rfl⟩) (ha : AbsR (.own e k es) := by infer_instance) (hg : GPl S ids xs As) :
    OpOk n P ops o ((2 * t + 1) :: (callN S xs ++ idsN ids)) (.row t (S.ver t + 1)) [(t, S.ver t + 1, .row e k es)] S := op_callP_own hp ho hf ha (hg.gives (fun _ h => by simp [h]) (fun _ h => by simp [h])) (by simp)
instance absB (c : UInt8) : AbsL (byteP c) := by unfold byteP; infer_instance
end
end Go.Proofs.Ytpndnlnjgnckdaa
