/- The laws of items that win, walked. -/
import Derived.Test.YtbpmafpmlapekaaWins
namespace Go.Proofs.Ytbpmafpmlapekaa
open Go.RowKit
section
variable {P : Program} {n t : Nat} {ops : Array Oper} {o : Oper} {S : St}
theorem op_eqB {op : BinOp} {q : Bool} {ty ty' : TypeId} {x y : Operand} {u v : Bool} (hp : Pl n o t) (ho : o.op = .binOp op ty x y ty') (hT : Und P ty .bool) (hx : S.opd x = bC u) (hy : S.opd y = bC v) (hq : sBin q op) : OpOk n P ops o (opdN x ++ opdN y) (bC ((u == v) != q)) [] S :=
  op_val hp fun C T g a w hA hR => by
    have h1 := raw_opd (x := x) hA (fun k h => by simp [h]) hR hx
    have h2 := raw_opd (x := y) hA (fun k h => by simp [h]) hR hy
    refine ⟨.bool ((u == v) != q), ?_, rfl⟩
    rcases hq with ⟨rfl, rfl⟩ | ⟨rfl, rfl⟩
    · simp [execOp, ho, h1, h2, eqGuard_at_bool, run_eql_bool _ _ _ _ hT.h]
    · simp [execOp, ho, h1, h2, eqGuard_at_bool, run_neq_bool _ _ _ _ hT.h]
theorem op_neg {ty : TypeId} {x : Operand} {k : IntKind} {p z : Int} (hp : Pl n o t) (ho : o.op = .unOp .neg ty x) (hx : S.opd x = iC k p) (hz : k.wrap (0 - p) = z) : OpOk n P ops o (opdN x) (iC k z) [] S :=
  op_val hp fun C T g a w hA hR => by
    have h1 := raw_opd (x := x) hA (fun k h => by simp [h]) hR hx
    subst hz
    exact ⟨.int k (k.wrap (0 - p)), by simp [execOp, ho, h1, Op.unary, Op.intArith], rfl⟩
theorem op_maxJ {ty ty' : TypeId} {x y : Operand} {k : IntKind} {u v z : Int} (hp : Pl n o t) (ho : o.op = .call { callee := .builtin .max, args := #[x, y], argTypes := #[ty, ty'] }) (hx : S.opd x = iC k u) (hy : S.opd y = iC k v) (hz : (if v > u then v else u) = z) : OpOk n P ops o (opdN x ++ opdN y) (iC k z) [] S :=
  hz ▸ op_max hp ho hx hy
end
def a18 : It := ⟨⟨#[107]⟩, 1, 1, 3, 0, false, ⟨#[]⟩⟩
def b18 : It := ⟨⟨#[107]⟩, 5, 9, 2, 0, false, ⟨#[98]⟩⟩
theorem ng1 : IntKind.i64.wrap (0 - 1) = -1 := by decide
theorem ng0 : IntKind.i64.wrap (0 - 0) = 0 := by decide
theorem ngm : IntKind.i64.wrap (0 - (-1)) = 1 := by decide
theorem cmpI_anti (x y : It) : cmpI y x = - cmpI x y ∧ (cmpI x y = 1 ∨ cmpI x y = 0 ∨ cmpI x y = -1) := by
  unfold cmpI cmpV
  grind
section
set_option maxRecDepth 10000
set_option maxHeartbeats 4000000
theorem awake18 : Fn Try.prog 25 [] (boR true) := by
  have h1 := item_Wins [b18, a18] (by decide)
  rw [show bstGo 0 none [b18, a18] = some (1, a18) from by decide] at h1
  simp only [zo, Option.isSome] at h1
  have h2 := item_Right a18
  rw [show itR a18 = true from by decide] at h2
  have h3 := item_Cmp a18 b18
  rw [show cmpI a18 b18 = 1 from by decide] at h3
  have h4 := item_Merge [[a18], [b18]] (by decide) (by decide) (by decide)
  rw [show mergeK [[a18], [b18]] = [a18] from by decide] at h4
  have hE := itE_o a18 a18
  rw [(itE_iff a18 a18).2 rfl] at hE
  refine fn_intro Try.func25 rfl (by kernel_rfl) Try.ntmps25 (Nat.le_of_ble_eq_true rfl) ?_
  (repeat' (first | refine AW_seq ?_ | refine AW_block ?_ | refine AW_skip ?_ | refine AW_exit ?_ | refine AW_ret ?_ | refine AW_region ?_ | refine AW_draw mixed0 ?_ | refine AL_nil ?_ | refine AD_nil (by kernel_rfl) ?_ | (refine AW_cl rfl rfl ⟨fun hc => ?_, fun hc => ?_⟩ <;> (repeat rw [List.length_map] at hc) <;> (try exact absd hc)) | ((first | apply AL_t rfl | apply AL_0 rfl | apply AD_t rfl | apply AD_0 rfl); focus (first | exact z_auto | exact c_A (h1) | exact c_A (h2) | exact c_A (h3) | exact c_A (h4) | (exact op_eqA (us := encIt a18) (vs := encIt a18) ⟨rfl, rfl, rfl⟩ rfl rfl rfl (by first | exact .inl ⟨rfl, rfl⟩ | exact .inr ⟨rfl, rfl⟩) itG rfl hE) | (apply u_g; (focus rfl); apply op_gyes rfl rfl rfl rfl rfl; (exact op_eqA (us := encIt a18) (vs := encIt a18) ⟨rfl, rfl, rfl⟩ rfl rfl rfl (by first | exact .inl ⟨rfl, rfl⟩ | exact .inr ⟨rfl, rfl⟩) itG rfl hE)) | fail)) | refine thenA_n ?_ | refine thenA_r ?_ | refine thenA_e ?_ | refine inB_n ?_ | refine inB_r ?_ | refine inB_hit ?_ | refine inB_miss rfl ?_ | ((first | refine AL_cl rfl rfl rfl ⟨fun hc => ?_, fun hc => ?_⟩ | refine AD_cl rfl rfl rfl ⟨fun hc => ?_, fun hc => ?_⟩) <;> (fail_if_success (have q : (true = true) := hc)) <;> (fail_if_success (have q : (false = false) := hc)) <;> (repeat rw [List.length_map] at hc) <;> (try exact absd hc)) | refine AW_cond_nil rfl rfl (fun hc => ?_) ?_))
  (refine ⟨(by first | exact .inl rfl | exact .inr rfl), res1 rfl ?_⟩)
  exact rv_bool rfl rfl
end
end Go.Proofs.Ytbpmafpmlapekaa
