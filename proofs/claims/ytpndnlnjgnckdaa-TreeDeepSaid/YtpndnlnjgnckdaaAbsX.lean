/- The operations' rules, tried one after another (all of them). -/
import Derived.Test.YtpndnlnjgnckdaaAbsT
import Derived.Test.YtpndnlnjgnckdaaAbsM
import Derived.Test.YtpndnlnjgnckdaaAbsY
namespace Go.Proofs.Ytpndnlnjgnckdaa
open Go.RowKit
variable {P : Program} {n : Nat} {ops : Array Oper} {o : Oper} {F : List Nat} {S : St} {c : Cnt} {b : Upd}
theorem q_auto (h : OpOk n P ops o F c b S := by
    first
      | (apply u_k 8; (focus rfl); first | exact op_num ⟨rfl, rfl, rfl⟩ rfl rfl rfl rfl (by with_reducible exact sub_one (by omega)) | exact op_num ⟨rfl, rfl, rfl⟩ rfl rfl rfl rfl (by with_reducible exact sub_one' (by omega)))
      | (apply u_k 10; (focus rfl); exact u_conv ⟨rfl, rfl, rfl⟩ rfl inferInstance inferInstance rfl (by with_reducible exact wrap_byte _))
      | exact p_auto
      | (apply u_k 0; (focus rfl); first | exact op_move (c := .tup3 _ _ _) ⟨rfl, rfl, rfl⟩ rfl rfl | exact op_move (c := .ept _ _ _ _ _) ⟨rfl, rfl, rfl⟩ rfl rfl | exact op_move (c := .bpt _) ⟨rfl, rfl, rfl⟩ rfl rfl | exact op_move (c := .clo1 _ _) ⟨rfl, rfl, rfl⟩ rfl rfl | exact op_move (c := .clo2 _ _ _) ⟨rfl, rfl, rfl⟩ rfl rfl | exact op_move (c := .clo3 _ _ _ _) ⟨rfl, rfl, rfl⟩ rfl rfl | exact op_move (c := .aggK _ _) ⟨rfl, rfl, rfl⟩ rfl rfl | exact op_move (c := .any) ⟨rfl, rfl, rfl⟩ rfl rfl)
      | (apply u_k 1; (focus rfl); first | exact op_assign (c := .tup3 _ _ _) ⟨rfl, rfl, rfl⟩ rfl rfl | exact op_assign (c := .ept _ _ _ _ _) ⟨rfl, rfl, rfl⟩ rfl rfl | exact op_assign (c := .bpt _) ⟨rfl, rfl, rfl⟩ rfl rfl | exact op_assign (c := .tup2 _ _) ⟨rfl, rfl, rfl⟩ rfl rfl | exact op_assign (c := .clo1 _ _) ⟨rfl, rfl, rfl⟩ rfl rfl | exact op_assign (c := .clo2 _ _ _) ⟨rfl, rfl, rfl⟩ rfl rfl | exact op_assign (c := .clo3 _ _ _ _) ⟨rfl, rfl, rfl⟩ rfl rfl | exact op_assign (c := .aggK _ _) ⟨rfl, rfl, rfl⟩ rfl rfl | exact op_assign (c := .any) ⟨rfl, rfl, rfl⟩ rfl rfl)
      | (apply u_k 3; (focus rfl); first | exact op_box_aggC ⟨rfl, rfl, rfl⟩ rfl rfl | exact u_box_c (c := .ptr _ _ _) ⟨rfl, rfl, rfl⟩ rfl rfl (by first | exact oneQ_per (by first | exact oneP_raw rfl rfl | exact oneP_lst | exact oneP_rp) | exact oneQ_ptr rfl | exact oneQ_row rfl rfl | exact oneQ_obj rfl rfl | exact oneQ_clo1 | exact oneQ_clo2 | exact oneQ_clo3) | exact u_box_c (c := .row _ _) ⟨rfl, rfl, rfl⟩ rfl rfl (by first | exact oneQ_per (by first | exact oneP_raw rfl rfl | exact oneP_lst | exact oneP_rp) | exact oneQ_ptr rfl | exact oneQ_row rfl rfl | exact oneQ_obj rfl rfl | exact oneQ_clo1 | exact oneQ_clo2 | exact oneQ_clo3) | exact u_box_c (c := .clo1 _ _) ⟨rfl, rfl, rfl⟩ rfl rfl (by first | exact oneQ_per (by first | exact oneP_raw rfl rfl | exact oneP_lst | exact oneP_rp) | exact oneQ_ptr rfl | exact oneQ_row rfl rfl | exact oneQ_obj rfl rfl | exact oneQ_clo1 | exact oneQ_clo2 | exact oneQ_clo3))
      | (apply u_k 5; (focus rfl); exact u_loadC ⟨rfl, rfl, rfl⟩ rfl inferInstance inferInstance rfl rfl rfl rfl rfl rfl)
      | (apply u_k 6; (focus rfl); first | exact u_store_c (c := .ptr _ _ _) ⟨rfl, rfl⟩ rfl inferInstance rfl rfl rfl rfl rfl (by first | exact oneQ_per (by first | exact oneP_raw rfl rfl | exact oneP_lst | exact oneP_rp) | exact oneQ_ptr rfl | exact oneQ_row rfl rfl | exact oneQ_obj rfl rfl | exact oneQ_clo1 | exact oneQ_clo2 | exact oneQ_clo3) | exact u_store_c (c := .row _ _) ⟨rfl, rfl⟩ rfl inferInstance rfl rfl rfl rfl rfl (by first | exact oneQ_per (by first | exact oneP_raw rfl rfl | exact oneP_lst | exact oneP_rp) | exact oneQ_ptr rfl | exact oneQ_row rfl rfl | exact oneQ_obj rfl rfl | exact oneQ_clo1 | exact oneQ_clo2 | exact oneQ_clo3) | exact u_store_c (c := .clo1 _ _) ⟨rfl, rfl⟩ rfl inferInstance rfl rfl rfl rfl rfl (by first | exact oneQ_per (by first | exact oneP_raw rfl rfl | exact oneP_lst | exact oneP_rp) | exact oneQ_ptr rfl | exact oneQ_row rfl rfl | exact oneQ_obj rfl rfl | exact oneQ_clo1 | exact oneQ_clo2 | exact oneQ_clo3) | exact u_store_aggC ⟨rfl, rfl⟩ rfl inferInstance rfl rfl rfl rfl rfl rfl rfl)
      | (apply u_k 8; (focus rfl); first | exact op_scat ⟨rfl, rfl, rfl⟩ rfl rfl rfl (by first | omega | (simp; omega) | (simp [chunk_len]; omega)) | exact u_eqnil ⟨rfl, rfl, rfl⟩ rfl inferInstance (by first | exact sp_ptr rfl rfl | exact sp_rp rfl) | exact u_nenil ⟨rfl, rfl, rfl⟩ rfl inferInstance (by first | exact sp_ptr rfl rfl | exact sp_rp rfl) | exact u_eqnil0 ⟨rfl, rfl, rfl⟩ rfl inferInstance rfl | exact u_nenil0 ⟨rfl, rfl, rfl⟩ rfl inferInstance rfl | exact op_quo ⟨rfl, rfl, rfl⟩ rfl rfl rfl (by first | decide | omega | (simp; omega)) (quo_pos (by first | omega | (simp; omega) | (simp [chunk_len]; omega)) (by first | omega | (simp; omega) | (simp [chunk_len]; omega)) (by first | omega | (simp; omega) | (simp [chunk_len]; omega))) | exact op_rem ⟨rfl, rfl, rfl⟩ rfl rfl rfl (by first | decide | omega | (simp; omega)) (rem_pos (by first | omega | (simp; omega) | (simp [chunk_len]; omega))) | exact op_quo ⟨rfl, rfl, rfl⟩ rfl rfl rfl (by first | decide | omega | (simp; omega)) (wrap_id64 (by first | omega | (simp; omega) | (simp [chunk_len]; omega)) (by first | omega | (simp; omega) | (simp [chunk_len]; omega))) | exact op_rem ⟨rfl, rfl, rfl⟩ rfl rfl rfl (by first | decide | omega | (simp; omega)) rfl | exact u_eqS1 ⟨rfl, rfl, rfl⟩ rfl inferInstance (by first | exact sr_lst rfl | exact sr_row rfl rfl rfl | exact sr_bor rfl | exact sr_nil rfl) (by first | assumption | omega | (simp; done) | (simp; omega)) | exact u_eqS ⟨rfl, rfl, rfl⟩ rfl inferInstance (by first | exact sr_lst rfl | exact sr_row rfl rfl rfl | exact sr_bor rfl | exact sr_nil rfl))
      | (apply u_k 12; (focus rfl); first | exact u_indexZ ⟨rfl, rfl, rfl⟩ rfl inferInstance inferInstance rfl rfl rfl (by first | omega | (simp; omega) | (simp [chunk_len]; omega)) (by first | assumption | omega | (simp; done) | (simp; omega)) | exact u_indexZ_b ⟨rfl, rfl, rfl⟩ rfl inferInstance inferInstance rfl rfl rfl (by first | omega | (simp; omega) | (simp [chunk_len]; omega)) (by first | assumption | omega | (simp; done) | (simp; omega)) | exact u_indexZ_r ⟨rfl, rfl, rfl⟩ rfl inferInstance inferInstance rfl rfl rfl rfl rfl (by first | omega | (simp; omega) | (simp [chunk_len]; omega)) (by first | assumption | omega | (simp; done) | (simp; omega)) | exact u_indexA ⟨rfl, rfl, rfl⟩ rfl inferInstance inferInstance rfl rfl rfl rfl rfl (by first | assumption | omega | (simp; done) | (simp; omega)))
      | (apply u_k 13; (focus rfl); exact u_sindexZ ⟨rfl, rfl, rfl⟩ rfl inferInstance rfl rfl (by first | omega | (simp; omega) | (simp [chunk_len]; omega)) (by first | assumption | omega | (simp; done) | (simp; omega)))
      | (apply u_k 14; (focus rfl); solve | (apply u_buildC <;> first | exact ⟨rfl, rfl, rfl⟩ | rfl | infer_instance | (repeat (first | exact PartsQ.nil | (apply PartsQ.cons; (focus (first | exact partQ_agg rfl | exact partQ_one (c := .per _) rfl (by first | exact oneQ_per (by first | exact oneP_raw rfl rfl | exact oneP_lst | exact oneP_rp) | exact oneQ_ptr rfl | exact oneQ_row rfl rfl | exact oneQ_obj rfl rfl | exact oneQ_clo1 | exact oneQ_clo2 | exact oneQ_clo3) | exact partQ_one (c := .ptr _ _ _) rfl (by first | exact oneQ_per (by first | exact oneP_raw rfl rfl | exact oneP_lst | exact oneP_rp) | exact oneQ_ptr rfl | exact oneQ_row rfl rfl | exact oneQ_obj rfl rfl | exact oneQ_clo1 | exact oneQ_clo2 | exact oneQ_clo3) | exact partQ_one (c := .row _ _) rfl (by first | exact oneQ_per (by first | exact oneP_raw rfl rfl | exact oneP_lst | exact oneP_rp) | exact oneQ_ptr rfl | exact oneQ_row rfl rfl | exact oneQ_obj rfl rfl | exact oneQ_clo1 | exact oneQ_clo2 | exact oneQ_clo3) | exact partQ_one (c := .clo1 _ _) rfl (by first | exact oneQ_per (by first | exact oneP_raw rfl rfl | exact oneP_lst | exact oneP_rp) | exact oneQ_ptr rfl | exact oneQ_row rfl rfl | exact oneQ_obj rfl rfl | exact oneQ_clo1 | exact oneQ_clo2 | exact oneQ_clo3) | exact partQ_one (c := .clo2 _ _ _) rfl (by first | exact oneQ_per (by first | exact oneP_raw rfl rfl | exact oneP_lst | exact oneP_rp) | exact oneQ_ptr rfl | exact oneQ_row rfl rfl | exact oneQ_obj rfl rfl | exact oneQ_clo1 | exact oneQ_clo2 | exact oneQ_clo3) | exact partQ_one (c := .clo3 _ _ _ _) rfl (by first | exact oneQ_per (by first | exact oneP_raw rfl rfl | exact oneP_lst | exact oneP_rp) | exact oneQ_ptr rfl | exact oneQ_row rfl rfl | exact oneQ_obj rfl rfl | exact oneQ_clo1 | exact oneQ_clo2 | exact oneQ_clo3) | exact partQ_l rfl)))))))
      | (apply u_k 19; (focus rfl); first | exact op_max ⟨rfl, rfl, rfl⟩ rfl rfl rfl | exact op_min ⟨rfl, rfl, rfl⟩ rfl rfl rfl)
      | (apply u_k 21; (focus rfl); first | exact op_nilc ⟨rfl, rfl, rfl⟩ rfl rfl rfl | exact op_nilc_rp ⟨rfl, rfl, rfl⟩ rfl rfl)
      | (apply u_k 22; (focus rfl); first | exact op_mkf0 ⟨rfl, rfl, rfl⟩ rfl | exact op_mkf1 ⟨rfl, rfl, rfl⟩ rfl | exact op_mkf2 ⟨rfl, rfl, rfl⟩ rfl | exact op_mkf3 ⟨rfl, rfl, rfl⟩ rfl)) : OpOk n P ops o F c b S := h
theorem z_auto (h : OpOk n P ops o F c b S := by
    first
      | (apply u_g; (focus rfl); first | (apply op_gyes rfl rfl rfl rfl rfl; first | (apply u_k 2; (focus rfl); first | exact op_pick_t ⟨rfl, rfl, rfl⟩ rfl rfl rfl rfl | exact op_pick_f ⟨rfl, rfl, rfl⟩ rfl rfl rfl rfl) | exact q_auto) | exact op_gno rfl rfl rfl rfl rfl rfl rfl | exact op_gnone rfl rfl rfl rfl rfl rfl)
      | (apply u_k 2; (focus rfl); first | exact op_pick_t ⟨rfl, rfl, rfl⟩ rfl rfl rfl rfl | exact op_pick_f ⟨rfl, rfl, rfl⟩ rfl rfl rfl rfl)
      | exact q_auto) : OpOk n P ops o F c b S := h
end Go.Proofs.Ytpndnlnjgnckdaa
namespace Go.Proofs.Ytpndnlnjgnckdaa
open Go.RowKit
def Ret.frz : Ret → Ret
  | .per A => .per A
  | .own _ k es => .per (lstP k es)
  | .tup2 c d => .tup2 c.frz d.frz
  | .tup3 c d e => .tup3 c.frz d.frz e.frz
theorem Ret.frz_rep {N0 : BP} {w w' : World} (hN : ∀ b, N0 b → b < w.heap.size) : ∀ {r : Ret} {v : Value}, r.rep N0 w w' v → r.frz.rep N0 w w' v := by
  intro r
  induction r with
  | per A => intro v h; exact h
  | own e k es =>
    intro v h
    show lstAt N0 N0 k es w' v
    rcases h with ⟨rfl, rfl⟩ | ⟨q, cap, cs, rfl, hq, hh, h1, h2, h3, h4⟩
    · exact ⟨none, 0, 0, 0, rfl, by simp, by decide, fun _ => rfl, by simp, fun i cs hi => by simp at hi⟩
    · have hlt : q < w'.heap.size := by
        rcases Nat.lt_or_ge q w'.heap.size with h | h
        · exact h
        · rw [Array.getElem?_eq_none h] at hh; cases hh
      refine ⟨_, cap, q, 0, rfl, h1, h2, by simp, fun _ => ⟨rfl, hlt, fun hn => by have := hN q hn; omega⟩, fun i ps hi => ?_⟩
      obtain ⟨r1, r2⟩ := h4 i ps hi
      refine ⟨r1, fun j A hj => ?_⟩
      obtain ⟨y, s1, s2, s3⟩ := r2 j A hj
      exact ⟨y, by rw [Nat.zero_add, cell_at hh]; exact s1, s2, A.mono (Nat.le_refl _) (fun _ _ _ => rfl) (fun b _ hb => .inl hb) s3⟩
  | tup2 c d ih1 ih2 => rintro v ⟨x, y, rfl, h1, h2⟩; exact ⟨x, y, rfl, ih1 h1, ih2 h2⟩
  | tup3 c d e ih1 ih2 ih3 => rintro v ⟨x, y, z, rfl, h1, h2, h3⟩; exact ⟨x, y, z, rfl, ih1 h1, ih2 h2, ih3 h3⟩
theorem Fn.frz {P : Program} {f : FuncId} {As : List Cnt} {r : Ret} (h : Fn P f As r) : Fn P f As r.frz :=
  ⟨h.ent, fun N0 w vs hN ha => Calls.mono (h.run N0 w vs hN ha) fun _ _ ⟨v, h1, h2, h3⟩ => ⟨v, h1, h2, Ret.frz_rep hN h3⟩⟩
section
variable {P : Program} {n : Nat} {ops : Array Oper} {o : Oper} {S : St}
/-- a call of a function that lies in a slot -/
theorem c_Vx {f : FuncId} {x0 : Operand} {xs : List Operand} {As : List Cnt} {pre post : List (Nat × Blk)} {r : Cnt} (sg : List (Nat × Nat)) (hf : FnM P f As pre r post) (hp : PlM n o := by exact ⟨rfl, rfl⟩) (ho : isCallV o x0 xs := by exact ⟨_, rfl⟩) (hx : S.opd x0 = .per (rawP (.func (.func f) #[] #[])) := by rfl) (hok : okS sg = true := by rfl)
    (hg : GMl S sg xs As := by first | ((repeat (first | exact GMl.nil | (refine GMl.cons ?_ ?_; focus (first | exact gq_per rfl | exact gq_lst rfl | exact gq_row rfl rfl rfl rfl | exact gq_bor rfl | exact gq_nil rfl | exact gq_nil' rfl | exact gq_ref rfl rfl)))); done) | fail) (hpre : PreM S sg pre := by first | ((repeat (first | exact PreM.nil | (refine PreM.cons rfl rfl ?_))); done) | fail) : OpOk n P ops o (opdN x0 ++ (callN S xs ++ sgN sg)) (r.mp false (lk1 sg) z0 (nvM S.ver sg)) (updM S post sg sg) S :=
  op_callM (cs := []) sg hp ho (head_raw hx (fun k h => by simp [h])) (by simpa using hf) hok (fun p h => by simp [sg_mem p h]) (hg.gives (fun _ h => by simp at h ⊢; exact .inr (.inl h)) (fun _ h => by simp [h])) hpre
end
end Go.Proofs.Ytpndnlnjgnckdaa
namespace Go.Proofs.Ytpndnlnjgnckdaa
open Go.RowKit
/-- what a test's two answers say -/
class Cl (b : Bool) (p q : outParam Prop) : Prop where
  t : b = true → p
  f : b = false → q
instance (priority := low) {b : Bool} : Cl b (b = true) (b = false) := ⟨fun h => h, fun h => h⟩
instance {p : Prop} [d : Decidable p] : Cl (decide p) p (¬ p) := ⟨of_decide_eq_true, of_decide_eq_false⟩
instance {α : Type} [BEq α] [LawfulBEq α] {a b : α} : Cl (a == b) (a = b) (a ≠ b) := ⟨beq_iff_eq.1, beq_eq_false_iff_ne.1⟩
instance {α : Type} [BEq α] [LawfulBEq α] {a b : α} : Cl (a != b) (a ≠ b) (a = b) := ⟨bne_iff_ne.1, bne_eq_false_iff_eq.1⟩
instance {b : Bool} {p q : Prop} [h : Cl b p q] : Cl (!b) q p := ⟨fun e => h.f (by simpa using e), fun e => h.t (by simpa using e)⟩
section
variable {P : Program} {n t : Nat} {ops : Array Oper} {o : Oper} {F : List Nat} {S : St} {c : Cnt} {b : Upd}
theorem AW_cl {Q : Exit → St → Prop} {c : Operand} {x y : Code} {b : Bool} {p q : Prop} (hc : c = .tmp t) (hb : S.get t = bC b) [h : Cl b p q] (k : (p → AW P n x Q S) ∧ (q → AW P n y Q S)) : AW P n (.cond c x y) Q S :=
  AW_cond_per hc hb (fun e => k.1 (h.t e)) (fun e => k.2 (h.f e))
theorem AL_cl {l : List Oper} {Q : St → Prop} {j tg : Nat} {want b : Bool} {p q : Prop} (h1 : o.guard = some (j, want)) (h2 : (ops[j]?).bind (·.dst) = some tg) (hb : S.get tg = bC b) [h : Cl b p q]
    (k : (p → AL P n ops Q (o :: l) (S.put (some tg) (bC true))) ∧ (q → AL P n ops Q (o :: l) (S.put (some tg) (bC false)))) : AL P n ops Q (o :: l) S :=
  AL_gsplit h1 h2 hb (fun e => k.1 (h.t e)) (fun e => k.2 (h.f e))
theorem AD_cl {l : List Oper} {Q : St → Prop} {done : List (List Nat × List Nat)} {j tg : Nat} {want b : Bool} {p q : Prop} (h1 : o.guard = some (j, want)) (h2 : (ops[j]?).bind (·.dst) = some tg) (hb : S.get tg = bC b) [h : Cl b p q]
    (k : (p → AD P n ops Q done (o :: l) (S.put (some tg) (bC true))) ∧ (q → AD P n ops Q done (o :: l) (S.put (some tg) (bC false)))) : AD P n ops Q done (o :: l) S :=
  AD_gsplit h1 h2 hb (fun e => k.1 (h.t e)) (fun e => k.2 (h.f e))
/-- one step that leaves one goal -/
theorem stp {K G : Prop} (hK : K) (h : K → G := by
    first
      | exact AW_seq
      | exact AW_block
      | exact AW_skip
      | exact AW_exit
      | exact AW_ret
      | exact AW_region
      | exact AL_nil
      | exact AD_nil (by kernel_rfl)
      | exact AL_t rfl z_auto
      | exact AL_0 rfl z_auto
      | exact AD_t rfl z_auto
      | exact AD_0 rfl z_auto
      | exact thenA_n
      | exact thenA_r
      | exact thenA_e
      | exact inB_n
      | exact inB_r
      | exact inB_hit
      | exact inB_miss rfl
      | fail) : G := h hK
/-- a region that draws its order -/
theorem stpD {K G : Prop} (hK : K) (h : K → G := by
    exact AW_draw mixed0) : G := h hK
/-- a test -/
theorem stpC {K G : Prop} (hK : K) (h : K → G := by
    exact AW_cl rfl rfl) : G := h hK
/-- a guard -/
theorem stpG {K G : Prop} (hK : K) (h : K → G := by
    first
      | exact AL_cl rfl rfl rfl
      | exact AD_cl rfl rfl rfl
      | fail) : G := h hK
theorem absd {p G : Prop} (hc : p) (h : p → False := by
    intro hc
    first
      | contradiction
      | omega
      | (simp [*] at hc; done)
      | fail) : G := (h hc).elim
theorem c_A {f : FuncId} {As : List Cnt} {r : Ret} (hf : Fn P f As r) (h : Fn P f As r → OpOk n P ops o F c b S := by
    intro hf
    first
      | exact c_F hf
      | exact c_O hf
      | exact c_O2 hf
      | (apply u_g; (focus rfl); apply op_gyes rfl rfl rfl rfl rfl; first | exact c_F hf | exact c_O hf | exact c_O2 hf | fail)
      | fail) : OpOk n P ops o F c b S := h hf
theorem c_RA {f : FuncId} {As : List Cnt} {pre post : List (Nat × Blk)} {r : Cnt} (hf : FnM P f As pre r post) (h : FnM P f As pre r post → OpOk n P ops o F c b S := by
    intro hf
    first
      | exact c_R hf
      | (apply u_g; (focus rfl); apply op_gyes rfl rfl rfl rfl rfl; exact c_R hf)
      | fail) : OpOk n P ops o F c b S := h hf
theorem c_NA {f : FuncId} {As : List Cnt} {pre post : List (Nat × Blk)} {r : Cnt} (hf : FnM P f As pre r post) (h : FnM P f As pre r post → OpOk n P ops o F c b S := by
    intro hf
    first
      | exact c_N hf
      | (apply u_g; (focus rfl); apply op_gyes rfl rfl rfl rfl rfl; exact c_N hf)
      | fail) : OpOk n P ops o F c b S := h hf
def FnMs (_ : List (Nat × Nat)) (P : Program) (f : FuncId) (As : List Cnt) (pre : List (Nat × Blk)) (r : Cnt) (post : List (Nat × Blk)) : Prop := FnM P f As pre r post
theorem c_Ms {sg : List (Nat × Nat)} {f : FuncId} {xs : List Operand} {As : List Cnt} {pre post : List (Nat × Blk)} {r : Cnt} (hf : FnMs sg P f As pre r post) (hp : PlM n o := by exact ⟨rfl, rfl⟩) (ho : isCallV o (.func f) xs := by exact ⟨_, rfl⟩) (hok : okS sg = true := by rfl)
    (hg : GMl S sg xs As := by first | ((repeat (first | exact GMl.nil | (refine GMl.cons ?_ ?_; focus (first | exact gq_per rfl | exact gq_lst rfl | exact gq_row rfl rfl rfl rfl | exact gq_bor rfl | exact gq_nil rfl | exact gq_nil' rfl | exact gq_ref rfl rfl)))); done) | fail) (hpre : PreM S sg pre := by first | ((repeat (first | exact PreM.nil | (refine PreM.cons rfl rfl ?_))); done) | fail) : OpOk n P ops o (callN S xs ++ sgN sg) (r.mp false (lk1 sg) z0 (nvM S.ver sg)) (updM S post sg sg) S := c_M sg hf hp ho hok hg hpre
theorem c_MA {f : FuncId} {As : List Cnt} {pre post : List (Nat × Blk)} {r : Cnt} (sg : List (Nat × Nat)) (hf : FnM P f As pre r post) (h : FnMs sg P f As pre r post → OpOk n P ops o F c b S := by
    intro hf
    first
      | exact c_Ms hf
      | (apply u_g; (focus rfl); apply op_gyes rfl rfl rfl rfl rfl; exact c_Ms hf)
      | fail) : OpOk n P ops o F c b S := h hf
end
end Go.Proofs.Ytpndnlnjgnckdaa
