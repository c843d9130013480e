/- Trees: their nodes owned, turned, levelled. -/
import Derived.Test.YtpndnlnjgnckdaaAbsP
import Derived.Test.YtpndnlnjgnckdaaCmp
namespace Go.Proofs.Ytpndnlnjgnckdaa
open Go.RowKit
inductive Tr where
  | nil
  | node (l : Tr) (x : It) (own : Int) (r : Tr)
def Tr.dep : Tr → Nat
  | .nil => 0
  | .node l _ _ r => 1 + max l.dep r.dep
def Tr.siz : Tr → Nat
  | .nil => 0
  | .node l _ _ r => 1 + l.siz + r.siz
def Tr.tot : Tr → Int
  | .nil => 0
  | .node l _ o r => IntKind.u64.wrap (IntKind.u64.wrap (o + l.tot) + r.tot)
theorem Tr.dep_le : ∀ t : Tr, t.dep ≤ t.siz
  | .nil => Nat.le_refl _
  | .node l _ _ r => by have := l.dep_le; have := r.dep_le; simp only [Tr.dep, Tr.siz]; omega
def rawO (v : Value) (h1 : v.oneCell' = true) (h2 : v.cells = #[v]) : OV := perO (rawP v) (oneP_raw h1 h2)
def trO : Tr → OV
  | .nil => rawO (.pointer none) rfl rfl
  | .node l x o r => recO 83 [rawO (.string x.key) rfl rfl, rawO (.int .i64 x.rep) rfl rfl, rawO (.int .i64 x.cnt) rfl rfl, rawO (.int .i64 x.rank) rfl rfl, rawO (.int .i64 x.prio) rfl rfl, rawO (.bool x.dead) rfl rfl, rawO (.string x.body) rfl rfl,
      trO l, trO r, rawO (.int .i64 ((Tr.node l x o r).dep : Nat)) rfl rfl, rawO (.int .i64 ((Tr.node l x o r).siz : Nat)) rfl rfl, rawO (.int .u64 o) rfl rfl, rawO (.int .u64 (Tr.node l x o r).tot) rfl rfl]
def trP : Tr → PV
  | .nil => rawP (.pointer none)
  | .node l x o r => rptrP (itP x ++ [trP l, trP r, rawP (.int .i64 ((Tr.node l x o r).dep : Nat)), rawP (.int .i64 ((Tr.node l x o r).siz : Nat)), rawP (.int .u64 o), rawP (.int .u64 (Tr.node l x o r).tot)])
theorem lends_raw {v : Value} {h1 : v.oneCell' = true} {h2 : v.cells = #[v]} : Lends (rawO v h1 h2) (rawP v) := lends_per
theorem lends_tr : ∀ t : Tr, Lends (trO t) (trP t)
  | .nil => lends_raw
  | .node l x o r => by
    have h1 : Lends (trO l) (trP l) := lends_tr l
    have h2 : Lends (trO r) (trP r) := lends_tr r
    unfold trO trP
    refine lends_recL ?_
    exact .cons lends_raw (.cons lends_raw (.cons lends_raw (.cons lends_raw (.cons lends_raw (.cons lends_raw (.cons lends_raw (.cons h1 (.cons h2 (.cons lends_raw (.cons lends_raw (.cons lends_raw (.cons lends_raw .nil))))))))))))
def rawU (v : Value) (h1 : v.oneCell' = true) (h2 : v.cells = #[v]) : UC := .p (rawP v) (oneP_raw h1 h2)
/-- a node's cells, unfolded -/
def nodeU (i j : Nat) (l r : Tr) (x : It) (o d m s : Int) : List UC := [rawU (.string x.key) rfl rfl, rawU (.int .i64 x.rep) rfl rfl, rawU (.int .i64 x.cnt) rfl rfl, rawU (.int .i64 x.rank) rfl rfl, rawU (.int .i64 x.prio) rfl rfl, rawU (.bool x.dead) rfl rfl, rawU (.string x.body) rfl rfl,
  .o i (trO l), .o j (trO r), rawU (.int .i64 d) rfl rfl, rawU (.int .i64 m) rfl rfl, rawU (.int .u64 o) rfl rfl, rawU (.int .u64 s) rfl rfl]
abbrev nodeC (cl cr : Cnt) (x : It) (o d m s : Int) : List Cnt := [sC x.key, iC .i64 x.rep, iC .i64 x.cnt, iC .i64 x.rank, iC .i64 x.prio, bC x.dead, sC x.body, cl, cr, iC .i64 d, iC .i64 m, iC .u64 o, iC .u64 s]
abbrev nodeB (cl cr : Cnt) (x : It) (o d m s : Int) : Blk := .box 83 (nodeC cl cr x o d m s)
theorem ready_node {S : St} {i j : Nat} {l r : Tr} {x : It} {o d m s : Int} (h1 : S.blk i = .obj (trO l)) (h2 : S.blk j = .obj (trO r)) : ReadyU S (nodeU i j l r x o d m s) :=
  .p (.p (.p (.p (.p (.p (.p (.o h1 (.o h2 (.p (.p (.p (.p .nil))))))))))))
section
variable {P : Program} {n : Nat} {ops : Array Oper} {o : Oper} {S : St} {t : Nat}
theorem gpq_obj {ids : List Nat} {x : Operand} {id vr : Nat} {O : OV} {A : PV} (hx : S.opd x = .row id vr) (hv : S.ver id = vr) (hb : S.blk id = .obj O) (hl : Lends O A) (hi : memN id ids = true) : GivesP (srcN S x ++ idsN ids) S ids x (.per A) := gpq_sees hx (.obj hv hb hl hi)
end
section
set_option maxRecDepth 10000
set_option maxHeartbeats 4000000
theorem tr_depth (t : Tr) : Fn Try.prog 45 [.per (trP t)] (inR ((t.dep : Nat) : Int)) := by
  cases t with
  | nil =>
    show Fn Try.prog _ [.per (rawP (.pointer none))] _
    refine fn_intro Try.func45 rfl (by kernel_rfl) Try.ntmps45 (Nat.le_of_ble_eq_true rfl) ?_
    (repeat' (first | refine AW_seq ?_ | refine AW_block ?_ | refine AW_skip ?_ | refine AW_exit ?_ | refine AW_ret ?_ | refine AW_region ?_ | refine AW_draw mixed0 ?_ | refine AL_nil ?_ | refine AD_nil (by kernel_rfl) ?_ | (refine AW_cl rfl rfl ⟨fun hc => ?_, fun hc => ?_⟩ <;> (repeat rw [List.length_map] at hc) <;> (try exact absd hc)) | ((first | apply AL_t rfl | apply AL_0 rfl | apply AD_t rfl | apply AD_0 rfl); focus (first | exact z_auto | fail)) | refine thenA_n ?_ | refine thenA_r ?_ | refine thenA_e ?_ | refine inB_n ?_ | refine inB_r ?_ | refine inB_hit ?_ | refine inB_miss rfl ?_ | ((first | refine AL_cl rfl rfl rfl ⟨fun hc => ?_, fun hc => ?_⟩ | refine AD_cl rfl rfl rfl ⟨fun hc => ?_, fun hc => ?_⟩) <;> (fail_if_success (have q : (true = true) := hc)) <;> (fail_if_success (have q : (false = false) := hc)) <;> (repeat rw [List.length_map] at hc) <;> (try exact absd hc)) | refine AW_cond_nil rfl rfl (fun hc => ?_) ?_))
    (refine ⟨(by first | exact .inl rfl | exact .inr rfl), res1 rfl ?_⟩)
    exact rv_int rfl rfl
  | node l x o r =>
    unfold trP
    refine fn_intro Try.func45 rfl (by kernel_rfl) Try.ntmps45 (Nat.le_of_ble_eq_true rfl) ?_
    (repeat' (first | refine AW_seq ?_ | refine AW_block ?_ | refine AW_skip ?_ | refine AW_exit ?_ | refine AW_ret ?_ | refine AW_region ?_ | refine AW_draw mixed0 ?_ | refine AL_nil ?_ | refine AD_nil (by kernel_rfl) ?_ | (refine AW_cl rfl rfl ⟨fun hc => ?_, fun hc => ?_⟩ <;> (repeat rw [List.length_map] at hc) <;> (try exact absd hc)) | ((first | apply AL_t rfl | apply AL_0 rfl | apply AD_t rfl | apply AD_0 rfl); focus (first | exact z_auto | fail)) | refine thenA_n ?_ | refine thenA_r ?_ | refine thenA_e ?_ | refine inB_n ?_ | refine inB_r ?_ | refine inB_hit ?_ | refine inB_miss rfl ?_ | ((first | refine AL_cl rfl rfl rfl ⟨fun hc => ?_, fun hc => ?_⟩ | refine AD_cl rfl rfl rfl ⟨fun hc => ?_, fun hc => ?_⟩) <;> (fail_if_success (have q : (true = true) := hc)) <;> (fail_if_success (have q : (false = false) := hc)) <;> (repeat rw [List.length_map] at hc) <;> (try exact absd hc)) | refine AW_cond_nil rfl rfl (fun hc => ?_) ?_))
    (refine ⟨(by first | exact .inl rfl | exact .inr rfl), res1 rfl ?_⟩)
    exact rv_int rfl rfl
theorem tr_count (t : Tr) : Fn Try.prog 38 [.per (trP t)] (inR ((t.siz : Nat) : Int)) := by
  cases t with
  | nil =>
    show Fn Try.prog _ [.per (rawP (.pointer none))] _
    refine fn_intro Try.func38 rfl (by kernel_rfl) Try.ntmps38 (Nat.le_of_ble_eq_true rfl) ?_
    (repeat' (first | refine AW_seq ?_ | refine AW_block ?_ | refine AW_skip ?_ | refine AW_exit ?_ | refine AW_ret ?_ | refine AW_region ?_ | refine AW_draw mixed0 ?_ | refine AL_nil ?_ | refine AD_nil (by kernel_rfl) ?_ | (refine AW_cl rfl rfl ⟨fun hc => ?_, fun hc => ?_⟩ <;> (repeat rw [List.length_map] at hc) <;> (try exact absd hc)) | ((first | apply AL_t rfl | apply AL_0 rfl | apply AD_t rfl | apply AD_0 rfl); focus (first | exact z_auto | fail)) | refine thenA_n ?_ | refine thenA_r ?_ | refine thenA_e ?_ | refine inB_n ?_ | refine inB_r ?_ | refine inB_hit ?_ | refine inB_miss rfl ?_ | ((first | refine AL_cl rfl rfl rfl ⟨fun hc => ?_, fun hc => ?_⟩ | refine AD_cl rfl rfl rfl ⟨fun hc => ?_, fun hc => ?_⟩) <;> (fail_if_success (have q : (true = true) := hc)) <;> (fail_if_success (have q : (false = false) := hc)) <;> (repeat rw [List.length_map] at hc) <;> (try exact absd hc)) | refine AW_cond_nil rfl rfl (fun hc => ?_) ?_))
    (refine ⟨(by first | exact .inl rfl | exact .inr rfl), res1 rfl ?_⟩)
    exact rv_int rfl rfl
  | node l x o r =>
    unfold trP
    refine fn_intro Try.func38 rfl (by kernel_rfl) Try.ntmps38 (Nat.le_of_ble_eq_true rfl) ?_
    (repeat' (first | refine AW_seq ?_ | refine AW_block ?_ | refine AW_skip ?_ | refine AW_exit ?_ | refine AW_ret ?_ | refine AW_region ?_ | refine AW_draw mixed0 ?_ | refine AL_nil ?_ | refine AD_nil (by kernel_rfl) ?_ | (refine AW_cl rfl rfl ⟨fun hc => ?_, fun hc => ?_⟩ <;> (repeat rw [List.length_map] at hc) <;> (try exact absd hc)) | ((first | apply AL_t rfl | apply AL_0 rfl | apply AD_t rfl | apply AD_0 rfl); focus (first | exact z_auto | fail)) | refine thenA_n ?_ | refine thenA_r ?_ | refine thenA_e ?_ | refine inB_n ?_ | refine inB_r ?_ | refine inB_hit ?_ | refine inB_miss rfl ?_ | ((first | refine AL_cl rfl rfl rfl ⟨fun hc => ?_, fun hc => ?_⟩ | refine AD_cl rfl rfl rfl ⟨fun hc => ?_, fun hc => ?_⟩) <;> (fail_if_success (have q : (true = true) := hc)) <;> (fail_if_success (have q : (false = false) := hc)) <;> (repeat rw [List.length_map] at hc) <;> (try exact absd hc)) | refine AW_cond_nil rfl rfl (fun hc => ?_) ?_))
    (refine ⟨(by first | exact .inl rfl | exact .inr rfl), res1 rfl ?_⟩)
    exact rv_int rfl rfl
theorem tr_total (t : Tr) : Fn Try.prog 59 [.per (trP t)] (.per (rawP (.int .u64 t.tot))) := by
  cases t with
  | nil =>
    show Fn Try.prog _ [.per (rawP (.pointer none))] _
    refine fn_intro Try.func59 rfl (by kernel_rfl) Try.ntmps59 (Nat.le_of_ble_eq_true rfl) ?_
    (repeat' (first | refine AW_seq ?_ | refine AW_block ?_ | refine AW_skip ?_ | refine AW_exit ?_ | refine AW_ret ?_ | refine AW_region ?_ | refine AW_draw mixed0 ?_ | refine AL_nil ?_ | refine AD_nil (by kernel_rfl) ?_ | (refine AW_cl rfl rfl ⟨fun hc => ?_, fun hc => ?_⟩ <;> (repeat rw [List.length_map] at hc) <;> (try exact absd hc)) | ((first | apply AL_t rfl | apply AL_0 rfl | apply AD_t rfl | apply AD_0 rfl); focus (first | exact z_auto | fail)) | refine thenA_n ?_ | refine thenA_r ?_ | refine thenA_e ?_ | refine inB_n ?_ | refine inB_r ?_ | refine inB_hit ?_ | refine inB_miss rfl ?_ | ((first | refine AL_cl rfl rfl rfl ⟨fun hc => ?_, fun hc => ?_⟩ | refine AD_cl rfl rfl rfl ⟨fun hc => ?_, fun hc => ?_⟩) <;> (fail_if_success (have q : (true = true) := hc)) <;> (fail_if_success (have q : (false = false) := hc)) <;> (repeat rw [List.length_map] at hc) <;> (try exact absd hc)) | refine AW_cond_nil rfl rfl (fun hc => ?_) ?_))
    (refine ⟨(by first | exact .inl rfl | exact .inr rfl), res1 rfl ?_⟩)
    exact rv_per rfl
  | node l x o r =>
    unfold trP
    refine fn_intro Try.func59 rfl (by kernel_rfl) Try.ntmps59 (Nat.le_of_ble_eq_true rfl) ?_
    (repeat' (first | refine AW_seq ?_ | refine AW_block ?_ | refine AW_skip ?_ | refine AW_exit ?_ | refine AW_ret ?_ | refine AW_region ?_ | refine AW_draw mixed0 ?_ | refine AL_nil ?_ | refine AD_nil (by kernel_rfl) ?_ | (refine AW_cl rfl rfl ⟨fun hc => ?_, fun hc => ?_⟩ <;> (repeat rw [List.length_map] at hc) <;> (try exact absd hc)) | ((first | apply AL_t rfl | apply AL_0 rfl | apply AD_t rfl | apply AD_0 rfl); focus (first | exact z_auto | fail)) | refine thenA_n ?_ | refine thenA_r ?_ | refine thenA_e ?_ | refine inB_n ?_ | refine inB_r ?_ | refine inB_hit ?_ | refine inB_miss rfl ?_ | ((first | refine AL_cl rfl rfl rfl ⟨fun hc => ?_, fun hc => ?_⟩ | refine AD_cl rfl rfl rfl ⟨fun hc => ?_, fun hc => ?_⟩) <;> (fail_if_success (have q : (true = true) := hc)) <;> (fail_if_success (have q : (false = false) := hc)) <;> (repeat rw [List.length_map] at hc) <;> (try exact absd hc)) | refine AW_cond_nil rfl rfl (fun hc => ?_) ?_))
    (refine ⟨(by first | exact .inl rfl | exact .inr rfl), res1 rfl ?_⟩)
    exact rv_per rfl
theorem tr_fix (l r : Tr) (x : It) (o d m s : Int) (hs : (Tr.node l x o r).siz ≤ 1000000) :
    FnM Try.prog 52 [.ptr 2000 0 0] [(2000, nodeB (.row 2010 0) (.row 2011 0) x o d m s), (2010, .obj (trO l)), (2011, .obj (trO r))] (.row 3000 0) [(3000, .obj (trO (.node l x o r)))] := by
  have h1 := tr_depth l
  have h2 := tr_depth r
  have h3 := tr_count l
  have h4 := tr_count r
  have h5 := tr_total l
  have h6 := tr_total r
  have b1 := l.dep_le
  have b2 := r.dep_le
  have hs' : 1 + l.siz + r.siz ≤ 1000000 := hs
  have hd : (1 : Int) + (if ((r.dep : Nat) : Int) > ((l.dep : Nat) : Int) then ((r.dep : Nat) : Int) else ((l.dep : Nat) : Int)) = (((Tr.node l x o r).dep : Nat) : Int) := by
    simp only [Tr.dep]; split <;> omega
  have hm : (1 : Int) + ((l.siz : Nat) : Int) + ((r.siz : Nat) : Int) = (((Tr.node l x o r).siz : Nat) : Int) := by
    simp only [Tr.siz]; omega
  refine fnm_intro Try.func52 rfl (by kernel_rfl) Try.ntmps52 (Nat.le_of_ble_eq_true rfl) ?_
  (repeat' (first | refine AW_seq ?_ | refine AW_block ?_ | refine AW_skip ?_ | refine AW_exit ?_ | refine AW_ret ?_ | refine AW_region ?_ | refine AW_draw mixed0 ?_ | refine AL_nil ?_ | refine AD_nil (by kernel_rfl) ?_ | (refine AW_cl rfl rfl ⟨fun hc => ?_, fun hc => ?_⟩ <;> (repeat rw [List.length_map] at hc) <;> (try exact absd hc)) | ((first | apply AL_t rfl | apply AL_0 rfl | apply AD_t rfl | apply AD_0 rfl); focus (first | ((apply u_k 8; (focus rfl); exact op_num ⟨rfl, rfl, rfl⟩ rfl rfl rfl rfl ((wrap_id64 (by omega) (by omega)).trans hd))) | (apply u_g; (focus rfl); apply op_gyes rfl rfl rfl rfl rfl; ((apply u_k 8; (focus rfl); exact op_num ⟨rfl, rfl, rfl⟩ rfl rfl rfl rfl ((wrap_id64 (by omega) (by omega)).trans hd)))) | ((apply u_k 8; (focus rfl); exact op_num ⟨rfl, rfl, rfl⟩ rfl rfl rfl rfl ((wrap_id64 (by omega) (by omega)).trans hm))) | (apply u_g; (focus rfl); apply op_gyes rfl rfl rfl rfl rfl; ((apply u_k 8; (focus rfl); exact op_num ⟨rfl, rfl, rfl⟩ rfl rfl rfl rfl ((wrap_id64 (by omega) (by omega)).trans hm)))) | exact z_auto | ((refine c_P (ids := [2010]) (h1) (hg := ?_); (refine GPl.cons ?_ GPl.nil; first | exact gpq_obj rfl rfl rfl (lends_tr _) rfl | exact gpq_per rfl | (refine gpq_box rfl rfl rfl rfl ?_; (focus (repeat (first | exact SeesL.nil | (refine SeesL.cons ?_ ?_; (focus (first | exact Sees.per | exact Sees.obj rfl rfl (lends_tr _) rfl | exact Sees.row rfl rfl rfl)))))))))) | (apply u_g; (focus rfl); apply op_gyes rfl rfl rfl rfl rfl; ((refine c_P (ids := [2010]) (h1) (hg := ?_); (refine GPl.cons ?_ GPl.nil; first | exact gpq_obj rfl rfl rfl (lends_tr _) rfl | exact gpq_per rfl | (refine gpq_box rfl rfl rfl rfl ?_; (focus (repeat (first | exact SeesL.nil | (refine SeesL.cons ?_ ?_; (focus (first | exact Sees.per | exact Sees.obj rfl rfl (lends_tr _) rfl | exact Sees.row rfl rfl rfl))))))))))) | ((refine c_P (ids := [2011]) (h2) (hg := ?_); (refine GPl.cons ?_ GPl.nil; first | exact gpq_obj rfl rfl rfl (lends_tr _) rfl | exact gpq_per rfl | (refine gpq_box rfl rfl rfl rfl ?_; (focus (repeat (first | exact SeesL.nil | (refine SeesL.cons ?_ ?_; (focus (first | exact Sees.per | exact Sees.obj rfl rfl (lends_tr _) rfl | exact Sees.row rfl rfl rfl)))))))))) | (apply u_g; (focus rfl); apply op_gyes rfl rfl rfl rfl rfl; ((refine c_P (ids := [2011]) (h2) (hg := ?_); (refine GPl.cons ?_ GPl.nil; first | exact gpq_obj rfl rfl rfl (lends_tr _) rfl | exact gpq_per rfl | (refine gpq_box rfl rfl rfl rfl ?_; (focus (repeat (first | exact SeesL.nil | (refine SeesL.cons ?_ ?_; (focus (first | exact Sees.per | exact Sees.obj rfl rfl (lends_tr _) rfl | exact Sees.row rfl rfl rfl))))))))))) | ((refine c_P (ids := [2010]) (h3) (hg := ?_); (refine GPl.cons ?_ GPl.nil; first | exact gpq_obj rfl rfl rfl (lends_tr _) rfl | exact gpq_per rfl | (refine gpq_box rfl rfl rfl rfl ?_; (focus (repeat (first | exact SeesL.nil | (refine SeesL.cons ?_ ?_; (focus (first | exact Sees.per | exact Sees.obj rfl rfl (lends_tr _) rfl | exact Sees.row rfl rfl rfl)))))))))) | (apply u_g; (focus rfl); apply op_gyes rfl rfl rfl rfl rfl; ((refine c_P (ids := [2010]) (h3) (hg := ?_); (refine GPl.cons ?_ GPl.nil; first | exact gpq_obj rfl rfl rfl (lends_tr _) rfl | exact gpq_per rfl | (refine gpq_box rfl rfl rfl rfl ?_; (focus (repeat (first | exact SeesL.nil | (refine SeesL.cons ?_ ?_; (focus (first | exact Sees.per | exact Sees.obj rfl rfl (lends_tr _) rfl | exact Sees.row rfl rfl rfl))))))))))) | ((refine c_P (ids := [2011]) (h4) (hg := ?_); (refine GPl.cons ?_ GPl.nil; first | exact gpq_obj rfl rfl rfl (lends_tr _) rfl | exact gpq_per rfl | (refine gpq_box rfl rfl rfl rfl ?_; (focus (repeat (first | exact SeesL.nil | (refine SeesL.cons ?_ ?_; (focus (first | exact Sees.per | exact Sees.obj rfl rfl (lends_tr _) rfl | exact Sees.row rfl rfl rfl)))))))))) | (apply u_g; (focus rfl); apply op_gyes rfl rfl rfl rfl rfl; ((refine c_P (ids := [2011]) (h4) (hg := ?_); (refine GPl.cons ?_ GPl.nil; first | exact gpq_obj rfl rfl rfl (lends_tr _) rfl | exact gpq_per rfl | (refine gpq_box rfl rfl rfl rfl ?_; (focus (repeat (first | exact SeesL.nil | (refine SeesL.cons ?_ ?_; (focus (first | exact Sees.per | exact Sees.obj rfl rfl (lends_tr _) rfl | exact Sees.row rfl rfl rfl))))))))))) | ((refine c_P (ids := [2010]) (h5) (hg := ?_); (refine GPl.cons ?_ GPl.nil; first | exact gpq_obj rfl rfl rfl (lends_tr _) rfl | exact gpq_per rfl | (refine gpq_box rfl rfl rfl rfl ?_; (focus (repeat (first | exact SeesL.nil | (refine SeesL.cons ?_ ?_; (focus (first | exact Sees.per | exact Sees.obj rfl rfl (lends_tr _) rfl | exact Sees.row rfl rfl rfl)))))))))) | (apply u_g; (focus rfl); apply op_gyes rfl rfl rfl rfl rfl; ((refine c_P (ids := [2010]) (h5) (hg := ?_); (refine GPl.cons ?_ GPl.nil; first | exact gpq_obj rfl rfl rfl (lends_tr _) rfl | exact gpq_per rfl | (refine gpq_box rfl rfl rfl rfl ?_; (focus (repeat (first | exact SeesL.nil | (refine SeesL.cons ?_ ?_; (focus (first | exact Sees.per | exact Sees.obj rfl rfl (lends_tr _) rfl | exact Sees.row rfl rfl rfl))))))))))) | ((refine c_P (ids := [2011]) (h6) (hg := ?_); (refine GPl.cons ?_ GPl.nil; first | exact gpq_obj rfl rfl rfl (lends_tr _) rfl | exact gpq_per rfl | (refine gpq_box rfl rfl rfl rfl ?_; (focus (repeat (first | exact SeesL.nil | (refine SeesL.cons ?_ ?_; (focus (first | exact Sees.per | exact Sees.obj rfl rfl (lends_tr _) rfl | exact Sees.row rfl rfl rfl)))))))))) | (apply u_g; (focus rfl); apply op_gyes rfl rfl rfl rfl rfl; ((refine c_P (ids := [2011]) (h6) (hg := ?_); (refine GPl.cons ?_ GPl.nil; first | exact gpq_obj rfl rfl rfl (lends_tr _) rfl | exact gpq_per rfl | (refine gpq_box rfl rfl rfl rfl ?_; (focus (repeat (first | exact SeesL.nil | (refine SeesL.cons ?_ ?_; (focus (first | exact Sees.per | exact Sees.obj rfl rfl (lends_tr _) rfl | exact Sees.row rfl rfl rfl))))))))))) | fail)) | refine thenA_n ?_ | refine thenA_r ?_ | refine thenA_e ?_ | refine inB_n ?_ | refine inB_r ?_ | refine inB_hit ?_ | refine inB_miss rfl ?_ | ((first | refine AL_cl rfl rfl rfl ⟨fun hc => ?_, fun hc => ?_⟩ | refine AD_cl rfl rfl rfl ⟨fun hc => ?_, fun hc => ?_⟩) <;> (fail_if_success (have q : (true = true) := hc)) <;> (fail_if_success (have q : (false = false) := hc)) <;> (repeat rw [List.length_map] at hc) <;> (try exact absd hc)) | refine AW_cond_nil rfl rfl (fun hc => ?_) ?_))
  refine ⟨.inl rfl, ResM_le (Le_fold 2000 _ 83 (nodeU 2010 2011 l r x o (Tr.node l x o r).dep (Tr.node l x o r).siz (Tr.node l x o r).tot) rfl rfl (ready_node rfl rfl) rfl) ?_⟩
  refine resM1 [(2000, 3000)] rfl rfl ?_ (rvm rfl rfl)
  (repeat (first | exact AllX.nil | (refine AllX.cons rfl ?_ ?_; (focus first | rfl | skip))))
theorem tr_turnRight (ll lr r : Tr) (lx x : It) (lo o d m s : Int) (hs : (Tr.node (.node ll lx lo lr) x o r).siz ≤ 1000000) :
    FnM Try.prog 65 [.ptr 2000 0 0] [(2000, nodeB (.row 2010 0) (.row 2011 0) x o d m s), (2010, .obj (trO (.node ll lx lo lr))), (2011, .obj (trO r))] (.row 3000 0) [(3000, .obj (trO (.node ll lx lo (.node lr x o r))))] := by
  have f1 := tr_fix lr r x o d m s (by simp only [Tr.siz] at *; omega)
  have f2 := tr_fix ll (.node lr x o r) lx lo (Tr.node ll lx lo lr).dep (Tr.node ll lx lo lr).siz (Tr.node ll lx lo lr).tot (by simp only [Tr.siz] at *; omega)
  refine fnm_intro Try.func65 rfl (by kernel_rfl) Try.ntmps65 (Nat.le_of_ble_eq_true rfl) ?_
  refine AW_le (Le_unf 2010 0 83 (nodeU 2012 2013 ll lr lx lo (Tr.node ll lx lo lr).dep (Tr.node ll lx lo lr).siz (Tr.node ll lx lo lr).tot) rfl rfl rfl) ?_
  (repeat' (first | refine AW_seq ?_ | refine AW_block ?_ | refine AW_skip ?_ | refine AW_exit ?_ | refine AW_ret ?_ | refine AW_region ?_ | refine AW_draw mixed0 ?_ | refine AL_nil ?_ | refine AD_nil (by kernel_rfl) ?_ | (refine AW_cl rfl rfl ⟨fun hc => ?_, fun hc => ?_⟩ <;> (repeat rw [List.length_map] at hc) <;> (try exact absd hc)) | ((first | apply AL_t rfl | apply AL_0 rfl | apply AD_t rfl | apply AD_0 rfl); focus (first | exact z_auto | exact c_MA [(2000, 2000), (2010, 2013), (2011, 2011), (3000, 2020)] (f1) | exact c_MA [(2000, 2010), (2010, 2012), (2011, 2020), (3000, 2030)] (f2) | fail)) | refine thenA_n ?_ | refine thenA_r ?_ | refine thenA_e ?_ | refine inB_n ?_ | refine inB_r ?_ | refine inB_hit ?_ | refine inB_miss rfl ?_ | ((first | refine AL_cl rfl rfl rfl ⟨fun hc => ?_, fun hc => ?_⟩ | refine AD_cl rfl rfl rfl ⟨fun hc => ?_, fun hc => ?_⟩) <;> (fail_if_success (have q : (true = true) := hc)) <;> (fail_if_success (have q : (false = false) := hc)) <;> (repeat rw [List.length_map] at hc) <;> (try exact absd hc)) | refine AW_cond_nil rfl rfl (fun hc => ?_) ?_))
  refine ⟨.inl rfl, resM1 [(2030, 3000)] rfl rfl ?_ (rvm rfl rfl)⟩
  (repeat (first | exact AllX.nil | (refine AllX.cons rfl ?_ ?_; (focus first | rfl | skip))))
theorem tr_turnLeft (l rl rr : Tr) (rx x : It) (ro o d m s : Int) (hs : (Tr.node l x o (.node rl rx ro rr)).siz ≤ 1000000) :
    FnM Try.prog 64 [.ptr 2000 0 0] [(2000, nodeB (.row 2010 0) (.row 2011 0) x o d m s), (2010, .obj (trO l)), (2011, .obj (trO (.node rl rx ro rr)))] (.row 3000 0) [(3000, .obj (trO (.node (.node l x o rl) rx ro rr)))] := by
  have f1 := tr_fix l rl x o d m s (by simp only [Tr.siz] at *; omega)
  have f2 := tr_fix (.node l x o rl) rr rx ro (Tr.node rl rx ro rr).dep (Tr.node rl rx ro rr).siz (Tr.node rl rx ro rr).tot (by simp only [Tr.siz] at *; omega)
  refine fnm_intro Try.func64 rfl (by kernel_rfl) Try.ntmps64 (Nat.le_of_ble_eq_true rfl) ?_
  refine AW_le (Le_unf 2011 0 83 (nodeU 2012 2013 rl rr rx ro (Tr.node rl rx ro rr).dep (Tr.node rl rx ro rr).siz (Tr.node rl rx ro rr).tot) rfl rfl rfl) ?_
  (repeat' (first | refine AW_seq ?_ | refine AW_block ?_ | refine AW_skip ?_ | refine AW_exit ?_ | refine AW_ret ?_ | refine AW_region ?_ | refine AW_draw mixed0 ?_ | refine AL_nil ?_ | refine AD_nil (by kernel_rfl) ?_ | (refine AW_cl rfl rfl ⟨fun hc => ?_, fun hc => ?_⟩ <;> (repeat rw [List.length_map] at hc) <;> (try exact absd hc)) | ((first | apply AL_t rfl | apply AL_0 rfl | apply AD_t rfl | apply AD_0 rfl); focus (first | exact z_auto | exact c_MA [(2000, 2000), (2010, 2010), (2011, 2012), (3000, 2020)] (f1) | exact c_MA [(2000, 2011), (2010, 2020), (2011, 2013), (3000, 2030)] (f2) | fail)) | refine thenA_n ?_ | refine thenA_r ?_ | refine thenA_e ?_ | refine inB_n ?_ | refine inB_r ?_ | refine inB_hit ?_ | refine inB_miss rfl ?_ | ((first | refine AL_cl rfl rfl rfl ⟨fun hc => ?_, fun hc => ?_⟩ | refine AD_cl rfl rfl rfl ⟨fun hc => ?_, fun hc => ?_⟩) <;> (fail_if_success (have q : (true = true) := hc)) <;> (fail_if_success (have q : (false = false) := hc)) <;> (repeat rw [List.length_map] at hc) <;> (try exact absd hc)) | refine AW_cond_nil rfl rfl (fun hc => ?_) ?_))
  refine ⟨.inl rfl, resM1 [(2030, 3000)] rfl rfl ?_ (rvm rfl rfl)⟩
  (repeat (first | exact AllX.nil | (refine AllX.cons rfl ?_ ?_; (focus first | rfl | skip))))
def turnR : Tr → Tr
  | .node (.node ll lx lo lr) x o r => .node ll lx lo (.node lr x o r)
  | t => t
def turnL : Tr → Tr
  | .node l x o (.node rl rx ro rr) => .node (.node l x o rl) rx ro rr
  | t => t
def Tr.lt : Tr → Tr
  | .nil => .nil
  | .node l _ _ _ => l
def Tr.rt : Tr → Tr
  | .nil => .nil
  | .node _ _ _ r => r
/-- both sides nearly as deep as one another -/
def levelT (l : Tr) (x : It) (o : Int) (r : Tr) : Tr :=
  if l.dep > r.dep + 1 then (if l.lt.dep < l.rt.dep then turnR (.node (turnL l) x o r) else turnR (.node l x o r))
  else if r.dep > l.dep + 1 then (if r.rt.dep < r.lt.dep then turnL (.node l x o (turnR r)) else turnL (.node l x o r))
  else .node l x o r
theorem siz_turnR (t : Tr) : (turnR t).siz = t.siz := by
  unfold turnR; split <;> simp only [Tr.siz] <;> omega
theorem siz_turnL (t : Tr) : (turnL t).siz = t.siz := by
  unfold turnL; split <;> simp only [Tr.siz] <;> omega
theorem dep_pos {t : Tr} (h : 0 < t.dep) : ∃ l x o r, t = .node l x o r := by
  cases t with
  | nil => simp [Tr.dep] at h
  | node l x o r => exact ⟨_, _, _, _, rfl⟩
theorem tr_level (l r : Tr) (x : It) (o d m s : Int) (hs : (Tr.node l x o r).siz ≤ 1000000) :
    FnM Try.prog 53 [.ptr 2000 0 0] [(2000, nodeB (.row 2010 0) (.row 2011 0) x o d m s), (2010, .obj (trO l)), (2011, .obj (trO r))] (.row 3000 0) [(3000, .obj (trO (levelT l x o r)))] := by
  have b1 := l.dep_le
  have b2 := r.dep_le
  have hs' : 1 + l.siz + r.siz ≤ 1000000 := hs
  have h1 := tr_depth l
  have h2 := tr_depth r
  by_cases c1 : l.dep > r.dep + 1
  · obtain ⟨ll, lx, lo, lr, rfl⟩ := dep_pos (t := l) (by omega)
    have h3 := tr_depth ll
    have h4 := tr_depth lr
    by_cases c2 : ll.dep < lr.dep
    · obtain ⟨al, ax, ao, ar, rfl⟩ := dep_pos (t := lr) (by omega)
      have hL : levelT (.node ll lx lo (.node al ax ao ar)) x o r = .node (.node ll lx lo al) ax ao (.node ar x o r) := by
        unfold levelT
        rw [if_pos c1, if_pos (show (Tr.lt (.node ll lx lo (.node al ax ao ar))).dep < (Tr.rt (.node ll lx lo (.node al ax ao ar))).dep from c2)]; rfl
      rw [hL]
      have t1 := tr_turnLeft ll al ar ax lx ao lo (Tr.node ll lx lo (.node al ax ao ar)).dep (Tr.node ll lx lo (.node al ax ao ar)).siz (Tr.node ll lx lo (.node al ax ao ar)).tot (by simp only [Tr.siz] at *; omega)
      have t2 := tr_turnRight (.node ll lx lo al) ar r ax x ao o d m s (by simp only [Tr.siz] at *; omega)
      clear hL
      refine fnm_intro Try.func53 rfl (by kernel_rfl) Try.ntmps53 (Nat.le_of_ble_eq_true rfl) ?_
      refine AW_le (Le_unf 2010 0 83 (nodeU 2012 2013 ll (.node al ax ao ar) lx lo (Tr.node ll lx lo (.node al ax ao ar)).dep (Tr.node ll lx lo (.node al ax ao ar)).siz (Tr.node ll lx lo (.node al ax ao ar)).tot) rfl rfl rfl) ?_
      (repeat' (first | refine AW_seq ?_ | refine AW_block ?_ | refine AW_skip ?_ | refine AW_exit ?_ | refine AW_ret ?_ | refine AW_region ?_ | refine AW_draw mixed0 ?_ | refine AL_nil ?_ | refine AD_nil (by kernel_rfl) ?_ | (refine AW_cl rfl rfl ⟨fun hc => ?_, fun hc => ?_⟩ <;> (repeat rw [List.length_map] at hc) <;> (try exact absd hc)) | ((first | apply AL_t rfl | apply AL_0 rfl | apply AD_t rfl | apply AD_0 rfl); focus (first | exact z_auto | ((refine c_P (ids := [2010, 2012, 2013]) (h1) (hg := ?_); (refine GPl.cons ?_ GPl.nil; first | exact gpq_obj rfl rfl rfl (lends_tr _) rfl | exact gpq_per rfl | (refine gpq_box rfl rfl rfl rfl ?_; (focus (repeat (first | exact SeesL.nil | (refine SeesL.cons ?_ ?_; (focus (first | exact Sees.per | exact Sees.obj rfl rfl (lends_tr _) rfl | exact Sees.row rfl rfl rfl)))))))))) | (apply u_g; (focus rfl); apply op_gyes rfl rfl rfl rfl rfl; ((refine c_P (ids := [2010, 2012, 2013]) (h1) (hg := ?_); (refine GPl.cons ?_ GPl.nil; first | exact gpq_obj rfl rfl rfl (lends_tr _) rfl | exact gpq_per rfl | (refine gpq_box rfl rfl rfl rfl ?_; (focus (repeat (first | exact SeesL.nil | (refine SeesL.cons ?_ ?_; (focus (first | exact Sees.per | exact Sees.obj rfl rfl (lends_tr _) rfl | exact Sees.row rfl rfl rfl))))))))))) | ((refine c_P (ids := [2011]) (h2) (hg := ?_); (refine GPl.cons ?_ GPl.nil; first | exact gpq_obj rfl rfl rfl (lends_tr _) rfl | exact gpq_per rfl | (refine gpq_box rfl rfl rfl rfl ?_; (focus (repeat (first | exact SeesL.nil | (refine SeesL.cons ?_ ?_; (focus (first | exact Sees.per | exact Sees.obj rfl rfl (lends_tr _) rfl | exact Sees.row rfl rfl rfl)))))))))) | (apply u_g; (focus rfl); apply op_gyes rfl rfl rfl rfl rfl; ((refine c_P (ids := [2011]) (h2) (hg := ?_); (refine GPl.cons ?_ GPl.nil; first | exact gpq_obj rfl rfl rfl (lends_tr _) rfl | exact gpq_per rfl | (refine gpq_box rfl rfl rfl rfl ?_; (focus (repeat (first | exact SeesL.nil | (refine SeesL.cons ?_ ?_; (focus (first | exact Sees.per | exact Sees.obj rfl rfl (lends_tr _) rfl | exact Sees.row rfl rfl rfl))))))))))) | ((refine c_P (ids := [2012]) (h3) (hg := ?_); (refine GPl.cons ?_ GPl.nil; first | exact gpq_obj rfl rfl rfl (lends_tr _) rfl | exact gpq_per rfl | (refine gpq_box rfl rfl rfl rfl ?_; (focus (repeat (first | exact SeesL.nil | (refine SeesL.cons ?_ ?_; (focus (first | exact Sees.per | exact Sees.obj rfl rfl (lends_tr _) rfl | exact Sees.row rfl rfl rfl)))))))))) | (apply u_g; (focus rfl); apply op_gyes rfl rfl rfl rfl rfl; ((refine c_P (ids := [2012]) (h3) (hg := ?_); (refine GPl.cons ?_ GPl.nil; first | exact gpq_obj rfl rfl rfl (lends_tr _) rfl | exact gpq_per rfl | (refine gpq_box rfl rfl rfl rfl ?_; (focus (repeat (first | exact SeesL.nil | (refine SeesL.cons ?_ ?_; (focus (first | exact Sees.per | exact Sees.obj rfl rfl (lends_tr _) rfl | exact Sees.row rfl rfl rfl))))))))))) | ((refine c_P (ids := [2013]) (h4) (hg := ?_); (refine GPl.cons ?_ GPl.nil; first | exact gpq_obj rfl rfl rfl (lends_tr _) rfl | exact gpq_per rfl | (refine gpq_box rfl rfl rfl rfl ?_; (focus (repeat (first | exact SeesL.nil | (refine SeesL.cons ?_ ?_; (focus (first | exact Sees.per | exact Sees.obj rfl rfl (lends_tr _) rfl | exact Sees.row rfl rfl rfl)))))))))) | (apply u_g; (focus rfl); apply op_gyes rfl rfl rfl rfl rfl; ((refine c_P (ids := [2013]) (h4) (hg := ?_); (refine GPl.cons ?_ GPl.nil; first | exact gpq_obj rfl rfl rfl (lends_tr _) rfl | exact gpq_per rfl | (refine gpq_box rfl rfl rfl rfl ?_; (focus (repeat (first | exact SeesL.nil | (refine SeesL.cons ?_ ?_; (focus (first | exact Sees.per | exact Sees.obj rfl rfl (lends_tr _) rfl | exact Sees.row rfl rfl rfl))))))))))) | exact c_MA [(2000, 2010), (2010, 2012), (2011, 2013), (3000, 2020)] (t1) | exact c_MA [(2000, 2000), (2010, 2020), (2011, 2011), (3000, 2030)] (t2) | fail)) | refine thenA_n ?_ | refine thenA_r ?_ | refine thenA_e ?_ | refine inB_n ?_ | refine inB_r ?_ | refine inB_hit ?_ | refine inB_miss rfl ?_ | ((first | refine AL_cl rfl rfl rfl ⟨fun hc => ?_, fun hc => ?_⟩ | refine AD_cl rfl rfl rfl ⟨fun hc => ?_, fun hc => ?_⟩) <;> (fail_if_success (have q : (true = true) := hc)) <;> (fail_if_success (have q : (false = false) := hc)) <;> (repeat rw [List.length_map] at hc) <;> (try exact absd hc)) | refine AW_cond_nil rfl rfl (fun hc => ?_) ?_))
      refine ⟨.inl rfl, resM1 [(2030, 3000)] rfl rfl ?_ (rvm rfl rfl)⟩
      (repeat (first | exact AllX.nil | (refine AllX.cons rfl ?_ ?_; (focus first | rfl | skip))))
    · have hL : levelT (.node ll lx lo lr) x o r = .node ll lx lo (.node lr x o r) := by
        unfold levelT
        rw [if_pos c1, if_neg (show ¬ (Tr.lt (.node ll lx lo lr)).dep < (Tr.rt (.node ll lx lo lr)).dep from c2)]; rfl
      rw [hL]
      have t2 := tr_turnRight ll lr r lx x lo o d m s (by simp only [Tr.siz] at *; omega)
      clear hL
      refine fnm_intro Try.func53 rfl (by kernel_rfl) Try.ntmps53 (Nat.le_of_ble_eq_true rfl) ?_
      refine AW_le (Le_unf 2010 0 83 (nodeU 2012 2013 ll lr lx lo (Tr.node ll lx lo lr).dep (Tr.node ll lx lo lr).siz (Tr.node ll lx lo lr).tot) rfl rfl rfl) ?_
      (repeat' (first | refine AW_seq ?_ | refine AW_block ?_ | refine AW_skip ?_ | refine AW_exit ?_ | refine AW_ret ?_ | refine AW_region ?_ | refine AW_draw mixed0 ?_ | refine AL_nil ?_ | refine AD_nil (by kernel_rfl) ?_ | (refine AW_cl rfl rfl ⟨fun hc => ?_, fun hc => ?_⟩ <;> (repeat rw [List.length_map] at hc) <;> (try exact absd hc)) | ((first | apply AL_t rfl | apply AL_0 rfl | apply AD_t rfl | apply AD_0 rfl); focus (first | exact z_auto | ((refine c_P (ids := [2010, 2012, 2013]) (h1) (hg := ?_); (refine GPl.cons ?_ GPl.nil; first | exact gpq_obj rfl rfl rfl (lends_tr _) rfl | exact gpq_per rfl | (refine gpq_box rfl rfl rfl rfl ?_; (focus (repeat (first | exact SeesL.nil | (refine SeesL.cons ?_ ?_; (focus (first | exact Sees.per | exact Sees.obj rfl rfl (lends_tr _) rfl | exact Sees.row rfl rfl rfl)))))))))) | (apply u_g; (focus rfl); apply op_gyes rfl rfl rfl rfl rfl; ((refine c_P (ids := [2010, 2012, 2013]) (h1) (hg := ?_); (refine GPl.cons ?_ GPl.nil; first | exact gpq_obj rfl rfl rfl (lends_tr _) rfl | exact gpq_per rfl | (refine gpq_box rfl rfl rfl rfl ?_; (focus (repeat (first | exact SeesL.nil | (refine SeesL.cons ?_ ?_; (focus (first | exact Sees.per | exact Sees.obj rfl rfl (lends_tr _) rfl | exact Sees.row rfl rfl rfl))))))))))) | ((refine c_P (ids := [2011]) (h2) (hg := ?_); (refine GPl.cons ?_ GPl.nil; first | exact gpq_obj rfl rfl rfl (lends_tr _) rfl | exact gpq_per rfl | (refine gpq_box rfl rfl rfl rfl ?_; (focus (repeat (first | exact SeesL.nil | (refine SeesL.cons ?_ ?_; (focus (first | exact Sees.per | exact Sees.obj rfl rfl (lends_tr _) rfl | exact Sees.row rfl rfl rfl)))))))))) | (apply u_g; (focus rfl); apply op_gyes rfl rfl rfl rfl rfl; ((refine c_P (ids := [2011]) (h2) (hg := ?_); (refine GPl.cons ?_ GPl.nil; first | exact gpq_obj rfl rfl rfl (lends_tr _) rfl | exact gpq_per rfl | (refine gpq_box rfl rfl rfl rfl ?_; (focus (repeat (first | exact SeesL.nil | (refine SeesL.cons ?_ ?_; (focus (first | exact Sees.per | exact Sees.obj rfl rfl (lends_tr _) rfl | exact Sees.row rfl rfl rfl))))))))))) | ((refine c_P (ids := [2012]) (h3) (hg := ?_); (refine GPl.cons ?_ GPl.nil; first | exact gpq_obj rfl rfl rfl (lends_tr _) rfl | exact gpq_per rfl | (refine gpq_box rfl rfl rfl rfl ?_; (focus (repeat (first | exact SeesL.nil | (refine SeesL.cons ?_ ?_; (focus (first | exact Sees.per | exact Sees.obj rfl rfl (lends_tr _) rfl | exact Sees.row rfl rfl rfl)))))))))) | (apply u_g; (focus rfl); apply op_gyes rfl rfl rfl rfl rfl; ((refine c_P (ids := [2012]) (h3) (hg := ?_); (refine GPl.cons ?_ GPl.nil; first | exact gpq_obj rfl rfl rfl (lends_tr _) rfl | exact gpq_per rfl | (refine gpq_box rfl rfl rfl rfl ?_; (focus (repeat (first | exact SeesL.nil | (refine SeesL.cons ?_ ?_; (focus (first | exact Sees.per | exact Sees.obj rfl rfl (lends_tr _) rfl | exact Sees.row rfl rfl rfl))))))))))) | ((refine c_P (ids := [2013]) (h4) (hg := ?_); (refine GPl.cons ?_ GPl.nil; first | exact gpq_obj rfl rfl rfl (lends_tr _) rfl | exact gpq_per rfl | (refine gpq_box rfl rfl rfl rfl ?_; (focus (repeat (first | exact SeesL.nil | (refine SeesL.cons ?_ ?_; (focus (first | exact Sees.per | exact Sees.obj rfl rfl (lends_tr _) rfl | exact Sees.row rfl rfl rfl)))))))))) | (apply u_g; (focus rfl); apply op_gyes rfl rfl rfl rfl rfl; ((refine c_P (ids := [2013]) (h4) (hg := ?_); (refine GPl.cons ?_ GPl.nil; first | exact gpq_obj rfl rfl rfl (lends_tr _) rfl | exact gpq_per rfl | (refine gpq_box rfl rfl rfl rfl ?_; (focus (repeat (first | exact SeesL.nil | (refine SeesL.cons ?_ ?_; (focus (first | exact Sees.per | exact Sees.obj rfl rfl (lends_tr _) rfl | exact Sees.row rfl rfl rfl))))))))))) | fail)) | refine thenA_n ?_ | refine thenA_r ?_ | refine thenA_e ?_ | refine inB_n ?_ | refine inB_r ?_ | refine inB_hit ?_ | refine inB_miss rfl ?_ | ((first | refine AL_cl rfl rfl rfl ⟨fun hc => ?_, fun hc => ?_⟩ | refine AD_cl rfl rfl rfl ⟨fun hc => ?_, fun hc => ?_⟩) <;> (fail_if_success (have q : (true = true) := hc)) <;> (fail_if_success (have q : (false = false) := hc)) <;> (repeat rw [List.length_map] at hc) <;> (try exact absd hc)) | refine AW_cond_nil rfl rfl (fun hc => ?_) ?_))
      refine AL_le (Le_fold 2010 _ 83 (nodeU 2012 2013 ll lr lx lo (Tr.node ll lx lo lr).dep (Tr.node ll lx lo lr).siz (Tr.node ll lx lo lr).tot) rfl rfl (ready_node rfl rfl) rfl) ?_
      (repeat' (first | refine AW_seq ?_ | refine AW_block ?_ | refine AW_skip ?_ | refine AW_exit ?_ | refine AW_ret ?_ | refine AW_region ?_ | refine AW_draw mixed0 ?_ | refine AL_nil ?_ | refine AD_nil (by kernel_rfl) ?_ | (refine AW_cl rfl rfl ⟨fun hc => ?_, fun hc => ?_⟩ <;> (repeat rw [List.length_map] at hc) <;> (try exact absd hc)) | ((first | apply AL_t rfl | apply AL_0 rfl | apply AD_t rfl | apply AD_0 rfl); focus (first | exact z_auto | exact c_MA [(2000, 2000), (2010, 2010), (2011, 2011), (3000, 2030)] (t2) | fail)) | refine thenA_n ?_ | refine thenA_r ?_ | refine thenA_e ?_ | refine inB_n ?_ | refine inB_r ?_ | refine inB_hit ?_ | refine inB_miss rfl ?_ | ((first | refine AL_cl rfl rfl rfl ⟨fun hc => ?_, fun hc => ?_⟩ | refine AD_cl rfl rfl rfl ⟨fun hc => ?_, fun hc => ?_⟩) <;> (fail_if_success (have q : (true = true) := hc)) <;> (fail_if_success (have q : (false = false) := hc)) <;> (repeat rw [List.length_map] at hc) <;> (try exact absd hc)) | refine AW_cond_nil rfl rfl (fun hc => ?_) ?_))
      refine ⟨.inl rfl, resM1 [(2030, 3000)] rfl rfl ?_ (rvm rfl rfl)⟩
      (repeat (first | exact AllX.nil | (refine AllX.cons rfl ?_ ?_; (focus first | rfl | skip))))
  · by_cases c3 : r.dep > l.dep + 1
    · obtain ⟨rl, rx, ro, rr, rfl⟩ := dep_pos (t := r) (by omega)
      have h3 := tr_depth rl
      have h4 := tr_depth rr
      by_cases c2 : rr.dep < rl.dep
      · obtain ⟨al, ax, ao, ar, rfl⟩ := dep_pos (t := rl) (by omega)
        have hL : levelT l x o (.node (.node al ax ao ar) rx ro rr) = .node (.node l x o al) ax ao (.node ar rx ro rr) := by
          unfold levelT
          rw [if_neg c1, if_pos c3, if_pos (show (Tr.rt (.node (.node al ax ao ar) rx ro rr)).dep < (Tr.lt (.node (.node al ax ao ar) rx ro rr)).dep from c2)]; rfl
        rw [hL]
        have t1 := tr_turnRight al ar rr ax rx ao ro (Tr.node (.node al ax ao ar) rx ro rr).dep (Tr.node (.node al ax ao ar) rx ro rr).siz (Tr.node (.node al ax ao ar) rx ro rr).tot (by simp only [Tr.siz] at *; omega)
        have t2 := tr_turnLeft l al (.node ar rx ro rr) ax x ao o d m s (by simp only [Tr.siz] at *; omega)
        clear hL
        refine fnm_intro Try.func53 rfl (by kernel_rfl) Try.ntmps53 (Nat.le_of_ble_eq_true rfl) ?_
        refine AW_le (Le_unf 2011 0 83 (nodeU 2012 2013 (.node al ax ao ar) rr rx ro (Tr.node (.node al ax ao ar) rx ro rr).dep (Tr.node (.node al ax ao ar) rx ro rr).siz (Tr.node (.node al ax ao ar) rx ro rr).tot) rfl rfl rfl) ?_
        (repeat' (first | refine AW_seq ?_ | refine AW_block ?_ | refine AW_skip ?_ | refine AW_exit ?_ | refine AW_ret ?_ | refine AW_region ?_ | refine AW_draw mixed0 ?_ | refine AL_nil ?_ | refine AD_nil (by kernel_rfl) ?_ | (refine AW_cl rfl rfl ⟨fun hc => ?_, fun hc => ?_⟩ <;> (repeat rw [List.length_map] at hc) <;> (try exact absd hc)) | ((first | apply AL_t rfl | apply AL_0 rfl | apply AD_t rfl | apply AD_0 rfl); focus (first | exact z_auto | ((refine c_P (ids := [2010]) (h1) (hg := ?_); (refine GPl.cons ?_ GPl.nil; first | exact gpq_obj rfl rfl rfl (lends_tr _) rfl | exact gpq_per rfl | (refine gpq_box rfl rfl rfl rfl ?_; (focus (repeat (first | exact SeesL.nil | (refine SeesL.cons ?_ ?_; (focus (first | exact Sees.per | exact Sees.obj rfl rfl (lends_tr _) rfl | exact Sees.row rfl rfl rfl)))))))))) | (apply u_g; (focus rfl); apply op_gyes rfl rfl rfl rfl rfl; ((refine c_P (ids := [2010]) (h1) (hg := ?_); (refine GPl.cons ?_ GPl.nil; first | exact gpq_obj rfl rfl rfl (lends_tr _) rfl | exact gpq_per rfl | (refine gpq_box rfl rfl rfl rfl ?_; (focus (repeat (first | exact SeesL.nil | (refine SeesL.cons ?_ ?_; (focus (first | exact Sees.per | exact Sees.obj rfl rfl (lends_tr _) rfl | exact Sees.row rfl rfl rfl))))))))))) | ((refine c_P (ids := [2011, 2012, 2013]) (h2) (hg := ?_); (refine GPl.cons ?_ GPl.nil; first | exact gpq_obj rfl rfl rfl (lends_tr _) rfl | exact gpq_per rfl | (refine gpq_box rfl rfl rfl rfl ?_; (focus (repeat (first | exact SeesL.nil | (refine SeesL.cons ?_ ?_; (focus (first | exact Sees.per | exact Sees.obj rfl rfl (lends_tr _) rfl | exact Sees.row rfl rfl rfl)))))))))) | (apply u_g; (focus rfl); apply op_gyes rfl rfl rfl rfl rfl; ((refine c_P (ids := [2011, 2012, 2013]) (h2) (hg := ?_); (refine GPl.cons ?_ GPl.nil; first | exact gpq_obj rfl rfl rfl (lends_tr _) rfl | exact gpq_per rfl | (refine gpq_box rfl rfl rfl rfl ?_; (focus (repeat (first | exact SeesL.nil | (refine SeesL.cons ?_ ?_; (focus (first | exact Sees.per | exact Sees.obj rfl rfl (lends_tr _) rfl | exact Sees.row rfl rfl rfl))))))))))) | ((refine c_P (ids := [2012]) (h3) (hg := ?_); (refine GPl.cons ?_ GPl.nil; first | exact gpq_obj rfl rfl rfl (lends_tr _) rfl | exact gpq_per rfl | (refine gpq_box rfl rfl rfl rfl ?_; (focus (repeat (first | exact SeesL.nil | (refine SeesL.cons ?_ ?_; (focus (first | exact Sees.per | exact Sees.obj rfl rfl (lends_tr _) rfl | exact Sees.row rfl rfl rfl)))))))))) | (apply u_g; (focus rfl); apply op_gyes rfl rfl rfl rfl rfl; ((refine c_P (ids := [2012]) (h3) (hg := ?_); (refine GPl.cons ?_ GPl.nil; first | exact gpq_obj rfl rfl rfl (lends_tr _) rfl | exact gpq_per rfl | (refine gpq_box rfl rfl rfl rfl ?_; (focus (repeat (first | exact SeesL.nil | (refine SeesL.cons ?_ ?_; (focus (first | exact Sees.per | exact Sees.obj rfl rfl (lends_tr _) rfl | exact Sees.row rfl rfl rfl))))))))))) | ((refine c_P (ids := [2013]) (h4) (hg := ?_); (refine GPl.cons ?_ GPl.nil; first | exact gpq_obj rfl rfl rfl (lends_tr _) rfl | exact gpq_per rfl | (refine gpq_box rfl rfl rfl rfl ?_; (focus (repeat (first | exact SeesL.nil | (refine SeesL.cons ?_ ?_; (focus (first | exact Sees.per | exact Sees.obj rfl rfl (lends_tr _) rfl | exact Sees.row rfl rfl rfl)))))))))) | (apply u_g; (focus rfl); apply op_gyes rfl rfl rfl rfl rfl; ((refine c_P (ids := [2013]) (h4) (hg := ?_); (refine GPl.cons ?_ GPl.nil; first | exact gpq_obj rfl rfl rfl (lends_tr _) rfl | exact gpq_per rfl | (refine gpq_box rfl rfl rfl rfl ?_; (focus (repeat (first | exact SeesL.nil | (refine SeesL.cons ?_ ?_; (focus (first | exact Sees.per | exact Sees.obj rfl rfl (lends_tr _) rfl | exact Sees.row rfl rfl rfl))))))))))) | exact c_MA [(2000, 2011), (2010, 2012), (2011, 2013), (3000, 2020)] (t1) | exact c_MA [(2000, 2000), (2010, 2010), (2011, 2020), (3000, 2030)] (t2) | fail)) | refine thenA_n ?_ | refine thenA_r ?_ | refine thenA_e ?_ | refine inB_n ?_ | refine inB_r ?_ | refine inB_hit ?_ | refine inB_miss rfl ?_ | ((first | refine AL_cl rfl rfl rfl ⟨fun hc => ?_, fun hc => ?_⟩ | refine AD_cl rfl rfl rfl ⟨fun hc => ?_, fun hc => ?_⟩) <;> (fail_if_success (have q : (true = true) := hc)) <;> (fail_if_success (have q : (false = false) := hc)) <;> (repeat rw [List.length_map] at hc) <;> (try exact absd hc)) | refine AW_cond_nil rfl rfl (fun hc => ?_) ?_))
        refine ⟨.inl rfl, resM1 [(2030, 3000)] rfl rfl ?_ (rvm rfl rfl)⟩
        (repeat (first | exact AllX.nil | (refine AllX.cons rfl ?_ ?_; (focus first | rfl | skip))))
      · have hL : levelT l x o (.node rl rx ro rr) = .node (.node l x o rl) rx ro rr := by
          unfold levelT
          rw [if_neg c1, if_pos c3, if_neg (show ¬ (Tr.rt (.node rl rx ro rr)).dep < (Tr.lt (.node rl rx ro rr)).dep from c2)]; rfl
        rw [hL]
        have t2 := tr_turnLeft l rl rr rx x ro o d m s (by simp only [Tr.siz] at *; omega)
        clear hL
        refine fnm_intro Try.func53 rfl (by kernel_rfl) Try.ntmps53 (Nat.le_of_ble_eq_true rfl) ?_
        refine AW_le (Le_unf 2011 0 83 (nodeU 2012 2013 rl rr rx ro (Tr.node rl rx ro rr).dep (Tr.node rl rx ro rr).siz (Tr.node rl rx ro rr).tot) rfl rfl rfl) ?_
        (repeat' (first | refine AW_seq ?_ | refine AW_block ?_ | refine AW_skip ?_ | refine AW_exit ?_ | refine AW_ret ?_ | refine AW_region ?_ | refine AW_draw mixed0 ?_ | refine AL_nil ?_ | refine AD_nil (by kernel_rfl) ?_ | (refine AW_cl rfl rfl ⟨fun hc => ?_, fun hc => ?_⟩ <;> (repeat rw [List.length_map] at hc) <;> (try exact absd hc)) | ((first | apply AL_t rfl | apply AL_0 rfl | apply AD_t rfl | apply AD_0 rfl); focus (first | exact z_auto | ((refine c_P (ids := [2010]) (h1) (hg := ?_); (refine GPl.cons ?_ GPl.nil; first | exact gpq_obj rfl rfl rfl (lends_tr _) rfl | exact gpq_per rfl | (refine gpq_box rfl rfl rfl rfl ?_; (focus (repeat (first | exact SeesL.nil | (refine SeesL.cons ?_ ?_; (focus (first | exact Sees.per | exact Sees.obj rfl rfl (lends_tr _) rfl | exact Sees.row rfl rfl rfl)))))))))) | (apply u_g; (focus rfl); apply op_gyes rfl rfl rfl rfl rfl; ((refine c_P (ids := [2010]) (h1) (hg := ?_); (refine GPl.cons ?_ GPl.nil; first | exact gpq_obj rfl rfl rfl (lends_tr _) rfl | exact gpq_per rfl | (refine gpq_box rfl rfl rfl rfl ?_; (focus (repeat (first | exact SeesL.nil | (refine SeesL.cons ?_ ?_; (focus (first | exact Sees.per | exact Sees.obj rfl rfl (lends_tr _) rfl | exact Sees.row rfl rfl rfl))))))))))) | ((refine c_P (ids := [2011, 2012, 2013]) (h2) (hg := ?_); (refine GPl.cons ?_ GPl.nil; first | exact gpq_obj rfl rfl rfl (lends_tr _) rfl | exact gpq_per rfl | (refine gpq_box rfl rfl rfl rfl ?_; (focus (repeat (first | exact SeesL.nil | (refine SeesL.cons ?_ ?_; (focus (first | exact Sees.per | exact Sees.obj rfl rfl (lends_tr _) rfl | exact Sees.row rfl rfl rfl)))))))))) | (apply u_g; (focus rfl); apply op_gyes rfl rfl rfl rfl rfl; ((refine c_P (ids := [2011, 2012, 2013]) (h2) (hg := ?_); (refine GPl.cons ?_ GPl.nil; first | exact gpq_obj rfl rfl rfl (lends_tr _) rfl | exact gpq_per rfl | (refine gpq_box rfl rfl rfl rfl ?_; (focus (repeat (first | exact SeesL.nil | (refine SeesL.cons ?_ ?_; (focus (first | exact Sees.per | exact Sees.obj rfl rfl (lends_tr _) rfl | exact Sees.row rfl rfl rfl))))))))))) | ((refine c_P (ids := [2012]) (h3) (hg := ?_); (refine GPl.cons ?_ GPl.nil; first | exact gpq_obj rfl rfl rfl (lends_tr _) rfl | exact gpq_per rfl | (refine gpq_box rfl rfl rfl rfl ?_; (focus (repeat (first | exact SeesL.nil | (refine SeesL.cons ?_ ?_; (focus (first | exact Sees.per | exact Sees.obj rfl rfl (lends_tr _) rfl | exact Sees.row rfl rfl rfl)))))))))) | (apply u_g; (focus rfl); apply op_gyes rfl rfl rfl rfl rfl; ((refine c_P (ids := [2012]) (h3) (hg := ?_); (refine GPl.cons ?_ GPl.nil; first | exact gpq_obj rfl rfl rfl (lends_tr _) rfl | exact gpq_per rfl | (refine gpq_box rfl rfl rfl rfl ?_; (focus (repeat (first | exact SeesL.nil | (refine SeesL.cons ?_ ?_; (focus (first | exact Sees.per | exact Sees.obj rfl rfl (lends_tr _) rfl | exact Sees.row rfl rfl rfl))))))))))) | ((refine c_P (ids := [2013]) (h4) (hg := ?_); (refine GPl.cons ?_ GPl.nil; first | exact gpq_obj rfl rfl rfl (lends_tr _) rfl | exact gpq_per rfl | (refine gpq_box rfl rfl rfl rfl ?_; (focus (repeat (first | exact SeesL.nil | (refine SeesL.cons ?_ ?_; (focus (first | exact Sees.per | exact Sees.obj rfl rfl (lends_tr _) rfl | exact Sees.row rfl rfl rfl)))))))))) | (apply u_g; (focus rfl); apply op_gyes rfl rfl rfl rfl rfl; ((refine c_P (ids := [2013]) (h4) (hg := ?_); (refine GPl.cons ?_ GPl.nil; first | exact gpq_obj rfl rfl rfl (lends_tr _) rfl | exact gpq_per rfl | (refine gpq_box rfl rfl rfl rfl ?_; (focus (repeat (first | exact SeesL.nil | (refine SeesL.cons ?_ ?_; (focus (first | exact Sees.per | exact Sees.obj rfl rfl (lends_tr _) rfl | exact Sees.row rfl rfl rfl))))))))))) | fail)) | refine thenA_n ?_ | refine thenA_r ?_ | refine thenA_e ?_ | refine inB_n ?_ | refine inB_r ?_ | refine inB_hit ?_ | refine inB_miss rfl ?_ | ((first | refine AL_cl rfl rfl rfl ⟨fun hc => ?_, fun hc => ?_⟩ | refine AD_cl rfl rfl rfl ⟨fun hc => ?_, fun hc => ?_⟩) <;> (fail_if_success (have q : (true = true) := hc)) <;> (fail_if_success (have q : (false = false) := hc)) <;> (repeat rw [List.length_map] at hc) <;> (try exact absd hc)) | refine AW_cond_nil rfl rfl (fun hc => ?_) ?_))
        refine AL_le (Le_fold 2011 _ 83 (nodeU 2012 2013 rl rr rx ro (Tr.node rl rx ro rr).dep (Tr.node rl rx ro rr).siz (Tr.node rl rx ro rr).tot) rfl rfl (ready_node rfl rfl) rfl) ?_
        (repeat' (first | refine AW_seq ?_ | refine AW_block ?_ | refine AW_skip ?_ | refine AW_exit ?_ | refine AW_ret ?_ | refine AW_region ?_ | refine AW_draw mixed0 ?_ | refine AL_nil ?_ | refine AD_nil (by kernel_rfl) ?_ | (refine AW_cl rfl rfl ⟨fun hc => ?_, fun hc => ?_⟩ <;> (repeat rw [List.length_map] at hc) <;> (try exact absd hc)) | ((first | apply AL_t rfl | apply AL_0 rfl | apply AD_t rfl | apply AD_0 rfl); focus (first | exact z_auto | exact c_MA [(2000, 2000), (2010, 2010), (2011, 2011), (3000, 2030)] (t2) | fail)) | refine thenA_n ?_ | refine thenA_r ?_ | refine thenA_e ?_ | refine inB_n ?_ | refine inB_r ?_ | refine inB_hit ?_ | refine inB_miss rfl ?_ | ((first | refine AL_cl rfl rfl rfl ⟨fun hc => ?_, fun hc => ?_⟩ | refine AD_cl rfl rfl rfl ⟨fun hc => ?_, fun hc => ?_⟩) <;> (fail_if_success (have q : (true = true) := hc)) <;> (fail_if_success (have q : (false = false) := hc)) <;> (repeat rw [List.length_map] at hc) <;> (try exact absd hc)) | refine AW_cond_nil rfl rfl (fun hc => ?_) ?_))
        refine ⟨.inl rfl, resM1 [(2030, 3000)] rfl rfl ?_ (rvm rfl rfl)⟩
        (repeat (first | exact AllX.nil | (refine AllX.cons rfl ?_ ?_; (focus first | rfl | skip))))
    · have hL : levelT l x o r = .node l x o r := by
        unfold levelT
        rw [if_neg c1, if_neg c3]
      rw [hL]
      have f := tr_fix l r x o d m s hs
      clear hL
      refine fnm_intro Try.func53 rfl (by kernel_rfl) Try.ntmps53 (Nat.le_of_ble_eq_true rfl) ?_
      (repeat' (first | refine AW_seq ?_ | refine AW_block ?_ | refine AW_skip ?_ | refine AW_exit ?_ | refine AW_ret ?_ | refine AW_region ?_ | refine AW_draw mixed0 ?_ | refine AL_nil ?_ | refine AD_nil (by kernel_rfl) ?_ | (refine AW_cl rfl rfl ⟨fun hc => ?_, fun hc => ?_⟩ <;> (repeat rw [List.length_map] at hc) <;> (try exact absd hc)) | ((first | apply AL_t rfl | apply AL_0 rfl | apply AD_t rfl | apply AD_0 rfl); focus (first | exact z_auto | ((refine c_P (ids := [2010]) (h1) (hg := ?_); (refine GPl.cons ?_ GPl.nil; first | exact gpq_obj rfl rfl rfl (lends_tr _) rfl | exact gpq_per rfl | (refine gpq_box rfl rfl rfl rfl ?_; (focus (repeat (first | exact SeesL.nil | (refine SeesL.cons ?_ ?_; (focus (first | exact Sees.per | exact Sees.obj rfl rfl (lends_tr _) rfl | exact Sees.row rfl rfl rfl)))))))))) | (apply u_g; (focus rfl); apply op_gyes rfl rfl rfl rfl rfl; ((refine c_P (ids := [2010]) (h1) (hg := ?_); (refine GPl.cons ?_ GPl.nil; first | exact gpq_obj rfl rfl rfl (lends_tr _) rfl | exact gpq_per rfl | (refine gpq_box rfl rfl rfl rfl ?_; (focus (repeat (first | exact SeesL.nil | (refine SeesL.cons ?_ ?_; (focus (first | exact Sees.per | exact Sees.obj rfl rfl (lends_tr _) rfl | exact Sees.row rfl rfl rfl))))))))))) | ((refine c_P (ids := [2011]) (h2) (hg := ?_); (refine GPl.cons ?_ GPl.nil; first | exact gpq_obj rfl rfl rfl (lends_tr _) rfl | exact gpq_per rfl | (refine gpq_box rfl rfl rfl rfl ?_; (focus (repeat (first | exact SeesL.nil | (refine SeesL.cons ?_ ?_; (focus (first | exact Sees.per | exact Sees.obj rfl rfl (lends_tr _) rfl | exact Sees.row rfl rfl rfl)))))))))) | (apply u_g; (focus rfl); apply op_gyes rfl rfl rfl rfl rfl; ((refine c_P (ids := [2011]) (h2) (hg := ?_); (refine GPl.cons ?_ GPl.nil; first | exact gpq_obj rfl rfl rfl (lends_tr _) rfl | exact gpq_per rfl | (refine gpq_box rfl rfl rfl rfl ?_; (focus (repeat (first | exact SeesL.nil | (refine SeesL.cons ?_ ?_; (focus (first | exact Sees.per | exact Sees.obj rfl rfl (lends_tr _) rfl | exact Sees.row rfl rfl rfl))))))))))) | exact c_MA [(2000, 2000), (2010, 2010), (2011, 2011), (3000, 2030)] (f) | fail)) | refine thenA_n ?_ | refine thenA_r ?_ | refine thenA_e ?_ | refine inB_n ?_ | refine inB_r ?_ | refine inB_hit ?_ | refine inB_miss rfl ?_ | ((first | refine AL_cl rfl rfl rfl ⟨fun hc => ?_, fun hc => ?_⟩ | refine AD_cl rfl rfl rfl ⟨fun hc => ?_, fun hc => ?_⟩) <;> (fail_if_success (have q : (true = true) := hc)) <;> (fail_if_success (have q : (false = false) := hc)) <;> (repeat rw [List.length_map] at hc) <;> (try exact absd hc)) | refine AW_cond_nil rfl rfl (fun hc => ?_) ?_))
      refine ⟨.inl rfl, resM1 [(2030, 3000)] rfl rfl ?_ (rvm rfl rfl)⟩
      (repeat (first | exact AllX.nil | (refine AllX.cons rfl ?_ ?_; (focus first | rfl | skip))))
def putT : Tr → It → Int → Tr
  | .nil, x, o => .node .nil x o .nil
  | .node l y p r, x, o => if cmpB x.key y.key < 0 then levelT (putT l x o) y p r else if cmpB x.key y.key > 0 then levelT l y p (putT r x o) else levelT l x o r
theorem siz_levelT (l : Tr) (x : It) (o : Int) (r : Tr) : (levelT l x o r).siz = 1 + l.siz + r.siz := by
  unfold levelT
  split
  · split
    · rw [siz_turnR]; simp only [Tr.siz, siz_turnL]
    · rw [siz_turnR]; rfl
  · split
    · split
      · rw [siz_turnL]; simp only [Tr.siz, siz_turnR]
      · rw [siz_turnL]; rfl
    · rfl
theorem siz_putT : ∀ (t : Tr) (x : It) (o : Int), (putT t x o).siz ≤ t.siz + 1
  | .nil, x, o => by simp [putT, Tr.siz]
  | .node l y p r, x, o => by
    have h1 := siz_putT l x o
    have h2 := siz_putT r x o
    unfold putT
    split
    · rw [siz_levelT]; simp only [Tr.siz]; omega
    · split
      · rw [siz_levelT]; simp only [Tr.siz]; omega
      · rw [siz_levelT]; simp only [Tr.siz]; omega
def leafU (x : It) (o d m s : Int) : List UC := [rawU (.string x.key) rfl rfl, rawU (.int .i64 x.rep) rfl rfl, rawU (.int .i64 x.cnt) rfl rfl, rawU (.int .i64 x.rank) rfl rfl, rawU (.int .i64 x.prio) rfl rfl, rawU (.bool x.dead) rfl rfl, rawU (.string x.body) rfl rfl,
  rawU (.pointer none) rfl rfl, rawU (.pointer none) rfl rfl, rawU (.int .i64 d) rfl rfl, rawU (.int .i64 m) rfl rfl, rawU (.int .u64 o) rfl rfl, rawU (.int .u64 s) rfl rfl]
theorem tr_fix0 (x : It) (o d m s : Int) :
    FnM Try.prog 52 [.ptr 2000 0 0] [(2000, nodeB (.per (rawP (.pointer none))) (.per (rawP (.pointer none))) x o d m s)] (.row 3000 0) [(3000, .obj (trO (.node .nil x o .nil)))] := by
  have h1 : Fn Try.prog 45 [.per (rawP (.pointer none))] (inR 0) := tr_depth .nil
  have h3 : Fn Try.prog 38 [.per (rawP (.pointer none))] (inR 0) := tr_count .nil
  have h5 : Fn Try.prog 59 [.per (rawP (.pointer none))] (.per (rawP (.int .u64 0))) := tr_total .nil
  refine fnm_intro Try.func52 rfl (by kernel_rfl) Try.ntmps52 (Nat.le_of_ble_eq_true rfl) ?_
  (repeat' (first | refine AW_seq ?_ | refine AW_block ?_ | refine AW_skip ?_ | refine AW_exit ?_ | refine AW_ret ?_ | refine AW_region ?_ | refine AW_draw mixed0 ?_ | refine AL_nil ?_ | refine AD_nil (by kernel_rfl) ?_ | (refine AW_cl rfl rfl ⟨fun hc => ?_, fun hc => ?_⟩ <;> (repeat rw [List.length_map] at hc) <;> (try exact absd hc)) | ((first | apply AL_t rfl | apply AL_0 rfl | apply AD_t rfl | apply AD_0 rfl); focus (first | exact z_auto | exact c_A (h1) | exact c_A (h3) | exact c_A (h5) | fail)) | refine thenA_n ?_ | refine thenA_r ?_ | refine thenA_e ?_ | refine inB_n ?_ | refine inB_r ?_ | refine inB_hit ?_ | refine inB_miss rfl ?_ | ((first | refine AL_cl rfl rfl rfl ⟨fun hc => ?_, fun hc => ?_⟩ | refine AD_cl rfl rfl rfl ⟨fun hc => ?_, fun hc => ?_⟩) <;> (fail_if_success (have q : (true = true) := hc)) <;> (fail_if_success (have q : (false = false) := hc)) <;> (repeat rw [List.length_map] at hc) <;> (try exact absd hc)) | refine AW_cond_nil rfl rfl (fun hc => ?_) ?_))
  refine ⟨.inl rfl, ResM_le (Le_fold 2000 _ 83 (leafU x o 1 1 (Tr.node .nil x o .nil).tot) rfl rfl (.p (.p (.p (.p (.p (.p (.p (.p (.p (.p (.p (.p (.p .nil))))))))))))) rfl) ?_⟩
  refine resM1 [(2000, 3000)] rfl rfl ?_ (rvm rfl rfl)
  (repeat (first | exact AllX.nil | (refine AllX.cons rfl ?_ ?_; (focus first | rfl | skip))))
theorem tr_put : ∀ (t : Tr) (x : It) (o : Int), t.siz ≤ 900000 → x.key.size ≤ 1000000000 → FnM Try.prog 32 [.row 2000 0, itC x, iC .u64 o] [(2000, .obj (trO t))] (.row 3000 0) [(3000, .obj (trO (putT t x o)))]
  | .nil, x, o, hs, hk => by
    have f := tr_fix0 x o 0 0 0
    unfold putT
    refine fnm_intro Try.func32 rfl (by kernel_rfl) Try.ntmps32 (Nat.le_of_ble_eq_true rfl) ?_
    refine AW_le (Le_perO 2000 0 (A := rawP (.pointer none)) rfl rfl) ?_
    (repeat' (first | refine AW_seq ?_ | refine AW_block ?_ | refine AW_skip ?_ | refine AW_exit ?_ | refine AW_ret ?_ | refine AW_region ?_ | refine AW_draw mixed0 ?_ | refine AL_nil ?_ | refine AD_nil (by kernel_rfl) ?_ | (refine AW_cl rfl rfl ⟨fun hc => ?_, fun hc => ?_⟩ <;> (repeat rw [List.length_map] at hc) <;> (try exact absd hc)) | ((first | apply AL_t rfl | apply AL_0 rfl | apply AD_t rfl | apply AD_0 rfl); focus (first | exact z_auto | exact c_MA [(2000, 13), (3000, 2030)] (f) | fail)) | refine thenA_n ?_ | refine thenA_r ?_ | refine thenA_e ?_ | refine inB_n ?_ | refine inB_r ?_ | refine inB_hit ?_ | refine inB_miss rfl ?_ | ((first | refine AL_cl rfl rfl rfl ⟨fun hc => ?_, fun hc => ?_⟩ | refine AD_cl rfl rfl rfl ⟨fun hc => ?_, fun hc => ?_⟩) <;> (fail_if_success (have q : (true = true) := hc)) <;> (fail_if_success (have q : (false = false) := hc)) <;> (repeat rw [List.length_map] at hc) <;> (try exact absd hc)) | refine AW_cond_nil rfl rfl (fun hc => ?_) ?_))
    refine ⟨.inl rfl, resM1 [(2030, 3000)] rfl rfl ?_ (rvm rfl rfl)⟩
    (repeat (first | exact AllX.nil | (refine AllX.cons rfl ?_ ?_; (focus first | rfl | skip))))
  | .node l y p r, x, o, hs, hk => by
    have g1 := tr_put l x o (by simp only [Tr.siz] at hs; omega) hk
    have g2 := tr_put r x o (by simp only [Tr.siz] at hs; omega) hk
    have s1 := siz_putT l x o
    have s2 := siz_putT r x o
    have hkc := key_Cmp x.key y.key (by omega)
    have l1 := tr_level (putT l x o) r y p (Tr.node l y p r).dep (Tr.node l y p r).siz (Tr.node l y p r).tot (by simp only [Tr.siz] at *; omega)
    have l2 := tr_level l (putT r x o) y p (Tr.node l y p r).dep (Tr.node l y p r).siz (Tr.node l y p r).tot (by simp only [Tr.siz] at *; omega)
    have l3 := tr_level l r x o (Tr.node l y p r).dep (Tr.node l y p r).siz (Tr.node l y p r).tot (by simp only [Tr.siz] at *; omega)
    unfold putT
    by_cases c1 : cmpB x.key y.key < 0
    · rw [if_pos c1]
      refine fnm_intro Try.func32 rfl (by kernel_rfl) Try.ntmps32 (Nat.le_of_ble_eq_true rfl) ?_
      refine AW_le (Le_unf 2000 0 83 (nodeU 2010 2011 l r y p (Tr.node l y p r).dep (Tr.node l y p r).siz (Tr.node l y p r).tot) rfl rfl rfl) ?_
      (repeat' (first | refine AW_seq ?_ | refine AW_block ?_ | refine AW_skip ?_ | refine AW_exit ?_ | refine AW_ret ?_ | refine AW_region ?_ | refine AW_draw mixed0 ?_ | refine AL_nil ?_ | refine AD_nil (by kernel_rfl) ?_ | (refine AW_cl rfl rfl ⟨fun hc => ?_, fun hc => ?_⟩ <;> (repeat rw [List.length_map] at hc) <;> (try exact absd hc)) | ((first | apply AL_t rfl | apply AL_0 rfl | apply AD_t rfl | apply AD_0 rfl); focus (first | exact z_auto | exact c_A (hkc) | exact c_MA [(2000, 2010), (3000, 2020)] (g1) | exact c_MA [(2000, 2000), (2010, 2020), (2011, 2011), (3000, 2030)] (l1) | fail)) | refine thenA_n ?_ | refine thenA_r ?_ | refine thenA_e ?_ | refine inB_n ?_ | refine inB_r ?_ | refine inB_hit ?_ | refine inB_miss rfl ?_ | ((first | refine AL_cl rfl rfl rfl ⟨fun hc => ?_, fun hc => ?_⟩ | refine AD_cl rfl rfl rfl ⟨fun hc => ?_, fun hc => ?_⟩) <;> (fail_if_success (have q : (true = true) := hc)) <;> (fail_if_success (have q : (false = false) := hc)) <;> (repeat rw [List.length_map] at hc) <;> (try exact absd hc)) | refine AW_cond_nil rfl rfl (fun hc => ?_) ?_))
      refine ⟨.inl rfl, resM1 [(2030, 3000)] rfl rfl ?_ (rvm rfl rfl)⟩
      (repeat (first | exact AllX.nil | (refine AllX.cons rfl ?_ ?_; (focus first | rfl | skip))))
    · rw [if_neg c1]
      by_cases c2 : cmpB x.key y.key > 0
      · rw [if_pos c2]
        refine fnm_intro Try.func32 rfl (by kernel_rfl) Try.ntmps32 (Nat.le_of_ble_eq_true rfl) ?_
        refine AW_le (Le_unf 2000 0 83 (nodeU 2010 2011 l r y p (Tr.node l y p r).dep (Tr.node l y p r).siz (Tr.node l y p r).tot) rfl rfl rfl) ?_
        (repeat' (first | refine AW_seq ?_ | refine AW_block ?_ | refine AW_skip ?_ | refine AW_exit ?_ | refine AW_ret ?_ | refine AW_region ?_ | refine AW_draw mixed0 ?_ | refine AL_nil ?_ | refine AD_nil (by kernel_rfl) ?_ | (refine AW_cl rfl rfl ⟨fun hc => ?_, fun hc => ?_⟩ <;> (repeat rw [List.length_map] at hc) <;> (try exact absd hc)) | ((first | apply AL_t rfl | apply AL_0 rfl | apply AD_t rfl | apply AD_0 rfl); focus (first | exact z_auto | exact c_A (hkc) | exact c_MA [(2000, 2011), (3000, 2020)] (g2) | exact c_MA [(2000, 2000), (2010, 2010), (2011, 2020), (3000, 2030)] (l2) | fail)) | refine thenA_n ?_ | refine thenA_r ?_ | refine thenA_e ?_ | refine inB_n ?_ | refine inB_r ?_ | refine inB_hit ?_ | refine inB_miss rfl ?_ | ((first | refine AL_cl rfl rfl rfl ⟨fun hc => ?_, fun hc => ?_⟩ | refine AD_cl rfl rfl rfl ⟨fun hc => ?_, fun hc => ?_⟩) <;> (fail_if_success (have q : (true = true) := hc)) <;> (fail_if_success (have q : (false = false) := hc)) <;> (repeat rw [List.length_map] at hc) <;> (try exact absd hc)) | refine AW_cond_nil rfl rfl (fun hc => ?_) ?_))
        refine ⟨.inl rfl, resM1 [(2030, 3000)] rfl rfl ?_ (rvm rfl rfl)⟩
        (repeat (first | exact AllX.nil | (refine AllX.cons rfl ?_ ?_; (focus first | rfl | skip))))
      · rw [if_neg c2]
        refine fnm_intro Try.func32 rfl (by kernel_rfl) Try.ntmps32 (Nat.le_of_ble_eq_true rfl) ?_
        refine AW_le (Le_unf 2000 0 83 (nodeU 2010 2011 l r y p (Tr.node l y p r).dep (Tr.node l y p r).siz (Tr.node l y p r).tot) rfl rfl rfl) ?_
        (repeat' (first | refine AW_seq ?_ | refine AW_block ?_ | refine AW_skip ?_ | refine AW_exit ?_ | refine AW_ret ?_ | refine AW_region ?_ | refine AW_draw mixed0 ?_ | refine AL_nil ?_ | refine AD_nil (by kernel_rfl) ?_ | (refine AW_cl rfl rfl ⟨fun hc => ?_, fun hc => ?_⟩ <;> (repeat rw [List.length_map] at hc) <;> (try exact absd hc)) | ((first | apply AL_t rfl | apply AL_0 rfl | apply AD_t rfl | apply AD_0 rfl); focus (first | exact z_auto | exact c_A (hkc) | exact c_MA [(2000, 2000), (2010, 2010), (2011, 2011), (3000, 2030)] (l3) | fail)) | refine thenA_n ?_ | refine thenA_r ?_ | refine thenA_e ?_ | refine inB_n ?_ | refine inB_r ?_ | refine inB_hit ?_ | refine inB_miss rfl ?_ | ((first | refine AL_cl rfl rfl rfl ⟨fun hc => ?_, fun hc => ?_⟩ | refine AD_cl rfl rfl rfl ⟨fun hc => ?_, fun hc => ?_⟩) <;> (fail_if_success (have q : (true = true) := hc)) <;> (fail_if_success (have q : (false = false) := hc)) <;> (repeat rw [List.length_map] at hc) <;> (try exact absd hc)) | refine AW_cond_nil rfl rfl (fun hc => ?_) ?_))
        refine ⟨.inl rfl, resM1 [(2030, 3000)] rfl rfl ?_ (rvm rfl rfl)⟩
        (repeat (first | exact AllX.nil | (refine AllX.cons rfl ?_ ?_; (focus first | rfl | skip))))
theorem sp_obj {S : St} {x : Operand} {id vr e : Nat} {cs : List OV} (hx : S.opd x = .row id vr) (hv : S.ver id = vr) (hb : S.blk id = .obj (recO e cs)) : SurePtr ((2 * id + 1) :: opdN x) S x := fun n C T g a w hA hR => by
  have h := opd_rep (x := x) hA (fun k h => by simp [h]) hR
  rw [hx] at h
  have h1 := hR.blks id
  rw [(hA.2 id (by simp)).1, hb] at h1
  rw [h.2 (by rw [(hA.2 id (by simp)).2, hv])]
  obtain ⟨b, vs, Fs, q, _⟩ := h1
  exact ⟨_, q⟩
/-- the first one taken out: its item, its hash, and what is left -/
def frT : Tr → It → Int → Tr → It × Int × Tr
  | .nil, x, o, r => (x, o, r)
  | .node l y p q, x, o, r => ((frT l y p q).1, (frT l y p q).2.1, levelT (frT l y p q).2.2 x o r)
theorem siz_frT : ∀ (l : Tr) (x : It) (o : Int) (r : Tr), (frT l x o r).2.2.siz = l.siz + r.siz
  | .nil, x, o, r => by simp [frT, Tr.siz]
  | .node l y p q, x, o, r => by
    have h := siz_frT l y p q
    unfold frT
    simp only [siz_levelT, h, Tr.siz]; omega
/-- what a node that is taken out had reckoned -/
def frD : Tr → It → Int → Tr → Int × Int × Int
  | .nil, x, o, r => (((Tr.node .nil x o r).dep : Nat), ((Tr.node .nil x o r).siz : Nat), (Tr.node .nil x o r).tot)
  | .node l y p q, _, _, _ => frD l y p q
abbrev loose (x : It) (o : Int) (d : Int × Int × Int) : Blk := nodeB .any .any x o d.1 d.2.1 d.2.2
theorem imp_any {c : Cnt} : ImpC c .any := fun _ _ _ _ _ _ => trivial
theorem imp_same {c : Cnt} : ImpC c c := fun _ _ _ _ _ h => h
theorem imp_loose {x : It} {o d m s : Int} {a b : Cnt} : ∀ (j : Nat) (u u' : Cnt), (nodeC a b x o d m s)[j]? = some u → (nodeC .any .any x o d m s)[j]? = some u' → ImpC u u' := by
  intro j u u' h h'
  match j, h, h' with
  | 0, h, h' => cases h; cases h'; exact imp_same
  | 1, h, h' => cases h; cases h'; exact imp_same
  | 2, h, h' => cases h; cases h'; exact imp_same
  | 3, h, h' => cases h; cases h'; exact imp_same
  | 4, h, h' => cases h; cases h'; exact imp_same
  | 5, h, h' => cases h; cases h'; exact imp_same
  | 6, h, h' => cases h; cases h'; exact imp_same
  | 7, h, h' => cases h; cases h'; exact imp_any
  | 8, h, h' => cases h; cases h'; exact imp_any
  | 9, h, h' => cases h; cases h'; exact imp_same
  | 10, h, h' => cases h; cases h'; exact imp_same
  | 11, h, h' => cases h; cases h'; exact imp_same
  | 12, h, h' => cases h; cases h'; exact imp_same
  | _ + 13, h, _ => simp at h
theorem tr_first : ∀ (l : Tr) (x : It) (o : Int) (r : Tr), (Tr.node l x o r).siz ≤ 900000 →
    FnM Try.prog 63 [.row 2000 0] [(2000, .obj (trO (.node l x o r)))] (.tup2 (.ptr 3000 0 0) (.row 3001 0)) [(3000, loose (frT l x o r).1 (frT l x o r).2.1 (frD l x o r)), (3001, .obj (trO (frT l x o r).2.2))]
  | .nil, x, o, r, hs => by
    unfold frT frD
    refine fnm_intro Try.func63 rfl (by kernel_rfl) Try.ntmps63 (Nat.le_of_ble_eq_true rfl) ?_
    refine AW_le (Le_unf 2000 0 83 (nodeU 2010 2011 .nil r x o (Tr.node .nil x o r).dep (Tr.node .nil x o r).siz (Tr.node .nil x o r).tot) rfl rfl rfl) (AW_le (Le_perO 2010 _ (A := rawP (.pointer none)) rfl rfl) ?_)
    (repeat' (first | refine AW_seq ?_ | refine AW_block ?_ | refine AW_skip ?_ | refine AW_exit ?_ | refine AW_ret ?_ | refine AW_region ?_ | refine AW_draw mixed0 ?_ | refine AL_nil ?_ | refine AD_nil (by kernel_rfl) ?_ | (refine AW_cl rfl rfl ⟨fun hc => ?_, fun hc => ?_⟩ <;> (repeat rw [List.length_map] at hc) <;> (try exact absd hc)) | ((first | apply AL_t rfl | apply AL_0 rfl | apply AD_t rfl | apply AD_0 rfl); focus (first | exact z_auto | fail)) | refine thenA_n ?_ | refine thenA_r ?_ | refine thenA_e ?_ | refine inB_n ?_ | refine inB_r ?_ | refine inB_hit ?_ | refine inB_miss rfl ?_ | ((first | refine AL_cl rfl rfl rfl ⟨fun hc => ?_, fun hc => ?_⟩ | refine AD_cl rfl rfl rfl ⟨fun hc => ?_, fun hc => ?_⟩) <;> (fail_if_success (have q : (true = true) := hc)) <;> (fail_if_success (have q : (false = false) := hc)) <;> (repeat rw [List.length_map] at hc) <;> (try exact absd hc)) | refine AW_cond_nil rfl rfl (fun hc => ?_) ?_))
    refine ⟨.inl rfl, ResM_le (Le_cells 2000 83 (cells := nodeC (.per (rawP (.pointer none))) (.row 2011 1) x o (Tr.node .nil x o r).dep (Tr.node .nil x o r).siz (Tr.node .nil x o r).tot) (cells' := nodeC .any .any x o (Tr.node .nil x o r).dep (Tr.node .nil x o r).siz (Tr.node .nil x o r).tot) rfl rfl imp_loose) ?_⟩
    refine resM2 [(2000, 3000), (2011, 3001)] rfl rfl ?_ (rvm rfl rfl) (rvm rfl rfl)
    (repeat (first | exact AllX.nil | (refine AllX.cons rfl ?_ ?_; (focus first | rfl | skip))))
  | .node ll y p lr, x, o, r, hs => by
    have g := tr_first ll y p lr (by simp only [Tr.siz] at *; omega)
    have hsz := siz_frT ll y p lr
    rw [frT, frD]
    generalize frD ll y p lr = D at *
    generalize frT ll y p lr = F at *
    obtain ⟨fx, fo, ft⟩ := F
    simp only at g hsz ⊢
    have l1 := tr_level ft r x o (Tr.node (.node ll y p lr) x o r).dep (Tr.node (.node ll y p lr) x o r).siz (Tr.node (.node ll y p lr) x o r).tot (by simp only [Tr.siz] at *; omega)
    refine fnm_intro Try.func63 rfl (by kernel_rfl) Try.ntmps63 (Nat.le_of_ble_eq_true rfl) ?_
    refine AW_le (Le_unf 2000 0 83 (nodeU 2010 2011 (.node ll y p lr) r x o (Tr.node (.node ll y p lr) x o r).dep (Tr.node (.node ll y p lr) x o r).siz (Tr.node (.node ll y p lr) x o r).tot) rfl rfl rfl) ?_
    (repeat' (first | refine AW_seq ?_ | refine AW_block ?_ | refine AW_skip ?_ | refine AW_exit ?_ | refine AW_ret ?_ | refine AW_region ?_ | refine AW_draw mixed0 ?_ | refine AL_nil ?_ | refine AD_nil (by kernel_rfl) ?_ | (refine AW_cl rfl rfl ⟨fun hc => ?_, fun hc => ?_⟩ <;> (repeat rw [List.length_map] at hc) <;> (try exact absd hc)) | ((first | apply AL_t rfl | apply AL_0 rfl | apply AD_t rfl | apply AD_0 rfl); focus (first | ((apply u_k 8; (focus rfl); exact u_eqnil ⟨rfl, rfl, rfl⟩ rfl inferInstance (sp_obj rfl rfl rfl))) | (apply u_g; (focus rfl); apply op_gyes rfl rfl rfl rfl rfl; ((apply u_k 8; (focus rfl); exact u_eqnil ⟨rfl, rfl, rfl⟩ rfl inferInstance (sp_obj rfl rfl rfl)))) | exact z_auto | exact c_MA [(2000, 2010), (3000, 2020), (3001, 2021)] (g) | exact c_MA [(2000, 2000), (2010, 2021), (2011, 2011), (3000, 2030)] (l1) | fail)) | refine thenA_n ?_ | refine thenA_r ?_ | refine thenA_e ?_ | refine inB_n ?_ | refine inB_r ?_ | refine inB_hit ?_ | refine inB_miss rfl ?_ | ((first | refine AL_cl rfl rfl rfl ⟨fun hc => ?_, fun hc => ?_⟩ | refine AD_cl rfl rfl rfl ⟨fun hc => ?_, fun hc => ?_⟩) <;> (fail_if_success (have q : (true = true) := hc)) <;> (fail_if_success (have q : (false = false) := hc)) <;> (repeat rw [List.length_map] at hc) <;> (try exact absd hc)) | refine AW_cond_nil rfl rfl (fun hc => ?_) ?_))
    refine ⟨.inl rfl, resM2 [(2020, 3000), (2030, 3001)] rfl rfl ?_ (rvm rfl rfl) (rvm rfl rfl)⟩
    (repeat (first | exact AllX.nil | (refine AllX.cons rfl ?_ ?_; (focus first | rfl | skip))))
/-- does a search find it? -/
def hasT : Tr → ByteArray → Bool
  | .nil, _ => false
  | .node l y _ r, k => if cmpB k y.key < 0 then hasT l k else if cmpB k y.key > 0 then hasT r k else true
def dropT : Tr → ByteArray → Tr
  | .nil, _ => .nil
  | .node l y p r, k => if cmpB k y.key < 0 then levelT (dropT l k) y p r else if cmpB k y.key > 0 then levelT l y p (dropT r k) else (match r with
    | .nil => l
    | .node rl z q rr => levelT l (frT rl z q rr).1 (frT rl z q rr).2.1 (frT rl z q rr).2.2)
theorem siz_dropT : ∀ (t : Tr) (k : ByteArray), (dropT t k).siz ≤ t.siz
  | .nil, _ => Nat.le_refl _
  | .node l y p r, k => by
    have h1 := siz_dropT l k
    have h2 := siz_dropT r k
    rw [dropT.eq_def]
    simp only
    split
    · rw [siz_levelT]; simp only [Tr.siz]; omega
    · split
      · rw [siz_levelT]; simp only [Tr.siz]; omega
      · split
        · simp only [Tr.siz]; omega
        · rw [siz_levelT, siz_frT]; simp only [Tr.siz]; omega
theorem tr_drop : ∀ (t : Tr) (k : ByteArray), t.siz ≤ 900000 → k.size ≤ 1000000000 → hasT t k = true → FnM Try.prog 46 [.row 2000 0, sC k] [(2000, .obj (trO t))] (.row 3000 0) [(3000, .obj (trO (dropT t k)))]
  | .nil, k, hs, hk, hh => by simp [hasT] at hh
  | .node l y p r, k, hs, hk, hh => by
    have hkc := key_Cmp k y.key (by omega)
    have s1 := siz_dropT l k
    have s2 := siz_dropT r k
    rw [hasT] at hh
    rw [dropT.eq_def]
    simp only
    by_cases c1 : cmpB k y.key < 0
    · rw [if_pos c1] at hh ⊢
      have g1 := tr_drop l k (by simp only [Tr.siz] at hs; omega) hk hh
      have l1 := tr_level (dropT l k) r y p (Tr.node l y p r).dep (Tr.node l y p r).siz (Tr.node l y p r).tot (by simp only [Tr.siz] at *; omega)
      refine fnm_intro Try.func46 rfl (by kernel_rfl) Try.ntmps46 (Nat.le_of_ble_eq_true rfl) ?_
      refine AW_le (Le_unf 2000 0 83 (nodeU 2010 2011 l r y p (Tr.node l y p r).dep (Tr.node l y p r).siz (Tr.node l y p r).tot) rfl rfl rfl) ?_
      (repeat' (first | refine AW_seq ?_ | refine AW_block ?_ | refine AW_skip ?_ | refine AW_exit ?_ | refine AW_ret ?_ | refine AW_region ?_ | refine AW_draw mixed0 ?_ | refine AL_nil ?_ | refine AD_nil (by kernel_rfl) ?_ | (refine AW_cl rfl rfl ⟨fun hc => ?_, fun hc => ?_⟩ <;> (repeat rw [List.length_map] at hc) <;> (try exact absd hc)) | ((first | apply AL_t rfl | apply AL_0 rfl | apply AD_t rfl | apply AD_0 rfl); focus (first | exact z_auto | exact c_A (hkc) | exact c_MA [(2000, 2010), (3000, 2020)] (g1) | exact c_MA [(2000, 2000), (2010, 2020), (2011, 2011), (3000, 2030)] (l1) | fail)) | refine thenA_n ?_ | refine thenA_r ?_ | refine thenA_e ?_ | refine inB_n ?_ | refine inB_r ?_ | refine inB_hit ?_ | refine inB_miss rfl ?_ | ((first | refine AL_cl rfl rfl rfl ⟨fun hc => ?_, fun hc => ?_⟩ | refine AD_cl rfl rfl rfl ⟨fun hc => ?_, fun hc => ?_⟩) <;> (fail_if_success (have q : (true = true) := hc)) <;> (fail_if_success (have q : (false = false) := hc)) <;> (repeat rw [List.length_map] at hc) <;> (try exact absd hc)) | refine AW_cond_nil rfl rfl (fun hc => ?_) ?_))
      refine ⟨.inl rfl, resM1 [(2030, 3000)] rfl rfl ?_ (rvm rfl rfl)⟩
      (repeat (first | exact AllX.nil | (refine AllX.cons rfl ?_ ?_; (focus first | rfl | skip))))
    · rw [if_neg c1] at hh ⊢
      by_cases c2 : cmpB k y.key > 0
      · rw [if_pos c2] at hh ⊢
        have g1 := tr_drop r k (by simp only [Tr.siz] at hs; omega) hk hh
        have l1 := tr_level l (dropT r k) y p (Tr.node l y p r).dep (Tr.node l y p r).siz (Tr.node l y p r).tot (by simp only [Tr.siz] at *; omega)
        refine fnm_intro Try.func46 rfl (by kernel_rfl) Try.ntmps46 (Nat.le_of_ble_eq_true rfl) ?_
        refine AW_le (Le_unf 2000 0 83 (nodeU 2010 2011 l r y p (Tr.node l y p r).dep (Tr.node l y p r).siz (Tr.node l y p r).tot) rfl rfl rfl) ?_
        (repeat' (first | refine AW_seq ?_ | refine AW_block ?_ | refine AW_skip ?_ | refine AW_exit ?_ | refine AW_ret ?_ | refine AW_region ?_ | refine AW_draw mixed0 ?_ | refine AL_nil ?_ | refine AD_nil (by kernel_rfl) ?_ | (refine AW_cl rfl rfl ⟨fun hc => ?_, fun hc => ?_⟩ <;> (repeat rw [List.length_map] at hc) <;> (try exact absd hc)) | ((first | apply AL_t rfl | apply AL_0 rfl | apply AD_t rfl | apply AD_0 rfl); focus (first | exact z_auto | exact c_A (hkc) | exact c_MA [(2000, 2011), (3000, 2020)] (g1) | exact c_MA [(2000, 2000), (2010, 2010), (2011, 2020), (3000, 2030)] (l1) | fail)) | refine thenA_n ?_ | refine thenA_r ?_ | refine thenA_e ?_ | refine inB_n ?_ | refine inB_r ?_ | refine inB_hit ?_ | refine inB_miss rfl ?_ | ((first | refine AL_cl rfl rfl rfl ⟨fun hc => ?_, fun hc => ?_⟩ | refine AD_cl rfl rfl rfl ⟨fun hc => ?_, fun hc => ?_⟩) <;> (fail_if_success (have q : (true = true) := hc)) <;> (fail_if_success (have q : (false = false) := hc)) <;> (repeat rw [List.length_map] at hc) <;> (try exact absd hc)) | refine AW_cond_nil rfl rfl (fun hc => ?_) ?_))
        refine ⟨.inl rfl, resM1 [(2030, 3000)] rfl rfl ?_ (rvm rfl rfl)⟩
        (repeat (first | exact AllX.nil | (refine AllX.cons rfl ?_ ?_; (focus first | rfl | skip))))
      · rw [if_neg c2]
        cases r with
        | nil =>
          simp only
          refine fnm_intro Try.func46 rfl (by kernel_rfl) Try.ntmps46 (Nat.le_of_ble_eq_true rfl) ?_
          refine AW_le (Le_unf 2000 0 83 (nodeU 2010 2011 l .nil y p (Tr.node l y p .nil).dep (Tr.node l y p .nil).siz (Tr.node l y p .nil).tot) rfl rfl rfl) (AW_le (Le_perO 2011 _ (A := rawP (.pointer none)) rfl rfl) ?_)
          (repeat' (first | refine AW_seq ?_ | refine AW_block ?_ | refine AW_skip ?_ | refine AW_exit ?_ | refine AW_ret ?_ | refine AW_region ?_ | refine AW_draw mixed0 ?_ | refine AL_nil ?_ | refine AD_nil (by kernel_rfl) ?_ | (refine AW_cl rfl rfl ⟨fun hc => ?_, fun hc => ?_⟩ <;> (repeat rw [List.length_map] at hc) <;> (try exact absd hc)) | ((first | apply AL_t rfl | apply AL_0 rfl | apply AD_t rfl | apply AD_0 rfl); focus (first | exact z_auto | exact c_A (hkc) | fail)) | refine thenA_n ?_ | refine thenA_r ?_ | refine thenA_e ?_ | refine inB_n ?_ | refine inB_r ?_ | refine inB_hit ?_ | refine inB_miss rfl ?_ | ((first | refine AL_cl rfl rfl rfl ⟨fun hc => ?_, fun hc => ?_⟩ | refine AD_cl rfl rfl rfl ⟨fun hc => ?_, fun hc => ?_⟩) <;> (fail_if_success (have q : (true = true) := hc)) <;> (fail_if_success (have q : (false = false) := hc)) <;> (repeat rw [List.length_map] at hc) <;> (try exact absd hc)) | refine AW_cond_nil rfl rfl (fun hc => ?_) ?_))
          refine ⟨.inl rfl, resM1 [(2010, 3000)] rfl rfl ?_ (rvm rfl rfl)⟩
          (repeat (first | exact AllX.nil | (refine AllX.cons rfl ?_ ?_; (focus first | rfl | skip))))
        | node rl z q rr =>
          have g1 := tr_first rl z q rr (by simp only [Tr.siz] at *; omega)
          have hsz := siz_frT rl z q rr
          simp only
          generalize frD rl z q rr = D at *
          generalize frT rl z q rr = F at *
          obtain ⟨fx, fo, ft⟩ := F
          simp only at g1 hsz ⊢
          have l1 := tr_level l ft fx fo D.1 D.2.1 D.2.2 (by simp only [Tr.siz] at *; omega)
          refine fnm_intro Try.func46 rfl (by kernel_rfl) Try.ntmps46 (Nat.le_of_ble_eq_true rfl) ?_
          refine AW_le (Le_unf 2000 0 83 (nodeU 2010 2011 l (.node rl z q rr) y p (Tr.node l y p (.node rl z q rr)).dep (Tr.node l y p (.node rl z q rr)).siz (Tr.node l y p (.node rl z q rr)).tot) rfl rfl rfl) ?_
          (repeat' (first | refine AW_seq ?_ | refine AW_block ?_ | refine AW_skip ?_ | refine AW_exit ?_ | refine AW_ret ?_ | refine AW_region ?_ | refine AW_draw mixed0 ?_ | refine AL_nil ?_ | refine AD_nil (by kernel_rfl) ?_ | (refine AW_cl rfl rfl ⟨fun hc => ?_, fun hc => ?_⟩ <;> (repeat rw [List.length_map] at hc) <;> (try exact absd hc)) | ((first | apply AL_t rfl | apply AL_0 rfl | apply AD_t rfl | apply AD_0 rfl); focus (first | ((apply u_k 8; (focus rfl); exact u_eqnil ⟨rfl, rfl, rfl⟩ rfl inferInstance (sp_obj rfl rfl rfl))) | (apply u_g; (focus rfl); apply op_gyes rfl rfl rfl rfl rfl; ((apply u_k 8; (focus rfl); exact u_eqnil ⟨rfl, rfl, rfl⟩ rfl inferInstance (sp_obj rfl rfl rfl)))) | exact z_auto | exact c_A (hkc) | exact c_MA [(2000, 2011), (3000, 2020), (3001, 2021)] (g1) | exact c_MA [(2000, 2020), (2010, 2010), (2011, 2021), (3000, 2030)] (l1) | fail)) | refine thenA_n ?_ | refine thenA_r ?_ | refine thenA_e ?_ | refine inB_n ?_ | refine inB_r ?_ | refine inB_hit ?_ | refine inB_miss rfl ?_ | ((first | refine AL_cl rfl rfl rfl ⟨fun hc => ?_, fun hc => ?_⟩ | refine AD_cl rfl rfl rfl ⟨fun hc => ?_, fun hc => ?_⟩) <;> (fail_if_success (have q : (true = true) := hc)) <;> (fail_if_success (have q : (false = false) := hc)) <;> (repeat rw [List.length_map] at hc) <;> (try exact absd hc)) | refine AW_cond_nil rfl rfl (fun hc => ?_) ?_))
          refine ⟨.inl rfl, resM1 [(2030, 3000)] rfl rfl ?_ (rvm rfl rfl)⟩
          (repeat (first | exact AllX.nil | (refine AllX.cons rfl ?_ ?_; (focus first | rfl | skip))))
end
end Go.Proofs.Ytpndnlnjgnckdaa
