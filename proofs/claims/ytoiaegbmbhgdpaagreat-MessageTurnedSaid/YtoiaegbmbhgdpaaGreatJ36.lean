/- Texts joined: MixR CrcW. -/
import Derived.Test.YtoiaegbmbhgdpaaGreatJ09
import Derived.Test.YtoiaegbmbhgdpaaGreatJ30
import Derived.Test.YtoiaegbmbhgdpaaGreatJ11
import Derived.Laws.BitsAllLaws
import Derived.Laws.IdiomStrings
import Derived.Test.YtoiaegbmbhgdpaaGreatJ33
import Derived.Test.YtoiaegbmbhgdpaaGreatJ19
namespace Go.Proofs.YtoiaegbmbhgdpaaGreat
open Go.RowKit
section
variable {P : Program} {n t : Nat} {ops : Array Oper} {o : Oper} {S : St}
theorem op_xor {ty ty' : TypeId} {x y : Operand} {k : IntKind} {p q z : Int} (hp : Pl n o t) (ho : o.op = .binOp .xor ty x y ty') (hx : S.opd x = iC k p) (hy : S.opd y = iC k q) (hz : bits .xor k p q = z) : OpOk n P ops o (opdN x ++ opdN y) (iC k z) [] S :=
  op_val hp fun C T g a w hA hR => by
    have h1 := raw_opd (x := x) hA (fun k h => by simp [h]) hR hx
    have h2 := raw_opd (x := y) hA (fun k h => by simp [h]) hR hy
    subst hz
    refine ⟨.int k (bits .xor k p q), exec_bin ho h1 h2 ?_, rfl⟩
    rw [show eqGuard .xor ty x y (.int k p) (.int k q) = pure () from rfl]
    simp only [binOp_xor]
    rfl
/-- '[]T{x}', x of the call's own -/
theorem u_bslice1 {ty e bytes : Nat} {z : Value} {x : Operand} {c : Cnt} (hp : Pl n o t) (ho : o.op = .buildSlice ty 1 #[(0, x)]) (hT : TIc P ty e 1 bytes) (hz : Zro P e z) (hzc : z.cells = #[z]) (hx : S.opd x = c) (h1 : OneQ S c) :
    OpOk n P ops o ((2 * t + 1) :: (opdN x ++ idsC c)) (.row t (S.ver t + 1)) [(t, S.ver t + 1, .mix e [] c)] S :=
  op_mk hp (by simp) fun C T g a w hA hR => by
    have h := opd_rep (x := x) hA (fun k h => by simp [h]) hR
    rw [hx] at h
    obtain ⟨g1, g2⟩ := (OneC.mono h1 fun k h => by simp [h]) _ _ _ _ _ _ _ hA hR h
    obtain ⟨i, z', hi, hz', hs1, hs2, hs3⟩ := hT.h.info
    have hzz := hz.h
    rw [hi] at hzz
    simp only [Option.bind_some] at hzz
    rw [hz'] at hzz; cases hzz
    have hrun := run_buildSlice (P := P) w ty e 1 #[(0, a.eval x)] #[a.eval x] i z hT.h.und hi hz' (by rw [hs1]; decide) (by rw [hs1]; decide) (by
      rw [hs1, hzc]
      simp [Instr.fill, g2]
      apply Array.ext
      · simp
      · intro j h1 h2
        have : j = 0 := by simpa using h2
        subst this
        simp)
    refine ⟨.slice (some ⟨w.heap.size, 0, none⟩) 1 1, w.alloc (.cells #[a.eval x] e), w.heap.size, ?_, (Ext.refl w).alloc _, Nat.le_refl _, alloc_lt _ _, fun vr' hvr hst => ⟨?_, ?_⟩⟩
    · simp only [execOp, ho, Sem.run_bind]
      have e : (#[(0, x)].map fun (i, x) => (i, a.eval x)) = #[((0 : Nat), a.eval x)] := by simp
      rw [e, hrun]; rfl
    · exact ⟨by rw [hvr, if_pos rfl]; exact Nat.le_refl _, fun _ => (if_pos rfl).symm⟩
    · have hph : (g.mk1 t w.heap.size (.slice (some ⟨w.heap.size, 0, none⟩) 1 1)).ph t = w.heap.size := if_pos rfl
      have hrh : (g.mk1 t w.heap.size (.slice (some ⟨w.heap.size, 0, none⟩) 1 1)).rh t = .slice (some ⟨w.heap.size, 0, none⟩) 1 1 := if_pos rfl
      exact ⟨1, #[a.eval x], by rw [hrh, hph]; rfl, by rw [hph]; exact heap_alloc_new w _, by rw [hph]; exact if_pos rfl, by simp, by decide, rfl, fun i A hi => by simp at hi, a.eval x, rfl, g1, hst.crep h⟩
theorem gpq_mix1 {ids : List Nat} {x : Operand} {id vr e : Nat} {c : Cnt} {A : PV} (hx : S.opd x = .row id vr) (hv : S.ver id = vr) (hb : S.blk id = .mix e [] c) (h : Sees S ids c A) : GivesP (srcN S x ++ idsN ids) S ids x (.bor 1 [[A]]) := fun n C T g a w hA hR => by
  have hF : ∀ k ∈ opdN x, k ∈ srcN S x ++ idsN ids := fun k hk => by simp [srcN, hk]
  have hF' : 2 * id + 1 ∈ srcN S x ++ idsN ids := by simp [srcN, hx, rowN]
  have hI : ∀ i ∈ ids, 2 * i + 1 ∈ srcN S x ++ idsN ids := fun i hi => by simp [idsN_mem i hi]
  have hc := opd_rep (x := x) hA hF hR
  rw [hx] at hc
  have hev := hc.2 (by rw [(hA.2 id hF').2, hv])
  have hB := hR.blks id
  rw [(hA.2 id hF').1, hb] at hB
  obtain ⟨cap, cs, q1, q2, q3, q4, q5, q6, q7, y, q8, q9, q10⟩ := hB
  rw [hev, q1]
  refine ⟨_, cap, g.ph id, 0, rfl, q4, q5, by simp, fun _ => ⟨rfl, (hR.dom _ _ q3).1, fun h => h rfl⟩, fun i ps hi => ?_⟩
  cases i with
  | succ i => simp at hi
  | zero =>
    simp at hi; subst hi
    refine ⟨rfl, fun j B hj => ?_⟩
    cases j with
    | succ j => simp at hj
    | zero =>
      simp at hj; subst hj
      refine ⟨y, by rw [cell_at q2]; exact q8, q9, ?_⟩
      exact A.mono (N := lessN C g w ids) (Nat.le_refl _) (fun _ _ _ => rfl) (fun b _ hb => nnL hb) (h.rep hA hI hR q10)
/-- '[]byte(s)': bytes that nobody turns -/
theorem op_bs {src dst e : TypeId} {x : Operand} {s : ByteArray} (hp : Pl n o t) (ho : o.op = .convert src dst x) (hs : Und P src .string) (hd : Und P dst (.slice e)) (he : Und P e (.int .u8)) (hx : S.opd x = sC s) (hb : s.size ≤ 1000000000000) :
    OpOk n P ops o (opdN x) (.per (lstP 1 (s.data.toList.map byteP))) [] S := by
  refine ⟨?_⟩
  intro C T hA a w ⟨g, hR⟩
  have hxe := raw_opd (x := x) hA (fun k h => by simp [h]) hR hx
  unfold Exec
  rw [if_pos (hp.wanted a)]
  unfold Oper.wp
  have hex : (execOp a.eval o).run P w = .ok (.value (.slice (some ⟨w.heap.size, 0, none⟩) s.size (grownCap w s.size 0 e))) (w.drew.alloc (.cells (bytesRow s (grownCap w s.size 0 e)) e ((bytesRow s (grownCap w s.size 0 e)).size, (bytesRow s (grownCap w s.size 0 e)).size + 1))) := by
    simp only [execOp, ho, Sem.run_bind, hxe, run_bytes_of_string w src dst e s hs.h hd.h he.h]; rfl
  rw [hex, Oper.upon_value]
  refine ⟨g, hR.app0 ((Ext.refl w).drew.alloc _) hp.dOk ?_⟩
  show lstAt (g.N C) (g.N C) 1 (s.data.toList.map byteP) _ _
  have hl : (s.data.toList.map byteP).length = s.size := by rw [List.length_map, Array.length_toList]; rfl
  refine ⟨_, _, w.heap.size, 0, by rw [hl], by rw [hl]; exact grownCap_ge w _ _ _, grownCap_le_maxLen w _ _ _ (by unfold maxLen; omega), by simp, fun _ => ⟨rfl, alloc_lt w.drew _, fun hn => ?_⟩, fun i ps hi => ?_⟩
  · rcases hn with hn | hn
    · exact n0_lt hR _ (Nat.le_refl _) hn
    · exact hn (ow_none hR _ (Nat.le_refl _))
  · rw [List.getElem?_map] at hi
    cases hc : s.data.toList[i]? with
    | none => rw [hc] at hi; cases hi
    | some c =>
      rw [hc] at hi; cases hi
      refine ⟨rfl, fun j A hj => ?_⟩
      cases j with
      | succ j => simp [byteP] at hj
      | zero =>
        simp [byteP] at hj; subst hj
        refine ⟨.int .u8 (c.toNat : Int), ?_, rfl, rfl⟩
        have hq := cell_at (heap_alloc_new w.drew (.cells (bytesRow s (grownCap w s.size 0 e)) e ((bytesRow s (grownCap w s.size 0 e)).size, (bytesRow s (grownCap w s.size 0 e)).size + 1))) (0 + i * 1 + 0)
        refine hq.trans ?_
        have hil : i < s.data.size := by have := (List.getElem?_eq_some_iff.1 hc).1; simpa using this
        have hcx : s.data[i] = c := by
          have := (List.getElem?_eq_some_iff.1 hc).2
          simpa using this
        unfold bytesRow
        rw [Nat.zero_add, Nat.mul_one, Nat.add_zero, Array.getElem?_append_left (by simpa using hil)]
        simp only [Array.getElem?_map, Array.getElem?_eq_getElem hil, hcx]
        rfl
end
theorem varint_PutBad (l : List UInt8) (ns : List Int) (h : ¬ ∀ n ∈ ns, okNum n) : Fn Tryz.prog 39 [bytesB l, intsB ns] (.tup2 (ownB []) (.per (rawP (.int .i64 2)))) := by
  refine ⟨⟨_, Tryz.func39, by kernel_rfl, by kernel_rfl⟩, fun N0 w vs _ ha => ?_⟩
  obtain ⟨v, u, rfl, h1, h2⟩ := args2 ha
  refine Calls.mono (put_bad v u ns w (lst_sl h2) h) ?_
  rintro e w' ⟨rfl, rfl⟩
  exact ⟨_, rfl, Ext.refl _, _, _, rfl, .inl ⟨rfl, rfl⟩, rfl⟩
end Go.Proofs.YtoiaegbmbhgdpaaGreat
namespace Go.Proofs.YtoiaegbmbhgdpaaGreat
open Go.RowKit
section
variable {P : Program} {n t : Nat} {ops : Array Oper} {o : Oper} {S : St}
theorem op_compl {ty : TypeId} {x : Operand} {k : IntKind} {p z : Int} (hp : Pl n o t) (ho : o.op = .unOp .xor ty x) (hx : S.opd x = iC k p) (hz : bits .xor k (if k.signed then -1 else k.max) p = z) : OpOk n P ops o (opdN x) (iC k z) [] S :=
  op_val hp fun C T g a w hA hR => by
    have h1 := raw_opd (x := x) hA (fun k h => by simp [h]) hR hx
    subst hz
    exact ⟨.int k (bits .xor k (if k.signed then -1 else k.max) p), by simp only [execOp, ho, h1, Op.unary]; rfl, rfl⟩
end
theorem wrap_u8_nat (n : Nat) : IntKind.u8.wrap (n : Int) = ((UInt8.ofNat n).toNat : Int) := by
  rw [IntKind.wrap_u8', UInt8.toNat_ofNat']; omega
theorem wrap_u32_byte (c : UInt8) : IntKind.u32.wrap (c.toNat : Int) = (c.toNat : Int) := by
  have := c.toNat_lt
  rw [IntKind.wrap_u32']; omega
/-- the first n bytes of a number, the least first -/
def tlN (n s : Nat) : List UInt8 := (List.range n).map fun i => UInt8.ofNat (s / 256 ^ i)
theorem tlN_len (n s : Nat) : (tlN n s).length = n := by simp [tlN]
theorem tlN_succ (n s : Nat) : tlN (n + 1) s = tlN n s ++ [UInt8.ofNat (s / 256 ^ n)] := by simp [tlN, List.range_succ]
theorem tlN_4 (s : Nat) : tlN 4 s = tailS s := by simp [tlN, tailS, List.range, List.range.loop]
def tlR (n s k : Nat) : List UInt8 := tlN k s ++ List.replicate (n - k) 0
theorem tlR_0 (n s : Nat) : tlR n s 0 = List.replicate n 0 := by simp [tlR, tlN]
theorem tlR_n (n s : Nat) : tlR n s n = tlN n s := by simp [tlR]
theorem tlR_len (n s k : Nat) (h : k ≤ n) : (tlR n s k).length = n := by simp [tlR, tlN_len]; omega
theorem tlR_get (n s k : Nat) (h : k < n) : (tlR n s k)[k]? = some 0 := by
  unfold tlR
  rw [List.getElem?_append_right (by rw [tlN_len]; omega), tlN_len, Nat.sub_self, List.getElem?_replicate]
  rw [if_pos (by omega)]
theorem tlR_set (n s k : Nat) (h : k < n) : (tlR n s k).set k (UInt8.ofNat (s / 256 ^ k)) = tlR n s (k + 1) := by
  unfold tlR
  rw [List.set_append_right _ _ (by rw [tlN_len]; omega), tlN_len, Nat.sub_self, tlN_succ]
  obtain ⟨m, hm⟩ : ∃ m, n - k = m + 1 := ⟨n - k - 1, by omega⟩
  rw [hm, List.replicate_succ, List.set_cons_zero, show n - (k + 1) = m by omega, List.append_assoc]; rfl
theorem shr_256 {s k b : Nat} (hb : 8 * k ≤ b) : (s : Int) / 2 ^ min (8 * (k : Int)).toNat b = ((s / 256 ^ k : Nat) : Int) := by
  have e : min (8 * (k : Int)).toNat b = 8 * k := by omega
  have e2 : (2 : Int) ^ (8 * k) = ((256 ^ k : Nat) : Int) := by
    rw [show (256 : Nat) ^ k = 2 ^ (8 * k) from (Nat.pow_mul 2 8 k).symm]; simp
  rw [e, e2]; rfl
abbrev bysQ' (d : List UInt8) : List PV := [bysP d]
section
set_option maxRecDepth 10000
set_option maxHeartbeats 4000000
theorem crc_step (s : Nat) (hs : s < 4294967296) (c : UInt8) : Fn Tryz.prog 161 [iC .u32 (s : Nat), iC .u8 (c.toNat : Nat)] (.per (rawP (.int .u32 (bytS s c : Nat)))) := by
  have hc8 := c.toNat_lt
  have hx := u32_xor_nat s c.toNat hs (by omega)
  have hw := wrap_u32_byte c
  have hlt : s ^^^ c.toNat < 4294967296 := Nat.xor_lt_two_pow (n := 32) (by omega) (by omega)
  unfold bytS
  generalize s ^^^ c.toNat = s0 at *
  generalize hB : itS 8 s0 = B
  refine fn_intro Tryz.func161 rfl (by kernel_rfl) Tryz.ntmps161 (Nat.le_of_ble_eq_true rfl) ?_
  (repeat' (first | refine AW_seq ?_ | refine AW_block ?_ | refine AW_skip ?_ | refine AW_exit ?_ | refine AW_ret ?_ | refine AW_region ?_ | refine AW_draw mixed0 ?_ | refine AL_nil ?_ | refine AD_nil (by kernel_rfl) ?_ | (refine AW_cl rfl rfl ⟨fun hc => ?_, fun hc => ?_⟩ <;> (repeat rw [List.length_map] at hc) <;> (try exact absd hc)) | ((first | apply AL_t rfl | apply AL_0 rfl | apply AD_t rfl | apply AD_0 rfl); focus (first | ((apply u_k 10; (focus rfl); exact u_conv ⟨rfl, rfl, rfl⟩ rfl inferInstance inferInstance rfl hw)) | (apply u_g; (focus rfl); apply op_gyes rfl rfl rfl rfl rfl; ((apply u_k 10; (focus rfl); exact u_conv ⟨rfl, rfl, rfl⟩ rfl inferInstance inferInstance rfl hw))) | ((exact op_xor ⟨rfl, rfl, rfl⟩ rfl rfl rfl hx)) | (apply u_g; (focus rfl); apply op_gyes rfl rfl rfl rfl rfl; ((exact op_xor ⟨rfl, rfl, rfl⟩ rfl rfl rfl hx))) | exact z_auto | fail)) | refine thenA_n ?_ | refine thenA_r ?_ | refine thenA_e ?_ | refine inB_n ?_ | refine inB_r ?_ | refine inB_hit ?_ | refine inB_miss rfl ?_ | ((first | refine AL_cl rfl rfl rfl ⟨fun hc => ?_, fun hc => ?_⟩ | refine AD_cl rfl rfl rfl ⟨fun hc => ?_, fun hc => ?_⟩) <;> (fail_if_success (have q : (true = true) := hc)) <;> (fail_if_success (have q : (false = false) := hc)) <;> (repeat rw [List.length_map] at hc) <;> (try exact absd hc)) | refine AW_cond_nil rfl rfl (fun hc => ?_) ?_))
  refine AW_loopP (X := Nat × Nat) (fun x => x.1 ≤ 8 ∧ x.2 < 4294967296 ∧ itS (8 - x.1) x.2 = B)
    (fun x => mkSt [(0, iC .u32 (x.2 : Nat)), (10, iC .i64 (x.1 : Nat))] []) (fun x => 8 - x.1) (0, s0) ⟨by omega, hlt, hB⟩ ?_ ?_
  · exact le_auto
  · clear hx hw hlt hB hs hc8
    rintro ⟨k, s⟩ ⟨h1, h2, h3⟩
    simp only at h1 h2 h3 ⊢
    by_cases hk : k < 8
    · have hA : bits .and .u32 (s : Int) 1 = ((s % 2 : Nat) : Int) := by
        have := u32_and_nat s 1 h2 (by omega)
        rw [Nat.and_one_is_mod] at this; exact this
      have hS : (s : Int) / 2 ^ min (1 : Int).toNat IntKind.u32.bits = ((s / 2 : Nat) : Int) := by
        show (s : Int) / 2 ^ 1 = _
        omega
      have hX : bits .xor .u32 ((s / 2 : Nat) : Int) 3988292384 = ((s / 2 ^^^ 3988292384 : Nat) : Int) := u32_xor_nat (s / 2) 3988292384 (by omega) (by omega)
      have hlt := bitS_lt h2
      obtain ⟨m, hm⟩ : ∃ m, 8 - k = m + 1 := ⟨7 - k, by omega⟩
      rw [hm, itS] at h3
      by_cases hb : s % 2 = 1
      · have e : bitS s = s / 2 ^^^ 3988292384 := by unfold bitS; rw [if_pos hb]
        rw [e] at h3 hlt
        (refine w0 ?_; (repeat' (first | refine W2.mk ?_ ?_ | refine W1.mk fun hc => ?_ | ((first | apply AL_t rfl | apply AL_0 rfl | apply AD_t rfl | apply AD_0 rfl); (focus (first | ((exact op_and ⟨rfl, rfl, rfl⟩ rfl rfl rfl hA)) | ((exact op_shrB ⟨rfl, rfl, rfl⟩ rfl rfl rfl (by omega) hS)) | ((exact op_xor ⟨rfl, rfl, rfl⟩ rfl rfl rfl hX)) | (apply u_g; (focus rfl); apply op_gyes rfl rfl rfl rfl rfl; first | ((exact op_and ⟨rfl, rfl, rfl⟩ rfl rfl rfl hA)) | ((exact op_shrB ⟨rfl, rfl, rfl⟩ rfl rfl rfl (by omega) hS)) | ((exact op_xor ⟨rfl, rfl, rfl⟩ rfl rfl rfl hX))))); refine w0 ?_))))
        refine ⟨(k + 1, s / 2 ^^^ 3988292384), ⟨by simp only; omega, hlt, by simp only; rw [show 8 - (k + 1) = m by omega]; exact h3⟩, by simp only; omega, ?_⟩
        exact le_auto
      · have e : bitS s = s / 2 := by unfold bitS; rw [if_neg hb]
        rw [e] at h3 hlt
        clear hX
        (refine w0 ?_; (repeat' (first | refine W2.mk ?_ ?_ | refine W1.mk fun hc => ?_ | ((first | apply AL_t rfl | apply AL_0 rfl | apply AD_t rfl | apply AD_0 rfl); (focus (first | ((exact op_and ⟨rfl, rfl, rfl⟩ rfl rfl rfl hA)) | ((exact op_shrB ⟨rfl, rfl, rfl⟩ rfl rfl rfl (by omega) hS)) | (apply u_g; (focus rfl); apply op_gyes rfl rfl rfl rfl rfl; first | ((exact op_and ⟨rfl, rfl, rfl⟩ rfl rfl rfl hA)) | ((exact op_shrB ⟨rfl, rfl, rfl⟩ rfl rfl rfl (by omega) hS))))); refine w0 ?_))))
        refine ⟨(k + 1, s / 2), ⟨by simp only; omega, hlt, by simp only; rw [show 8 - (k + 1) = m by omega]; exact h3⟩, by simp only; omega, ?_⟩
        exact le_auto
    · have hk : k = 8 := by omega
      subst hk
      have h3 : s = B := h3
      subst h3
      (refine w0 ?_; (repeat' (first | refine W2.mk ?_ ?_ | refine W1.mk fun hc => ?_)))
      (refine ⟨(by first | exact .inl rfl | exact .inr rfl), res1 rfl ?_⟩)
      exact rv_int rfl rfl
theorem runS_cons (s : Nat) (c : UInt8) (l : List UInt8) : runS s (c :: l) = runS (bytS s c) l := rfl
theorem crc_Sum (ls : List (List UInt8)) (hl : ls.length ≤ 1000000000) (hs : ∀ p ∈ ls, p.length ≤ 1000000000000) : Fn Tryz.prog 111 [.bor 1 (ls.map bysQ')] (.per (rawP (.int .u32 (crcS ls.flatten : Nat)))) := by
  unfold crcS
  have hF0 := runS_lt ls.flatten (s := 4294967295) (by decide)
  generalize hF : runS 4294967295 ls.flatten = F at *
  refine fn_intro Tryz.func111 rfl (by kernel_rfl) Tryz.ntmps111 (Nat.le_of_ble_eq_true rfl) ?_
  (refine w0 ?_; (repeat' (first | refine W2.mk ?_ ?_ | refine W1.mk fun hc => ?_)))
  refine AW_loopP (X := Nat × Nat) (fun x => x.1 ≤ ls.length ∧ x.2 < 4294967296 ∧ runS x.2 (ls.drop x.1).flatten = F)
    (fun x => mkSt [(3, iC .u32 (x.2 : Nat)), (8, .bor 1 (ls.map bysQ')), (9, iC .i64 (ls.length : Nat)), (10, iC .i64 (x.1 : Nat))] []) (fun x => ls.length - x.1) (0, 4294967295) ⟨Nat.zero_le _, by decide, hF⟩ ?_ ?_
  · exact le_auto
  · rintro ⟨i, s⟩ ⟨h1, h2, h3⟩
    simp only at h1 h2 h3 ⊢
    by_cases hi : i < ls.length
    · rw [List.drop_eq_getElem_cons hi, List.flatten_cons] at h3
      have hp := hs _ (List.getElem_mem hi)
      obtain ⟨rest, hr⟩ : ∃ rest, rest = (ls.drop (i + 1)).flatten := ⟨_, rfl⟩
      rw [← hr] at h3
      (refine w0 ?_; (repeat' (first | refine W2.mk ?_ ?_ | refine W1.mk fun hc => ?_)))
      refine AW_loopP (X := Nat × Nat) (fun x => x.1 ≤ ls[i].length ∧ x.2 < 4294967296 ∧ runS x.2 (ls[i].drop x.1 ++ rest) = F)
        (fun x => mkSt [(3, iC .u32 (x.2 : Nat)), (8, .bor 1 (ls.map bysQ')), (9, iC .i64 (ls.length : Nat)), (10, iC .i64 (i : Nat)), (14, .per (bysP ls[i])), (15, iC .i64 (ls[i].length : Nat)), (16, iC .i64 (x.1 : Nat))] []) (fun x => ls[i].length - x.1) (0, s) ⟨Nat.zero_le _, h2, h3⟩ ?_ ?_
      · exact le_auto
      · rintro ⟨j, s'⟩ ⟨g1, g2, g3⟩
        simp only at g1 g2 g3 ⊢
        by_cases hj : j < ls[i].length
        · rw [List.drop_eq_getElem_cons hj, List.cons_append, runS_cons] at g3
          have hc := crc_step s' g2 ls[i][j]
          have hb := bytS_lt g2 ls[i][j]
          generalize bytS s' ls[i][j] = s2 at *
          clear h3 hF hs
          (have kc1 := hc; refine w0 ?_; (repeat' (first | refine W2.mk ?_ ?_ | refine W1.mk fun hc => ?_)); all_goals clear kc1)
          refine ⟨(j + 1, s2), ⟨by simp only; omega, hb, g3⟩, by simp only; omega, ?_⟩
          exact le_auto
        · rw [List.drop_of_length_le (by omega), List.nil_append] at g3
          clear h3 hF hs
          (refine w0 ?_; (repeat' (first | refine W2.mk ?_ ?_ | refine W1.mk fun hc => ?_)))
          refine ⟨(i + 1, s'), ⟨by simp only; omega, g2, by rw [hr] at g3; exact g3⟩, by simp only; omega, ?_⟩
          exact le_auto
    · rw [List.drop_of_length_le (by omega)] at h3
      have h3 : s = F := h3
      subst h3
      have hX : bits .xor .u32 (if IntKind.u32.signed then -1 else IntKind.u32.max) (s : Int) = ((s ^^^ 4294967295 : Nat) : Int) := by
        rw [Nat.xor_comm]; exact u32_xor_nat 4294967295 s (by decide) h2
      clear hF hs
      (refine w0 ?_; (repeat' (first | refine W2.mk ?_ ?_ | refine W1.mk fun hc => ?_ | ((first | apply AL_t rfl | apply AL_0 rfl | apply AD_t rfl | apply AD_0 rfl); (focus (first | ((apply u_k 9; (focus rfl); exact op_compl ⟨rfl, rfl, rfl⟩ rfl rfl hX)) | (apply u_g; (focus rfl); apply op_gyes rfl rfl rfl rfl rfl; first | ((apply u_k 9; (focus rfl); exact op_compl ⟨rfl, rfl, rfl⟩ rfl rfl hX))))); refine w0 ?_))))
      (refine ⟨(by first | exact .inl rfl | exact .inr rfl), res1 rfl ?_⟩)
      exact rv_int rfl rfl
theorem crc_Tail (s : Nat) (_ : s < 4294967296) : Fn Tryz.prog 110 [iC .u32 (s : Nat)] (ownB (tailS s)) := by
  rw [← tlN_4]
  refine fn_intro Tryz.func110 rfl (by kernel_rfl) Tryz.ntmps110 (Nat.le_of_ble_eq_true rfl) ?_
  (repeat' (first | refine AW_seq ?_ | refine AW_block ?_ | refine AW_skip ?_ | refine AW_exit ?_ | refine AW_ret ?_ | refine AW_region ?_ | refine AW_draw mixed0 ?_ | refine AL_nil ?_ | refine AD_nil (by kernel_rfl) ?_ | (refine AW_cl rfl rfl ⟨fun hc => ?_, fun hc => ?_⟩ <;> (repeat rw [List.length_map] at hc) <;> (try exact absd hc)) | ((first | apply AL_t rfl | apply AL_0 rfl | apply AD_t rfl | apply AD_0 rfl); focus (first | ((exact u_mk (m := 4) ⟨rfl, rfl, rfl⟩ rfl inferInstance inferInstance rfl rfl rfl rfl (by omega) (by omega))) | (apply u_g; (focus rfl); apply op_gyes rfl rfl rfl rfl rfl; ((exact u_mk (m := 4) ⟨rfl, rfl, rfl⟩ rfl inferInstance inferInstance rfl rfl rfl rfl (by omega) (by omega)))) | exact z_auto | fail)) | refine thenA_n ?_ | refine thenA_r ?_ | refine thenA_e ?_ | refine inB_n ?_ | refine inB_r ?_ | refine inB_hit ?_ | refine inB_miss rfl ?_ | ((first | refine AL_cl rfl rfl rfl ⟨fun hc => ?_, fun hc => ?_⟩ | refine AD_cl rfl rfl rfl ⟨fun hc => ?_, fun hc => ?_⟩) <;> (fail_if_success (have q : (true = true) := hc)) <;> (fail_if_success (have q : (false = false) := hc)) <;> (repeat rw [List.length_map] at hc) <;> (try exact absd hc)) | refine AW_cond_nil rfl rfl (fun hc => ?_) ?_))
  refine AW_loopP (X := Nat) (fun k => k ≤ 4) (fun k => mkSt [(0, iC .u32 (s : Nat)), (3, .row 5 0), (7, iC .i64 4), (8, iC .i64 (k : Nat))] [(5, .row 5 1 ((tlR 4 s k).map byteP))]) (fun k => 4 - k) 0 (by omega) ?_ ?_
  · rw [tlR_0]
    exact le_auto
  · intro k hk
    have hl := tlR_len 4 s k hk
    by_cases hlt : k < 4
    · have hZ := shr_256 (s := s) (k := k) (b := IntKind.u32.bits) (by show 8 * k ≤ 32; omega)
      have hW := wrap_u8_nat (s / 256 ^ k)
      have HJ : ((tlR 4 s k).map byteP)[k]? = some (byteP 0) := by rw [List.getElem?_map, tlR_get 4 s k hlt]; rfl
      have HS : ((tlR 4 s k).map byteP).set k (setP (byteP 0) 0 (byteP (UInt8.ofNat (s / 256 ^ k)))) = (tlR 4 s (k + 1)).map byteP := by
        rw [← tlR_set 4 s k hlt, List.map_set]; rfl
      generalize s / 256 ^ k = q at *
      (repeat' (first | refine AW_seq ?_ | refine AW_block ?_ | refine AW_skip ?_ | refine AW_exit ?_ | refine AW_ret ?_ | refine AW_region ?_ | refine AW_draw mixed0 ?_ | refine AL_nil ?_ | refine AD_nil (by kernel_rfl) ?_ | (refine AW_cl rfl rfl ⟨fun hc => ?_, fun hc => ?_⟩ <;> (repeat rw [List.length_map] at hc) <;> (try exact absd hc)) | ((first | apply AL_t rfl | apply AL_0 rfl | apply AD_t rfl | apply AD_0 rfl); focus (first | ((exact op_shrB ⟨rfl, rfl, rfl⟩ rfl rfl rfl (by omega) hZ)) | (apply u_g; (focus rfl); apply op_gyes rfl rfl rfl rfl rfl; ((exact op_shrB ⟨rfl, rfl, rfl⟩ rfl rfl rfl (by omega) hZ))) | ((apply u_k 10; (focus rfl); exact u_conv ⟨rfl, rfl, rfl⟩ rfl inferInstance inferInstance rfl hW)) | (apply u_g; (focus rfl); apply op_gyes rfl rfl rfl rfl rfl; ((apply u_k 10; (focus rfl); exact u_conv ⟨rfl, rfl, rfl⟩ rfl inferInstance inferInstance rfl hW))) | exact z_auto | ((apply u_k 6; (focus rfl); exact u_store_r ⟨rfl, rfl⟩ rfl inferInstance rfl rfl rfl rfl HJ rfl (part_raw rfl rfl rfl) rfl HS)) | (apply u_g; (focus rfl); apply op_gyes rfl rfl rfl rfl rfl; ((apply u_k 6; (focus rfl); exact u_store_r ⟨rfl, rfl⟩ rfl inferInstance rfl rfl rfl rfl HJ rfl (part_raw rfl rfl rfl) rfl HS))) | fail)) | refine thenA_n ?_ | refine thenA_r ?_ | refine thenA_e ?_ | refine inB_n ?_ | refine inB_r ?_ | refine inB_hit ?_ | refine inB_miss rfl ?_ | ((first | refine AL_cl rfl rfl rfl ⟨fun hc => ?_, fun hc => ?_⟩ | refine AD_cl rfl rfl rfl ⟨fun hc => ?_, fun hc => ?_⟩) <;> (fail_if_success (have q : (true = true) := hc)) <;> (fail_if_success (have q : (false = false) := hc)) <;> (repeat rw [List.length_map] at hc) <;> (try exact absd hc)) | refine AW_cond_nil rfl rfl (fun hc => ?_) ?_))
      refine ⟨k + 1, by omega, by omega, ?_⟩
      exact le_auto
    · obtain rfl : k = 4 := by omega
      rw [tlR_n] at *
      (refine w0 ?_; (repeat' (first | refine W2.mk ?_ ?_ | refine W1.mk fun hc => ?_)))
      (refine ⟨(by first | exact .inl rfl | exact .inr rfl), res1 rfl ?_⟩)
      exact rv_ownM rfl rfl rfl rfl
/-- are the last four bytes the sum of the others? -/
def okW (b : List UInt8) : Bool := decide (4 ≤ b.length) && decide (b.drop (b.length - 4) = tailS (crcS (b.take (b.length - 4))))
theorem take4 {a T : List UInt8} {k : Nat} (h : a.take k = T.take k) (h1 : k < a.length) (h2 : k < T.length) (e : a[k] = T[k]) : a.take (k + 1) = T.take (k + 1) := by
  rw [List.take_add_one, List.take_add_one, h, List.getElem?_eq_getElem h1, List.getElem?_eq_getElem h2, e]
theorem okW_short {b : List UInt8} (h : b.length < 4) : okW b = false := by unfold okW; rw [decide_eq_false (by omega)]; rfl
theorem okW_long {b : List UInt8} {n : Nat} (h : b.length = n + 4) : okW b = decide (b.drop n = tailS (crcS (b.take n))) := by
  unfold okW; rw [decide_eq_true (by omega), Bool.true_and, show b.length - 4 = n by omega]
theorem crc_Whole (b : List UInt8) (hb : b.length ≤ 1000000000) : Fn Tryz.prog 162 [.per (bysP b)] (.tup2 (ownB (if okW b then b.take (b.length - 4) else [])) (boR (okW b))) := by
  by_cases h4 : b.length < 4
  · rw [okW_short h4]
    refine fn_intro Tryz.func162 rfl (by kernel_rfl) Tryz.ntmps162 (Nat.le_of_ble_eq_true rfl) ?_
    (refine w0 ?_; (repeat' (first | refine W2.mk ?_ ?_ | refine W1.mk fun hc => ?_)))
    (refine ⟨(by first | exact .inl rfl | exact .inr rfl), res2 rfl ?_ ?_⟩)
    · exact rv_nil rfl
    · exact rv_bool rfl rfl
  obtain ⟨n, hn⟩ : ∃ n, b.length = n + 4 := ⟨b.length - 4, by omega⟩
  rw [okW_long hn, show b.length - 4 = n by omega]
  have h1 := crc_Sum [b.take n] (by simp) (fun p hp => by rw [List.mem_singleton] at hp; subst hp; rw [List.length_take]; omega)
  rw [show [b.take n].flatten = b.take n by simp] at h1
  have h2 := (crc_Tail _ (crcS_lt (b.take n))).frz
  have hT : (tailS (crcS (b.take n))).length = 4 := rfl
  generalize tailS (crcS (b.take n)) = T at *
  have hN : ((b.length : Nat) : Int) - 4 = (n : Int) := by omega
  generalize hD : b.drop n = D
  have hDl : D.length = 4 := by rw [← hD, List.length_drop]; omega
  have hDg : ∀ (k : Nat) (h : k < D.length), b[n + k]'(by omega) = D[k] := fun k h => by subst hD; rw [List.getElem_drop]
  refine fn_intro Tryz.func162 rfl (by kernel_rfl) Tryz.ntmps162 (Nat.le_of_ble_eq_true rfl) ?_
  (have ke1 := Lib.hid (hN); have kc1 := h1; have kc2 := h2; refine w0e ?_; (repeat' (first | refine W2.mk ?_ ?_ | refine W1.mk fun hc => ?_)); all_goals clear kc2 kc1 ke1)
  refine AW_loopP (X := Nat) (fun k => k ≤ 4 ∧ D.take k = T.take k) (fun k => mkSt [(0, .per (bysP b)), (4, iC .i64 (n : Nat)), (17, .per (bysP T)), (18, iC .i64 4), (19, iC .i64 (k : Nat))] []) (fun k => 4 - k) 0 ⟨by omega, rfl⟩ ?_ ?_
  · exact le_auto
  · rintro k ⟨hk, hE⟩
    by_cases hlt : k < 4
    · have hI : (n : Int) + (k : Int) = ((n + k : Nat) : Int) := by omega
      have hg := hDg k (by omega)
      clear h1 h2 hN
      (have ke1 := Lib.hid (hI); refine w0e ?_; (repeat' (first | refine W2.mk ?_ ?_ | refine W1.mk fun hc => ?_)); all_goals clear ke1)
      · have hne : ¬ D = T := fun e => by
          subst e
          rw [hg] at hc
          exact hc rfl
        rw [decide_eq_false hne]
        (refine ⟨(by first | exact .inl rfl | exact .inr rfl), res2 rfl ?_ ?_⟩)
        · exact rv_nil rfl
        · exact rv_bool rfl rfl
      · have e : D[k]'(by omega) = T[k]'(by omega) := by
          rw [← hg]; exact UInt8.toNat_inj.1 (by omega)
        refine ⟨k + 1, ⟨by omega, take4 hE (by omega) (by omega) e⟩, by omega, ?_⟩
        exact le_auto
    · obtain rfl : k = 4 := by omega
      have e : D = T := by
        rw [← hDl, List.take_length, hDl, ← hT, List.take_length] at hE; exact hE
      rw [decide_eq_true e, if_pos rfl]
      clear h1 h2
      (refine w0 ?_; (repeat' (first | refine W2.mk ?_ ?_ | refine W1.mk fun hc => ?_)))
      (refine ⟨(by first | exact .inl rfl | exact .inr rfl), res2 rfl ?_ ?_⟩)
      · exact rv_ownM rfl rfl rfl rfl
      · exact rv_bool rfl rfl
end
end Go.Proofs.YtoiaegbmbhgdpaaGreat
