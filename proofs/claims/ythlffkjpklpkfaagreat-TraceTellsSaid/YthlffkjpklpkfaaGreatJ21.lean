/- Texts joined: CrcW FrW FrR. -/
import Derived.Test.YthlffkjpklpkfaaGreatJ19
import Derived.Test.YthlffkjpklpkfaaGreatJ20
import Derived.Test.YthlffkjpklpkfaaGreatJ11
import Derived.Test.YthlffkjpklpkfaaGreatJ07
import Derived.Test.YthlffkjpklpkfaaGreatJ10
set_option maxRecDepth 10000
set_option maxHeartbeats 8000000
namespace Go.Proofs.YthlffkjpklpkfaaGreat
open Go.RowKit
section
variable {P:Program} {n t:Nat} {ops:Array Oper} {o:Oper} {S:St}
theorem op_compl {ty:TypeId} {x:Operand} {k:IntKind} {p z:Int} (hp:Pl n o t) (ho:o.op = .unOp .xor ty x) (hx:S.opd x = iC k p) (hz:bits .xor k (if k.signed then -1 else k.max) p = z):OpOk n P ops o (opdN x) (iC k z) [] S:=
 op_val hp fun C T g a w hA hR=>by
   have h1:=raw_opd (x:=x) hA (fun k h=>by simp [h]) hR hx
   subst hz
   exact ⟨.int k (bits .xor k (if k.signed then -1 else k.max) p),by simp only [execOp,ho,h1,Op.unary];rfl,rfl⟩
end
theorem wrap_u8_nat (n:Nat):IntKind.u8.wrap (n:Int) = ((UInt8.ofNat n).toNat:Int):=by
 rw [IntKind.wrap_u8',UInt8.toNat_ofNat'];omega
theorem wrap_u32_byte (c:UInt8):IntKind.u32.wrap (c.toNat:Int) = (c.toNat:Int):=by
 have:=c.toNat_lt
 rw [IntKind.wrap_u32'];omega
/-- the first n bytes of a number, the least first -/
def tlN (n s:Nat):List UInt8:=(List.range n).map fun i=>UInt8.ofNat (s / 256 ^ i)
theorem tlN_len (n s:Nat):(tlN n s).length = n:=by simp [tlN]
theorem tlN_succ (n s:Nat):tlN (n + 1) s = tlN n s ++ [UInt8.ofNat (s / 256 ^ n)]:=by simp [tlN,List.range_succ]
theorem tlN_4 (s:Nat):tlN 4 s = tailS s:=by simp [tlN,tailS,List.range,List.range.loop]
def tlR (n s k:Nat):List UInt8:=tlN k s ++ List.replicate (n - k) 0
theorem tlR_0 (n s:Nat):tlR n s 0 = List.replicate n 0:=by simp [tlR,tlN]
theorem tlR_n (n s:Nat):tlR n s n = tlN n s:=by simp [tlR]
theorem tlR_len (n s k:Nat) (h:k ≤ n):(tlR n s k).length = n:=by simp [tlR,tlN_len];omega
theorem tlR_get (n s k:Nat) (h:k < n):(tlR n s k)[k]? = some 0:=by
 unfold tlR
 rw [List.getElem?_append_right (by rw [tlN_len];omega),tlN_len,Nat.sub_self,List.getElem?_replicate]
 rw [if_pos (by omega)]
theorem tlR_set (n s k:Nat) (h:k < n):(tlR n s k).set k (UInt8.ofNat (s / 256 ^ k)) = tlR n s (k + 1):=by
 unfold tlR
 rw [List.set_append_right _ _ (by rw [tlN_len];omega),tlN_len,Nat.sub_self,tlN_succ]
 obtain ⟨m,hm⟩:∃ m,n - k = m + 1:=⟨n - k - 1,by omega⟩
 rw [hm,List.replicate_succ,List.set_cons_zero,show n - (k + 1) = m by omega,List.append_assoc];rfl
theorem shr_256 {s k b:Nat} (hb:8 * k ≤ b):(s:Int) / 2 ^ min (8 * (k:Int)).toNat b = ((s / 256 ^ k:Nat):Int):=by
 have e:min (8 * (k:Int)).toNat b = 8 * k:=by omega
 have e2:(2:Int) ^ (8 * k) = ((256 ^ k:Nat):Int):=by
   rw [show (256:Nat) ^ k = 2 ^ (8 * k) from (Nat.pow_mul 2 8 k).symm];simp
 rw [e,e2];rfl
abbrev bysQ' (d:List UInt8):List PV:=[bysP d]
section
theorem crc_step (s:Nat) (hs:s < 4294967296) (c:UInt8):Fn Tryz.prog 134 [iC .u32 (s:Nat),iC .u8 (c.toNat:Nat)] (.per (rawP (.int .u32 (bytS s c:Nat)))):=by
 have hc8:=c.toNat_lt
 have hx:=u32_xor_nat s c.toNat hs (by omega)
 have hw:=wrap_u32_byte c
 have hlt:s ^^^ c.toNat < 4294967296:=Nat.xor_lt_two_pow (n:=32) (by omega) (by omega)
 unfold bytS
 generalize s ^^^ c.toNat = s0 at *
 generalize hB:itS 8 s0 = B
 refine fi Tryz.func134 Tryz.ntmps134 ?_
 (repeat' (first|refine AW_seq ?_|refine AW_block ?_|refine AW_skip ?_|refine AW_exit ?_|refine AW_ret ?_|refine AW_region ?_|refine AW_draw mixed0 ?_|refine AL_nil ?_|refine AD_nil (by kernel_rfl) ?_|(refine AW_cl rfl rfl ⟨fun hc=>?_,fun hc=>?_⟩ <;> (repeat rw [List.length_map] at hc) <;> (try exact absd hc))|((first|apply AL_t rfl|apply AL_0 rfl|apply AD_t rfl|apply AD_0 rfl);focus (first|((apply u_k 10;(focus rfl);exact u_conv ⟨rfl,rfl,rfl⟩ rfl inferInstance inferInstance rfl hw))|(apply u_g;(focus rfl);apply op_gyes rfl rfl rfl rfl rfl;((apply u_k 10;(focus rfl);exact u_conv ⟨rfl,rfl,rfl⟩ rfl inferInstance inferInstance rfl hw)))|((exact op_xor ⟨rfl,rfl,rfl⟩ rfl rfl rfl hx))|(apply u_g;(focus rfl);apply op_gyes rfl rfl rfl rfl rfl;((exact op_xor ⟨rfl,rfl,rfl⟩ rfl rfl rfl hx)))|exact z_auto|fail))|refine thenA_n ?_|refine thenA_r ?_|refine thenA_e ?_|refine inB_n ?_|refine inB_r ?_|refine inB_hit ?_|refine inB_miss rfl ?_|((first|refine AL_cl rfl rfl rfl ⟨fun hc=>?_,fun hc=>?_⟩|refine AD_cl rfl rfl rfl ⟨fun hc=>?_,fun hc=>?_⟩) <;> (fail_if_success (have q:(true = true):=hc)) <;> (fail_if_success (have q:(false = false):=hc)) <;> (repeat rw [List.length_map] at hc) <;> (try exact absd hc))|refine AW_cond_nil rfl rfl (fun hc=>?_) ?_))
 refine AW_loopP (X:=Nat × Nat) (fun x=>x.1 ≤ 8 ∧ x.2 < 4294967296 ∧ itS (8 - x.1) x.2 = B)
   (fun x=>mkSt [(0,iC .u32 (x.2:Nat)),(10,iC .i64 (x.1:Nat))] []) (fun x=>8 - x.1) (0,s0) ⟨by omega,hlt,hB⟩ ?_ ?_
 · exact le_auto
 · clear hx hw hlt hB hs hc8
   rintro ⟨k,s⟩ ⟨h1,h2,h3⟩
   simp only at h1 h2 h3 ⊢
   by_cases hk:k < 8
   · have hA:bits .and .u32 (s:Int) 1 = ((s % 2:Nat):Int):=by
       have:=u32_and_nat s 1 h2 (by omega)
       rw [Nat.and_one_is_mod] at this;exact this
     have hS:(s:Int) / 2 ^ min (1:Int).toNat IntKind.u32.bits = ((s / 2:Nat):Int):=by
       show (s:Int) / 2 ^ 1 = _
       omega
     have hX:bits .xor .u32 ((s / 2:Nat):Int) 3988292384 = ((s / 2 ^^^ 3988292384:Nat):Int):=u32_xor_nat (s / 2) 3988292384 (by omega) (by omega)
     have hlt:=bitS_lt h2
     obtain ⟨m,hm⟩:∃ m,8 - k = m + 1:=⟨7 - k,by omega⟩
     rw [hm,itS] at h3
     by_cases hb:s % 2 = 1
     · have e:bitS s = s / 2 ^^^ 3988292384:=by unfold bitS;rw [if_pos hb]
       rw [e] at h3 hlt
       (refine w0 ?_;(repeat' (first|refine W2.mk ?_ ?_|refine W1.mk fun hc=>?_|((first|apply AL_t rfl|apply AL_0 rfl|apply AD_t rfl|apply AD_0 rfl);(focus (first|((exact op_and ⟨rfl,rfl,rfl⟩ rfl rfl rfl hA))|((exact op_shrB ⟨rfl,rfl,rfl⟩ rfl rfl rfl (by omega) hS))|((exact op_xor ⟨rfl,rfl,rfl⟩ rfl rfl rfl hX))|(apply u_g;(focus rfl);apply op_gyes rfl rfl rfl rfl rfl;first|((exact op_and ⟨rfl,rfl,rfl⟩ rfl rfl rfl hA))|((exact op_shrB ⟨rfl,rfl,rfl⟩ rfl rfl rfl (by omega) hS))|((exact op_xor ⟨rfl,rfl,rfl⟩ rfl rfl rfl hX)))));refine w0 ?_))))
       refine ⟨(k + 1,s / 2 ^^^ 3988292384),⟨by simp only;omega,hlt,by simp only;rw [show 8 - (k + 1) = m by omega];exact h3⟩,by simp only;omega,?_⟩
       exact le_auto
     · have e:bitS s = s / 2:=by unfold bitS;rw [if_neg hb]
       rw [e] at h3 hlt
       clear hX
       (refine w0 ?_;(repeat' (first|refine W2.mk ?_ ?_|refine W1.mk fun hc=>?_|((first|apply AL_t rfl|apply AL_0 rfl|apply AD_t rfl|apply AD_0 rfl);(focus (first|((exact op_and ⟨rfl,rfl,rfl⟩ rfl rfl rfl hA))|((exact op_shrB ⟨rfl,rfl,rfl⟩ rfl rfl rfl (by omega) hS))|(apply u_g;(focus rfl);apply op_gyes rfl rfl rfl rfl rfl;first|((exact op_and ⟨rfl,rfl,rfl⟩ rfl rfl rfl hA))|((exact op_shrB ⟨rfl,rfl,rfl⟩ rfl rfl rfl (by omega) hS)))));refine w0 ?_))))
       refine ⟨(k + 1,s / 2),⟨by simp only;omega,hlt,by simp only;rw [show 8 - (k + 1) = m by omega];exact h3⟩,by simp only;omega,?_⟩
       exact le_auto
   · have hk:k = 8:=by omega
     subst hk
     have h3:s = B:=h3
     subst h3
     (refine w0 ?_;(repeat' first|refine W2.mk ?_ ?_|refine W1.mk fun hc=>?_))
     refine rt1 ?_
     exact rv_int rfl rfl
theorem runS_cons (s:Nat) (c:UInt8) (l:List UInt8):runS s (c :: l) = runS (bytS s c) l:=rfl
theorem crc_Sum (ls:List (List UInt8)) (hl:ls.length ≤ 1000000000) (hs:∀ p ∈ ls,p.length ≤ 1000000000000):Fn Tryz.prog 89 [.bor 1 (ls.map bysQ')] (.per (rawP (.int .u32 (crcS ls.flatten:Nat)))):=by
 unfold crcS
 have hF0:=runS_lt ls.flatten (s:=4294967295) (by decide)
 generalize hF:runS 4294967295 ls.flatten = F at *
 refine fi Tryz.func89 Tryz.ntmps89 ?_
 (refine w0 ?_;(repeat' first|refine W2.mk ?_ ?_|refine W1.mk fun hc=>?_))
 refine AW_loopP (X:=Nat × Nat) (fun x=>x.1 ≤ ls.length ∧ x.2 < 4294967296 ∧ runS x.2 (ls.drop x.1).flatten = F)
   (fun x=>mkSt [(3,iC .u32 (x.2:Nat)),(8,.bor 1 (ls.map bysQ')),(9,iC .i64 (ls.length:Nat)),(10,iC .i64 (x.1:Nat))] []) (fun x=>ls.length - x.1) (0,4294967295) ⟨Nat.zero_le _,by decide,hF⟩ ?_ ?_
 · exact le_auto
 · rintro ⟨i,s⟩ ⟨h1,h2,h3⟩
   simp only at h1 h2 h3 ⊢
   by_cases hi:i < ls.length
   · rw [List.drop_eq_getElem_cons hi,List.flatten_cons] at h3
     have hp:=hs _ (List.getElem_mem hi)
     obtain ⟨rest,hr⟩:∃ rest,rest = (ls.drop (i + 1)).flatten:=⟨_,rfl⟩
     rw [← hr] at h3
     (refine w0 ?_;(repeat' first|refine W2.mk ?_ ?_|refine W1.mk fun hc=>?_))
     refine AW_loopP (X:=Nat × Nat) (fun x=>x.1 ≤ ls[i].length ∧ x.2 < 4294967296 ∧ runS x.2 (ls[i].drop x.1 ++ rest) = F)
       (fun x=>mkSt [(3,iC .u32 (x.2:Nat)),(8,.bor 1 (ls.map bysQ')),(9,iC .i64 (ls.length:Nat)),(10,iC .i64 (i:Nat)),(14,.per (bysP ls[i])),(15,iC .i64 (ls[i].length:Nat)),(16,iC .i64 (x.1:Nat))] []) (fun x=>ls[i].length - x.1) (0,s) ⟨Nat.zero_le _,h2,h3⟩ ?_ ?_
     · exact le_auto
     · rintro ⟨j,s'⟩ ⟨g1,g2,g3⟩
       simp only at g1 g2 g3 ⊢
       by_cases hj:j < ls[i].length
       · rw [List.drop_eq_getElem_cons hj,List.cons_append,runS_cons] at g3
         have hc:=crc_step s' g2 ls[i][j]
         have hb:=bytS_lt g2 ls[i][j]
         generalize bytS s' ls[i][j] = s2 at *
         clear h3 hF hs
         (have kc1:=hc;refine w0 ?_;(repeat' first|refine W2.mk ?_ ?_|refine W1.mk fun hc=>?_);all_goals clear kc1)
         refine ⟨(j + 1,s2),⟨by simp only;omega,hb,g3⟩,by simp only;omega,?_⟩
         exact le_auto
       · rw [List.drop_of_length_le (by omega),List.nil_append] at g3
         clear h3 hF hs
         (refine w0 ?_;(repeat' first|refine W2.mk ?_ ?_|refine W1.mk fun hc=>?_))
         refine ⟨(i + 1,s'),⟨by simp only;omega,g2,by rw [hr] at g3;exact g3⟩,by simp only;omega,?_⟩
         exact le_auto
   · rw [List.drop_of_length_le (by omega)] at h3
     have h3:s = F:=h3
     subst h3
     have hX:bits .xor .u32 (if IntKind.u32.signed then -1 else IntKind.u32.max) (s:Int) = ((s ^^^ 4294967295:Nat):Int):=by
       rw [Nat.xor_comm];exact u32_xor_nat 4294967295 s (by decide) h2
     clear hF hs
     (refine w0 ?_;(repeat' (first|refine W2.mk ?_ ?_|refine W1.mk fun hc=>?_|((first|apply AL_t rfl|apply AL_0 rfl|apply AD_t rfl|apply AD_0 rfl);(focus (first|((apply u_k 9;(focus rfl);exact op_compl ⟨rfl,rfl,rfl⟩ rfl rfl hX))|(apply u_g;(focus rfl);apply op_gyes rfl rfl rfl rfl rfl;first|((apply u_k 9;(focus rfl);exact op_compl ⟨rfl,rfl,rfl⟩ rfl rfl hX)))));refine w0 ?_))))
     refine rt1 ?_
     exact rv_int rfl rfl
theorem crc_Tail (s:Nat) (_:s < 4294967296):Fn Tryz.prog 88 [iC .u32 (s:Nat)] (ownB (tailS s)):=by
 rw [← tlN_4]
 refine fi Tryz.func88 Tryz.ntmps88 ?_
 (repeat' (first|refine AW_seq ?_|refine AW_block ?_|refine AW_skip ?_|refine AW_exit ?_|refine AW_ret ?_|refine AW_region ?_|refine AW_draw mixed0 ?_|refine AL_nil ?_|refine AD_nil (by kernel_rfl) ?_|(refine AW_cl rfl rfl ⟨fun hc=>?_,fun hc=>?_⟩ <;> (repeat rw [List.length_map] at hc) <;> (try exact absd hc))|((first|apply AL_t rfl|apply AL_0 rfl|apply AD_t rfl|apply AD_0 rfl);focus (first|((exact u_mk (m:=4) ⟨rfl,rfl,rfl⟩ rfl inferInstance inferInstance rfl rfl rfl rfl (by omega) (by omega)))|(apply u_g;(focus rfl);apply op_gyes rfl rfl rfl rfl rfl;((exact u_mk (m:=4) ⟨rfl,rfl,rfl⟩ rfl inferInstance inferInstance rfl rfl rfl rfl (by omega) (by omega))))|exact z_auto|fail))|refine thenA_n ?_|refine thenA_r ?_|refine thenA_e ?_|refine inB_n ?_|refine inB_r ?_|refine inB_hit ?_|refine inB_miss rfl ?_|((first|refine AL_cl rfl rfl rfl ⟨fun hc=>?_,fun hc=>?_⟩|refine AD_cl rfl rfl rfl ⟨fun hc=>?_,fun hc=>?_⟩) <;> (fail_if_success (have q:(true = true):=hc)) <;> (fail_if_success (have q:(false = false):=hc)) <;> (repeat rw [List.length_map] at hc) <;> (try exact absd hc))|refine AW_cond_nil rfl rfl (fun hc=>?_) ?_))
 refine AW_loopP (X:=Nat) (fun k=>k ≤ 4) (fun k=>mkSt [(0,iC .u32 (s:Nat)),(3,.row 5 0),(7,iC .i64 4),(8,iC .i64 (k:Nat))] [(5,.row 5 1 ((tlR 4 s k).map byteP))]) (fun k=>4 - k) 0 (by omega) ?_ ?_
 · rw [tlR_0]
   exact le_auto
 · intro k hk
   have hl:=tlR_len 4 s k hk
   by_cases hlt:k < 4
   · have hZ:=shr_256 (s:=s) (k:=k) (b:=IntKind.u32.bits) (by show 8 * k ≤ 32;omega)
     have hW:=wrap_u8_nat (s / 256 ^ k)
     have HJ:((tlR 4 s k).map byteP)[k]? = some (byteP 0):=by rw [List.getElem?_map,tlR_get 4 s k hlt];rfl
     have HS:((tlR 4 s k).map byteP).set k (setP (byteP 0) 0 (byteP (UInt8.ofNat (s / 256 ^ k)))) = (tlR 4 s (k + 1)).map byteP:=by
       rw [← tlR_set 4 s k hlt,List.map_set];rfl
     generalize s / 256 ^ k = q at *
     (repeat' (first|refine AW_seq ?_|refine AW_block ?_|refine AW_skip ?_|refine AW_exit ?_|refine AW_ret ?_|refine AW_region ?_|refine AW_draw mixed0 ?_|refine AL_nil ?_|refine AD_nil (by kernel_rfl) ?_|(refine AW_cl rfl rfl ⟨fun hc=>?_,fun hc=>?_⟩ <;> (repeat rw [List.length_map] at hc) <;> (try exact absd hc))|((first|apply AL_t rfl|apply AL_0 rfl|apply AD_t rfl|apply AD_0 rfl);focus (first|((exact op_shrB ⟨rfl,rfl,rfl⟩ rfl rfl rfl (by omega) hZ))|(apply u_g;(focus rfl);apply op_gyes rfl rfl rfl rfl rfl;((exact op_shrB ⟨rfl,rfl,rfl⟩ rfl rfl rfl (by omega) hZ)))|((apply u_k 10;(focus rfl);exact u_conv ⟨rfl,rfl,rfl⟩ rfl inferInstance inferInstance rfl hW))|(apply u_g;(focus rfl);apply op_gyes rfl rfl rfl rfl rfl;((apply u_k 10;(focus rfl);exact u_conv ⟨rfl,rfl,rfl⟩ rfl inferInstance inferInstance rfl hW)))|exact z_auto|((apply u_k 6;(focus rfl);exact u_store_r ⟨rfl,rfl⟩ rfl inferInstance rfl rfl rfl rfl HJ rfl (part_raw rfl rfl rfl) rfl HS))|(apply u_g;(focus rfl);apply op_gyes rfl rfl rfl rfl rfl;((apply u_k 6;(focus rfl);exact u_store_r ⟨rfl,rfl⟩ rfl inferInstance rfl rfl rfl rfl HJ rfl (part_raw rfl rfl rfl) rfl HS)))|fail))|refine thenA_n ?_|refine thenA_r ?_|refine thenA_e ?_|refine inB_n ?_|refine inB_r ?_|refine inB_hit ?_|refine inB_miss rfl ?_|((first|refine AL_cl rfl rfl rfl ⟨fun hc=>?_,fun hc=>?_⟩|refine AD_cl rfl rfl rfl ⟨fun hc=>?_,fun hc=>?_⟩) <;> (fail_if_success (have q:(true = true):=hc)) <;> (fail_if_success (have q:(false = false):=hc)) <;> (repeat rw [List.length_map] at hc) <;> (try exact absd hc))|refine AW_cond_nil rfl rfl (fun hc=>?_) ?_))
     refine ⟨k + 1,by omega,by omega,?_⟩
     exact le_auto
   · obtain rfl:k = 4:=by omega
     rw [tlR_n] at *
     (refine w0 ?_;(repeat' first|refine W2.mk ?_ ?_|refine W1.mk fun hc=>?_))
     refine rt1 ?_
     exact rv_ownM rfl rfl rfl rfl
/-- are the last four bytes the sum of the others? -/
def okW (b:List UInt8):Bool:=decide (4 ≤ b.length) && decide (b.drop (b.length - 4) = tailS (crcS (b.take (b.length - 4))))
theorem take4 {a T:List UInt8} {k:Nat} (h:a.take k = T.take k) (h1:k < a.length) (h2:k < T.length) (e:a[k] = T[k]):a.take (k + 1) = T.take (k + 1):=by
 rw [List.take_add_one,List.take_add_one,h,List.getElem?_eq_getElem h1,List.getElem?_eq_getElem h2,e]
theorem okW_short {b:List UInt8} (h:b.length < 4):okW b = false:=by unfold okW;rw [decide_eq_false (by omega)];rfl
theorem okW_long {b:List UInt8} {n:Nat} (h:b.length = n + 4):okW b = decide (b.drop n = tailS (crcS (b.take n))):=by
 unfold okW;rw [decide_eq_true (by omega),Bool.true_and,show b.length - 4 = n by omega]
theorem crc_Whole (b:List UInt8) (hb:b.length ≤ 1000000000):Fn Tryz.prog 140 [.per (bysP b)] (.tup2 (ownB (if okW b then b.take (b.length - 4) else [])) (boR (okW b))):=by
 by_cases h4:b.length < 4
 · rw [okW_short h4]
   refine fi Tryz.func140 Tryz.ntmps140 ?_
   (refine w0 ?_;(repeat' first|refine W2.mk ?_ ?_|refine W1.mk fun hc=>?_))
   refine rt2 ?_ ?_
   · exact rv_nil rfl
   · exact rv_bool rfl rfl
 obtain ⟨n,hn⟩:∃ n,b.length = n + 4:=⟨b.length - 4,by omega⟩
 rw [okW_long hn,show b.length - 4 = n by omega]
 have h1:=crc_Sum [b.take n] (by simp) (fun p hp=>by rw [List.mem_singleton] at hp;subst hp;rw [List.length_take];omega)
 rw [show [b.take n].flatten = b.take n by simp] at h1
 have h2:=(crc_Tail _ (crcS_lt (b.take n))).frz
 have hT:(tailS (crcS (b.take n))).length = 4:=rfl
 generalize tailS (crcS (b.take n)) = T at *
 have hN:((b.length:Nat):Int) - 4 = (n:Int):=by omega
 generalize hD:b.drop n = D
 have hDl:D.length = 4:=by rw [← hD,List.length_drop];omega
 have hDg:∀ (k:Nat) (h:k < D.length),b[n + k]'(by omega) = D[k]:=fun k h=>by subst hD;rw [List.getElem_drop]
 refine fi Tryz.func140 Tryz.ntmps140 ?_
 (have ke1:=Lib.hid (hN);have kc1:=h1;have kc2:=h2;refine w0e ?_;(repeat' first|refine W2.mk ?_ ?_|refine W1.mk fun hc=>?_);all_goals clear kc2 kc1 ke1)
 refine AW_loopP (X:=Nat) (fun k=>k ≤ 4 ∧ D.take k = T.take k) (fun k=>mkSt [(0,.per (bysP b)),(4,iC .i64 (n:Nat)),(17,.per (bysP T)),(18,iC .i64 4),(19,iC .i64 (k:Nat))] []) (fun k=>4 - k) 0 ⟨by omega,rfl⟩ ?_ ?_
 · exact le_auto
 · rintro k ⟨hk,hE⟩
   by_cases hlt:k < 4
   · have hI:(n:Int) + (k:Int) = ((n + k:Nat):Int):=by omega
     have hg:=hDg k (by omega)
     clear h1 h2 hN
     (have ke1:=Lib.hid (hI);refine w0e ?_;(repeat' first|refine W2.mk ?_ ?_|refine W1.mk fun hc=>?_);all_goals clear ke1)
     · have hne:¬ D = T:=fun e=>by
         subst e
         rw [hg] at hc
         exact hc rfl
       rw [decide_eq_false hne]
       refine rt2 ?_ ?_
       · exact rv_nil rfl
       · exact rv_bool rfl rfl
     · have e:D[k]'(by omega) = T[k]'(by omega):=by
         rw [← hg];exact UInt8.toNat_inj.1 (by omega)
       refine ⟨k + 1,⟨by omega,take4 hE (by omega) (by omega) e⟩,by omega,?_⟩
       exact le_auto
   · obtain rfl:k = 4:=by omega
     have e:D = T:=by
       rw [← hDl,List.take_length,hDl,← hT,List.take_length] at hE;exact hE
     rw [decide_eq_true e,if_pos rfl]
     clear h1 h2
     (refine w0 ?_;(repeat' first|refine W2.mk ?_ ?_|refine W1.mk fun hc=>?_))
     refine rt2 ?_ ?_
     · exact rv_ownM rfl rfl rfl rfl
     · exact rv_bool rfl rfl
end
theorem okW_take {b:List UInt8} {m:Nat} (h:m + 4 ≤ b.length):okW (b.take (m + 4)) = decide ((b.drop m).take 4 = tailS (crcS (b.take m))):=by
 rw [okW_long (n:=m) (by rw [List.length_take];omega),List.drop_take,List.take_take,show m + 4 - m = 4 by omega,show min m (m + 4) = m by omega]
theorem take_drop {b:List UInt8} (k N:Nat):(b.take (k + N)).drop k = (b.drop k).take N:=by rw [List.drop_take,show k + N - k = N by omega]
theorem flat_snocF {ls:List (List UInt8)} {i:Nat} (h:i < ls.length):(ls.take (i + 1)).flatten = (ls.take i).flatten ++ ls[i]:=by
 rw [List.take_add_one,List.getElem?_eq_getElem h,Option.toList_some,List.flatten_append];simp
section
theorem fr_Make (ls:List (List UInt8)) (hl:ls.length ≤ 1000000000) (hs:∀ p ∈ ls,p.length ≤ 1000000000) :
   Fn Tryz.prog 39 [.bor 1 (ls.map bysQ')] (.tup2 (ownB (if ls.flatten.length ≤ 32768 then frB ls.flatten else [])) (inR (if ls.flatten.length ≤ 32768 then 0 else 12))):=by
 refine fi Tryz.func39 Tryz.ntmps39 ?_
 (refine w0 ?_;(repeat' first|refine W2.mk ?_ ?_|refine W1.mk fun hc=>?_))
 refine AW_loopP (X:=Nat) (fun i=>i ≤ ls.length ∧ (ls.take i).flatten.length ≤ 32768) (fun i=>mkSt [(0,.bor 1 (ls.map bysQ')),(4,iC .i64 ((ls.take i).flatten.length:Nat)),(11,.bor 1 (ls.map bysQ')),(12,iC .i64 (ls.length:Nat)),(13,iC .i64 (i:Nat))] []) (fun i=>ls.length - i) 0 ⟨Nat.zero_le _,by simp⟩ ?_ ?_
 · exact le_auto
 · rintro i ⟨h1,h2⟩
   by_cases hi:i < ls.length
   · have hp:=hs _ (List.getElem_mem hi)
     have hf:=flat_snocF hi
     have hlen:(ls.take (i + 1)).flatten.length = (ls.take i).flatten.length + ls[i].length:=by rw [hf,List.length_append]
     have hle:(ls.take (i + 1)).flatten.length ≤ ls.flatten.length:=by
       have:=congrArg (fun l=>(List.flatten l).length) (List.take_append_drop (i + 1) ls)
       simp only [List.flatten_append,List.length_append] at this
       omega
     generalize (ls.take i).flatten.length = a at *
     generalize hA:(ls.take (i + 1)).flatten.length = a' at *
     clear hf hs
     (refine w0 ?_;(repeat' first|refine W2.mk ?_ ?_|refine W1.mk fun hc=>?_))
     · rw [if_neg (by omega),if_neg (by omega)]
       refine rt2 ?_ ?_
       · exact rv_nil rfl
       · exact rv_int rfl rfl
     · refine ⟨i + 1,⟨by omega,by rw [hA];omega⟩,by omega,?_⟩
       rw [hA]
       exact le_auto
   · obtain rfl:i = ls.length:=by omega
     rw [List.take_length] at h2
     rw [if_pos h2,if_pos h2]
     generalize hL:ls.flatten = L at *
     have c1:=varint_Put [] [(L.length:Int)] (by simp) (fun n hn=>by simp at hn;subst hn;unfold okNum;omega)
     rw [List.nil_append,show [(L.length:Int)].flatMap numI = numI (L.length:Nat) by simp] at c1
     have hn9:=numI_len (L.length:Int) (by omega)
     rw [List.take_length,hL]
     (have kc1:=c1;refine w0 ?_;(repeat' first|refine W2.mk ?_ ?_|refine W1.mk fun hc=>?_);all_goals clear kc1)
     refine AW_le (Le_mv 30 600) ?_
     refine AW_loopP (X:=Nat × List UInt8) (fun x=>x.1 ≤ ls.length ∧ x.2.length ≤ 32768 + 9 ∧ x.2 ++ (ls.drop x.1).flatten = frH L)
       (fun x=>mkSt [(7,.row 600 0),(36,.bor 1 (ls.map bysQ')),(37,iC .i64 (ls.length:Nat)),(38,iC .i64 (x.1:Nat))] [(600,.row 5 1 (x.2.map byteP))]) (fun x=>ls.length - x.1) (0,numI (L.length:Nat)) ⟨Nat.zero_le _,by simp only;omega,by simp only [List.drop_zero];rw [hL];rfl⟩ ?_ ?_
     · exact le_auto
     · rintro ⟨i,acc⟩ ⟨g1,g2,g3⟩
       simp only at g1 g2 g3 ⊢
       by_cases hi:i < ls.length
       · rw [List.drop_eq_getElem_cons hi,List.flatten_cons,← List.append_assoc] at g3
         have hb:(acc ++ ls[i]).length ≤ 32768 + 9:=by
           have:=congrArg List.length g3
           rw [List.length_append,frH_len] at this
           omega
         rw [List.length_append] at hb
         clear c1 hs
         (refine w0 ?_;(repeat' first|refine W2.mk ?_ ?_|refine W1.mk fun hc=>?_))
         refine ⟨(i + 1,acc ++ ls[i]),⟨by simp only;omega,by simp only [List.length_append];omega,g3⟩,by simp only;omega,?_⟩
         exact le_auto
       · rw [List.drop_of_length_le (by omega),List.flatten_nil,List.append_nil] at g3
         subst g3
         have c2:=crc_Sum [frH L] (by simp) (fun p hp=>by rw [List.mem_singleton] at hp;subst hp;omega)
         rw [show [frH L].flatten = frH L by simp] at c2
         have c3:=crc_Tail _ (crcS_lt (frH L))
         have hT:(tailS (crcS (frH L))).length = 4:=rfl
         have g2:(frH L).length ≤ 32768 + 9:=g2
         clear c1 hs
         (have kc1:=c3;refine w0 ?_;(repeat' (first|refine W2.mk ?_ ?_|refine W1.mk fun hc=>?_|((first|apply AL_t rfl|apply AL_0 rfl|apply AD_t rfl|apply AD_0 rfl);(focus (first|((apply u_k 15;(focus rfl);exact u_bslice1 ⟨rfl,rfl,rfl⟩ rfl inferInstance inferInstance rfl rfl (oneQ_row rfl rfl)))|((refine c_P (ids:=[600]) (c2) (hg:=?_);(refine GPl.cons ?_ GPl.nil;exact gpq_mix1 rfl rfl rfl (Sees.row rfl rfl rfl))))|(apply u_g;(focus rfl);apply op_gyes rfl rfl rfl rfl rfl;first|((apply u_k 15;(focus rfl);exact u_bslice1 ⟨rfl,rfl,rfl⟩ rfl inferInstance inferInstance rfl rfl (oneQ_row rfl rfl)))|((refine c_P (ids:=[600]) (c2) (hg:=?_);(refine GPl.cons ?_ GPl.nil;exact gpq_mix1 rfl rfl rfl (Sees.row rfl rfl rfl)))))));refine w0 ?_)));all_goals clear kc1)
         refine rt2 ?_ ?_
         · refine rv_own rfl rfl ?_
           show _ = Blk.row _ _ ((frH L ++ _).map byteP)
           rw [List.map_append];rfl
         · exact rv_int rfl rfl
theorem fr_Next (b:List UInt8) (hb:b.length ≤ 1000000000):Fn Tryz.prog 103 [.per (bysP b)] (.tup3 (.per (bysP (nextF b).1)) (inR ((nextF b).2.1:Nat)) (inR (nextF b).2.2)):=by
 unfold nextF
 by_cases he:(rdNum b).2.2 ≠ 0
 · rw [if_pos he]
   have hN:numSt b 0 = (0,b,(rdNum b).2.2):=by unfold numSt;rw [if_neg (by simp),if_pos he]
   have h1:=r_Number b 0
   rw [hN] at h1
   have h2:=r_Err b (rdNum b).2.2
   have h3:=r_Left b (rdNum b).2.2
   generalize (rdNum b).2.2 = e at *
   refine fi Tryz.func103 Tryz.ntmps103 ?_
   (have kn1:=v_New b hb;have kr1:=h1;have kr2:=h2;have kr3:=h3;refine w0 ?_;(repeat' first|refine W2.mk ?_ ?_|refine W1.mk fun hc=>?_);all_goals clear kr3 kr2 kr1 kn1)
   refine ⟨.inl rfl,res3 rfl ?_ ?_ ?_⟩
   · exact rv_nill rfl
   · exact rv_int rfl rfl
   · exact rv_int rfl rfl
 rw [if_neg he]
 have he:(rdNum b).2.2 = 0:=Decidable.not_not.1 he
 obtain ⟨_,_,hk,hn⟩:=rd_put he
 have hN:numSt b 0 = (((rdNum b).1:Int),b.drop (rdNum b).2.1,0):=by unfold numSt;rw [if_neg (by simp),if_neg (by simp [he])]
 have h1:=r_Number b 0
 rw [hN] at h1
 simp only at h1
 generalize (rdNum b).1 = n at *
 generalize (rdNum b).2.1 = k at *
 have h2:=r_Err (b.drop k) 0
 have h3:=r_Left (b.drop k) 0
 have hl:(b.drop k).length = b.length - k:=List.length_drop
 generalize hd:b.drop k = d at *
 clear hN he
 by_cases hm:32768 < n
 · rw [if_pos hm]
   clear hd
   refine fi Tryz.func103 Tryz.ntmps103 ?_
   (have kn1:=v_New b hb;have kr1:=h1;have kr2:=h2;have kr3:=h3;refine w0 ?_;(repeat' first|refine W2.mk ?_ ?_|refine W1.mk fun hc=>?_);all_goals clear kr3 kr2 kr1 kn1)
   refine ⟨.inl rfl,res3 rfl ?_ ?_ ?_⟩
   · exact rv_nill rfl
   · exact rv_int rfl rfl
   · exact rv_int rfl rfl
 rw [if_neg hm]
 by_cases hs:b.length < k + n + 4
 · rw [if_pos hs]
   clear hd
   refine fi Tryz.func103 Tryz.ntmps103 ?_
   (have kn1:=v_New b hb;have kr1:=h1;have kr2:=h2;have kr3:=h3;refine w0 ?_;(repeat' first|refine W2.mk ?_ ?_|refine W1.mk fun hc=>?_);all_goals clear kr3 kr2 kr1 kn1)
   refine ⟨.inl rfl,res3 rfl ?_ ?_ ?_⟩
   · exact rv_nill rfl
   · exact rv_int rfl rfl
   · exact rv_int rfl rfl
 rw [if_neg hs]
 have e1:((b.length:Nat):Int) - ((d.length:Nat):Int) = (k:Int):=by omega
 have e2:(k:Int) + (n:Int) + 4 = ((k + n + 4:Nat):Int):=by omega
 have h4:=(crc_Whole (b.take (k + n + 4)) (by rw [List.length_take];omega)).frz
 rw [okW_take (by omega)] at h4
 have hlt:(b.take (k + n + 4)).length - 4 = k + n:=by rw [List.length_take];omega
 rw [hlt,List.take_take,show min (k + n) (k + n + 4) = k + n by omega] at h4
 by_cases hc4:(b.drop (k + n)).take 4 = tailS (crcS (b.take (k + n)))
 · rw [if_pos hc4]
   rw [decide_eq_true hc4,if_pos rfl] at h4
   have hT:=take_drop (b:=b) k n
   rw [hd] at hT
   have hTl:(b.take (k + n)).length = k + n:=by rw [List.length_take];omega
   generalize b.take (k + n) = T at *
   clear hd hc4 hlt
   refine fi Tryz.func103 Tryz.ntmps103 ?_
   (have kn1:=v_New b hb;have kr1:=h1;have kr2:=h2;have kr3:=h3;have kc1:=h4;have ke1:=Lib.hid (e1);have ke2:=Lib.hid (e2);refine w0e ?_;(repeat' first|refine W2.mk ?_ ?_|refine W1.mk fun hc=>?_);all_goals clear ke2 ke1 kc1 kr3 kr2 kr1 kn1)
   refine ⟨.inl rfl,res3 rfl ?_ ?_ ?_⟩
   · exact rv_lstM rfl hT
   · exact rv_int rfl rfl
   · exact rv_int rfl rfl
 · rw [if_neg hc4]
   rw [decide_eq_false hc4,if_neg (by simp)] at h4
   clear hd hc4 hlt
   refine fi Tryz.func103 Tryz.ntmps103 ?_
   (have kn1:=v_New b hb;have kr1:=h1;have kr2:=h2;have kr3:=h3;have kc1:=h4;have ke1:=Lib.hid (e1);have ke2:=Lib.hid (e2);refine w0e ?_;(repeat' first|refine W2.mk ?_ ?_|refine W1.mk fun hc=>?_);all_goals clear ke2 ke1 kc1 kr3 kr2 kr1 kn1)
   refine ⟨.inl rfl,res3 rfl ?_ ?_ ?_⟩
   · exact rv_nill rfl
   · exact rv_int rfl rfl
   · exact rv_int rfl rfl
theorem fr_Open (b:List UInt8) (hb:b.length ≤ 1000000000):Fn Tryz.prog 65 [.per (bysP b)] (.tup2 (.per (bysP (openF b).1)) (inR (openF b).2)):=by
 have h1:=fr_Next b hb
 unfold openF
 generalize nextF b = q at *
 obtain ⟨x,n,e⟩:=q
 simp only at h1 ⊢
 by_cases c:e = 0 ∧ n < b.length
 · rw [if_pos c]
   obtain ⟨rfl,c⟩:=c
   refine fi Tryz.func65 Tryz.ntmps65 ?_
   (have kc1:=h1;refine w0 ?_;(repeat' first|refine W2.mk ?_ ?_|refine W1.mk fun hc=>?_);all_goals clear kc1)
   refine rt2 ?_ ?_
   · exact rv_nill rfl
   · exact rv_int rfl rfl
 · rw [if_neg c]
   refine fi Tryz.func65 Tryz.ntmps65 ?_
   (have kc1:=h1;refine w0 ?_;(repeat' first|refine W2.mk ?_ ?_|refine W1.mk fun hc=>?_);all_goals clear kc1)
   all_goals first|(exfalso;exact c ⟨by omega,by omega⟩)|skip
   all_goals refine rt2 ?_ ?_
   all_goals first|exact rv_per rfl|exact rv_int rfl rfl
end
section
theorem rcrc_Sum (l:List UInt8) (hl:l.length ≤ 1000000000000):Fn Tryz.prog 56 [bytesB l] (.per (rawP (.int .u32 (crcS l:Nat)))):=by
 unfold crcS
 generalize hF:runS 4294967295 l = F at *
 refine fi Tryz.func56 Tryz.ntmps56 ?_
 (refine w0 ?_;(repeat' first|refine W2.mk ?_ ?_|refine W1.mk fun hc=>?_))
 refine AW_loopP (X:=Nat × Nat) (fun x=>x.1 ≤ l.length ∧ x.2 < 4294967296 ∧ runS x.2 (l.drop x.1) = F)
   (fun x=>mkSt [(0,bytesB l),(3,iC .u32 (x.2:Nat)),(4,iC .i64 (x.1:Nat))] []) (fun x=>l.length - x.1) (0,4294967295) ⟨Nat.zero_le _,by decide,hF⟩ ?_ ?_
 · exact le_auto
 · rintro ⟨i,s⟩ ⟨h1,h2,h3⟩
   simp only at h1 h2 h3 ⊢
   by_cases hi:i < l.length
   · rw [List.drop_eq_getElem_cons hi,runS_cons] at h3
     have hc8:=l[i].toNat_lt
     have hx:=u32_xor_nat s l[i].toNat h2 (by omega)
     have hw:=wrap_u32_byte l[i]
     have hlt:s ^^^ l[i].toNat < 4294967296:=Nat.xor_lt_two_pow (n:=32) (by omega) (by omega)
     have hb0:bytS s l[i] = itS 8 (s ^^^ l[i].toNat):=rfl
     rw [hb0] at h3
     clear hb0
     generalize s ^^^ l[i].toNat = s0 at *
     clear hF
     (repeat' (first|refine AW_seq ?_|refine AW_block ?_|refine AW_skip ?_|refine AW_exit ?_|refine AW_ret ?_|refine AW_region ?_|refine AW_draw mixed0 ?_|refine AL_nil ?_|refine AD_nil (by kernel_rfl) ?_|(refine AW_cl rfl rfl ⟨fun hc=>?_,fun hc=>?_⟩ <;> (repeat rw [List.length_map] at hc) <;> (try exact absd hc))|((first|apply AL_t rfl|apply AL_0 rfl|apply AD_t rfl|apply AD_0 rfl);focus (first|((apply u_k 10;(focus rfl);exact u_conv ⟨rfl,rfl,rfl⟩ rfl inferInstance inferInstance rfl hw))|(apply u_g;(focus rfl);apply op_gyes rfl rfl rfl rfl rfl;((apply u_k 10;(focus rfl);exact u_conv ⟨rfl,rfl,rfl⟩ rfl inferInstance inferInstance rfl hw)))|((exact op_xor ⟨rfl,rfl,rfl⟩ rfl rfl rfl hx))|(apply u_g;(focus rfl);apply op_gyes rfl rfl rfl rfl rfl;((exact op_xor ⟨rfl,rfl,rfl⟩ rfl rfl rfl hx)))|exact z_auto|fail))|refine thenA_n ?_|refine thenA_r ?_|refine thenA_e ?_|refine inB_n ?_|refine inB_r ?_|refine inB_hit ?_|refine inB_miss rfl ?_|((first|refine AL_cl rfl rfl rfl ⟨fun hc=>?_,fun hc=>?_⟩|refine AD_cl rfl rfl rfl ⟨fun hc=>?_,fun hc=>?_⟩) <;> (fail_if_success (have q:(true = true):=hc)) <;> (fail_if_success (have q:(false = false):=hc)) <;> (repeat rw [List.length_map] at hc) <;> (try exact absd hc))|refine AW_cond_nil rfl rfl (fun hc=>?_) ?_))
     refine AW_loopP (X:=Nat × Nat) (fun x=>x.1 ≤ 8 ∧ x.2 < 4294967296 ∧ runS (itS (8 - x.1) x.2) (l.drop (i + 1)) = F)
       (fun x=>mkSt [(0,bytesB l),(3,iC .u32 (x.2:Nat)),(4,iC .i64 (i:Nat)),(5,iC .i64 (x.1:Nat))] []) (fun x=>8 - x.1) (0,s0) ⟨by omega,hlt,h3⟩ ?_ ?_
     · exact le_auto
     · clear hx hw hlt h3 h2 hc8
       rintro ⟨k,s⟩ ⟨h1,h2,h3⟩
       simp only at h1 h2 h3 ⊢
       by_cases hk:k < 8
       · have hX:bits .xor .u32 ((s:Int) / 2) 3988292384 = ((s / 2 ^^^ 3988292384:Nat):Int):=u32_xor_nat (s / 2) 3988292384 (by omega) (by omega)
         have hq:IntKind.u32.wrap ((s:Int).tdiv 2) = (s:Int) / 2:=by
           rw [Int.tdiv_eq_ediv_of_nonneg (by omega),IntKind.wrap_u32'];omega
         have hlt:=bitS_lt h2
         obtain ⟨m,hm⟩:∃ m,8 - k = m + 1:=⟨7 - k,by omega⟩
         rw [hm,itS] at h3
         by_cases hb:s % 2 = 1
         · have e:bitS s = s / 2 ^^^ 3988292384:=by unfold bitS;rw [if_pos hb]
           rw [e] at h3 hlt
           (repeat' (first|refine AW_seq ?_|refine AW_block ?_|refine AW_skip ?_|refine AW_exit ?_|refine AW_ret ?_|refine AW_region ?_|refine AW_draw mixed0 ?_|refine AL_nil ?_|refine AD_nil (by kernel_rfl) ?_|(refine AW_cl rfl rfl ⟨fun hc=>?_,fun hc=>?_⟩ <;> (repeat rw [List.length_map] at hc) <;> (try exact absd hc))|((first|apply AL_t rfl|apply AL_0 rfl|apply AD_t rfl|apply AD_0 rfl);focus (first|((exact op_quo ⟨rfl,rfl,rfl⟩ rfl rfl rfl (by decide) hq))|(apply u_g;(focus rfl);apply op_gyes rfl rfl rfl rfl rfl;((exact op_quo ⟨rfl,rfl,rfl⟩ rfl rfl rfl (by decide) hq)))|exact z_auto|((exact op_xor ⟨rfl,rfl,rfl⟩ rfl rfl rfl hX))|(apply u_g;(focus rfl);apply op_gyes rfl rfl rfl rfl rfl;((exact op_xor ⟨rfl,rfl,rfl⟩ rfl rfl rfl hX)))|fail))|refine thenA_n ?_|refine thenA_r ?_|refine thenA_e ?_|refine inB_n ?_|refine inB_r ?_|refine inB_hit ?_|refine inB_miss rfl ?_|((first|refine AL_cl rfl rfl rfl ⟨fun hc=>?_,fun hc=>?_⟩|refine AD_cl rfl rfl rfl ⟨fun hc=>?_,fun hc=>?_⟩) <;> (fail_if_success (have q:(true = true):=hc)) <;> (fail_if_success (have q:(false = false):=hc)) <;> (repeat rw [List.length_map] at hc) <;> (try exact absd hc))|refine AW_cond_nil rfl rfl (fun hc=>?_) ?_))
           refine ⟨(k + 1,s / 2 ^^^ 3988292384),⟨by simp only;omega,hlt,by simp only;rw [show 8 - (k + 1) = m by omega];exact h3⟩,by simp only;omega,?_⟩
           exact le_auto
         · have e:bitS s = s / 2:=by unfold bitS;rw [if_neg hb]
           rw [e] at h3 hlt
           clear hX
           (repeat' (first|refine AW_seq ?_|refine AW_block ?_|refine AW_skip ?_|refine AW_exit ?_|refine AW_ret ?_|refine AW_region ?_|refine AW_draw mixed0 ?_|refine AL_nil ?_|refine AD_nil (by kernel_rfl) ?_|(refine AW_cl rfl rfl ⟨fun hc=>?_,fun hc=>?_⟩ <;> (repeat rw [List.length_map] at hc) <;> (try exact absd hc))|((first|apply AL_t rfl|apply AL_0 rfl|apply AD_t rfl|apply AD_0 rfl);focus (first|((exact op_quo ⟨rfl,rfl,rfl⟩ rfl rfl rfl (by decide) hq))|(apply u_g;(focus rfl);apply op_gyes rfl rfl rfl rfl rfl;((exact op_quo ⟨rfl,rfl,rfl⟩ rfl rfl rfl (by decide) hq)))|exact z_auto|fail))|refine thenA_n ?_|refine thenA_r ?_|refine thenA_e ?_|refine inB_n ?_|refine inB_r ?_|refine inB_hit ?_|refine inB_miss rfl ?_|((first|refine AL_cl rfl rfl rfl ⟨fun hc=>?_,fun hc=>?_⟩|refine AD_cl rfl rfl rfl ⟨fun hc=>?_,fun hc=>?_⟩) <;> (fail_if_success (have q:(true = true):=hc)) <;> (fail_if_success (have q:(false = false):=hc)) <;> (repeat rw [List.length_map] at hc) <;> (try exact absd hc))|refine AW_cond_nil rfl rfl (fun hc=>?_) ?_))
           refine ⟨(k + 1,s / 2),⟨by simp only;omega,hlt,by simp only;rw [show 8 - (k + 1) = m by omega];exact h3⟩,by simp only;omega,?_⟩
           exact le_auto
       · have hk:k = 8:=by omega
         subst hk
         have h3:runS s (l.drop (i + 1)) = F:=h3
         (refine w0 ?_;(repeat' first|refine W2.mk ?_ ?_|refine W1.mk fun hc=>?_))
         refine ⟨(i + 1,s),⟨by simp only;omega,h2,h3⟩,by simp only;omega,?_⟩
         exact le_auto
   · rw [List.drop_of_length_le (by omega)] at h3
     have h3:s = F:=h3
     subst h3
     have hX:bits .xor .u32 (s:Int) 4294967295 = ((s ^^^ 4294967295:Nat):Int):=u32_xor_nat s 4294967295 h2 (by decide)
     clear hF
     (refine w0 ?_;(repeat' (first|refine W2.mk ?_ ?_|refine W1.mk fun hc=>?_|((first|apply AL_t rfl|apply AL_0 rfl|apply AD_t rfl|apply AD_0 rfl);(focus (first|((exact op_xor ⟨rfl,rfl,rfl⟩ rfl rfl rfl hX))|(apply u_g;(focus rfl);apply op_gyes rfl rfl rfl rfl rfl;first|((exact op_xor ⟨rfl,rfl,rfl⟩ rfl rfl rfl hX)))));refine w0 ?_))))
     refine rt1 ?_
     exact rv_int rfl rfl
theorem rcrc_Tail (s:Nat) (hs:s < 4294967296):Fn Tryz.prog 55 [iC .u32 (s:Nat)] (ownB (tailS s)):=by
 rw [← tlN_4]
 refine fi Tryz.func55 Tryz.ntmps55 ?_
 (refine w0 ?_;(repeat' first|refine W2.mk ?_ ?_|refine W1.mk fun hc=>?_))
 refine AW_le (Le_nil 3 600 5 1 rfl rfl) ?_
 refine AW_loopP (X:=Nat) (fun k=>k ≤ 4) (fun k=>mkSt [(0,iC .u32 (s / 256 ^ k:Nat)),(3,.row 600 0),(4,iC .i64 (k:Nat))] [(600,.row 5 1 ((tlN k s).map byteP))]) (fun k=>4 - k) 0 (by omega) ?_ ?_
 · exact le_auto
 · intro k hk
   by_cases hlt:k < 4
   · have hS:=tlN_succ k s
     have hl:=tlN_len k s
     have hp:s / 256 ^ (k + 1) = s / 256 ^ k / 256:=by rw [Nat.pow_succ,Nat.div_div_eq_div_mul]
     have hb:s / 256 ^ k < 4294967296:=Nat.lt_of_le_of_lt (Nat.div_le_self _ _) hs
     generalize s / 256 ^ k = q at *
     generalize hq':s / 256 ^ (k + 1) = q' at *
     have hW:IntKind.u8.wrap ((q:Int) % 256) = ((UInt8.ofNat q).toNat:Int):=by rw [← wrap_u8_nat,IntKind.wrap_u8',IntKind.wrap_u8'];omega
     have hq:IntKind.u32.wrap ((q:Int).tdiv 256) = (q':Int):=by
       rw [Int.tdiv_eq_ediv_of_nonneg (by omega),IntKind.wrap_u32'];omega
     (repeat' (first|refine AW_seq ?_|refine AW_block ?_|refine AW_skip ?_|refine AW_exit ?_|refine AW_ret ?_|refine AW_region ?_|refine AW_draw mixed0 ?_|refine AL_nil ?_|refine AD_nil (by kernel_rfl) ?_|(refine AW_cl rfl rfl ⟨fun hc=>?_,fun hc=>?_⟩ <;> (repeat rw [List.length_map] at hc) <;> (try exact absd hc))|((first|apply AL_t rfl|apply AL_0 rfl|apply AD_t rfl|apply AD_0 rfl);focus (first|((apply u_k 10;(focus rfl);exact u_conv ⟨rfl,rfl,rfl⟩ rfl inferInstance inferInstance rfl hW))|(apply u_g;(focus rfl);apply op_gyes rfl rfl rfl rfl rfl;((apply u_k 10;(focus rfl);exact u_conv ⟨rfl,rfl,rfl⟩ rfl inferInstance inferInstance rfl hW)))|((exact op_quo ⟨rfl,rfl,rfl⟩ rfl rfl rfl (by decide) hq))|(apply u_g;(focus rfl);apply op_gyes rfl rfl rfl rfl rfl;((exact op_quo ⟨rfl,rfl,rfl⟩ rfl rfl rfl (by decide) hq)))|exact z_auto|fail))|refine thenA_n ?_|refine thenA_r ?_|refine thenA_e ?_|refine inB_n ?_|refine inB_r ?_|refine inB_hit ?_|refine inB_miss rfl ?_|((first|refine AL_cl rfl rfl rfl ⟨fun hc=>?_,fun hc=>?_⟩|refine AD_cl rfl rfl rfl ⟨fun hc=>?_,fun hc=>?_⟩) <;> (fail_if_success (have q:(true = true):=hc)) <;> (fail_if_success (have q:(false = false):=hc)) <;> (repeat rw [List.length_map] at hc) <;> (try exact absd hc))|refine AW_cond_nil rfl rfl (fun hc=>?_) ?_))
     refine ⟨k + 1,by omega,by omega,?_⟩
     rw [hS,hq']
     exact le_auto
   · obtain rfl:k = 4:=by omega
     (refine w0 ?_;(repeat' first|refine W2.mk ?_ ?_|refine W1.mk fun hc=>?_))
     refine rt1 ?_
     exact rv_ownM rfl rfl rfl rfl
theorem rcrc_Whole (b:List UInt8) (hb:b.length ≤ 1000000000):Fn Tryz.prog 137 [bytesB b] (inR (if okW b then ((b.length - 4:Nat):Int) else -1)):=by
 by_cases h4:b.length < 4
 · rw [okW_short h4]
   refine fi Tryz.func137 Tryz.ntmps137 ?_
   (refine w0 ?_;(repeat' first|refine W2.mk ?_ ?_|refine W1.mk fun hc=>?_))
   refine rt1 ?_
   exact rv_int rfl rfl
 obtain ⟨n,hn⟩:∃ n,b.length = n + 4:=⟨b.length - 4,by omega⟩
 rw [okW_long hn,show b.length - 4 = n by omega]
 have h1:=rcrc_Sum (b.take n) (by rw [List.length_take];omega)
 have h2:=(rcrc_Tail _ (crcS_lt (b.take n))).frz
 have hT:(tailS (crcS (b.take n))).length = 4:=rfl
 generalize tailS (crcS (b.take n)) = T at *
 have hN:((b.length:Nat):Int) - 4 = (n:Int):=by omega
 generalize hD:b.drop n = D
 have hDl:D.length = 4:=by rw [← hD,List.length_drop];omega
 have hDg:∀ (k:Nat) (h:k < D.length),b[n + k]'(by omega) = D[k]:=fun k h=>by subst hD;rw [List.getElem_drop]
 refine fi Tryz.func137 Tryz.ntmps137 ?_
 (have ke1:=Lib.hid (hN);have kc1:=h1;have kc2:=h2;refine w0e ?_;(repeat' first|refine W2.mk ?_ ?_|refine W1.mk fun hc=>?_);all_goals clear kc2 kc1 ke1)
 refine AW_loopP (X:=Nat) (fun k=>k ≤ 4 ∧ D.take k = T.take k) (fun k=>mkSt [(0,bytesB b),(3,iC .i64 (n:Nat)),(4,.per (bysP T)),(5,iC .i64 (k:Nat))] []) (fun k=>4 - k) 0 ⟨by omega,rfl⟩ ?_ ?_
 · exact le_auto
 · rintro k ⟨hk,hE⟩
   by_cases hlt:k < 4
   · have hI:(n:Int) + (k:Int) = ((n + k:Nat):Int):=by omega
     have hg:=hDg k (by omega)
     clear h1 h2 hN
     (have ke1:=Lib.hid (hI);refine w0e ?_;(repeat' first|refine W2.mk ?_ ?_|refine W1.mk fun hc=>?_);all_goals clear ke1)
     · have hne:¬ D = T:=fun e=>by
         subst e
         rw [hg] at hc
         exact hc rfl
       rw [decide_eq_false hne]
       refine rt1 ?_
       exact rv_int rfl rfl
     · have e:D[k]'(by omega) = T[k]'(by omega):=by
         rw [← hg];exact UInt8.toNat_inj.1 (by omega)
       refine ⟨k + 1,⟨by omega,take4 hE (by omega) (by omega) e⟩,by omega,?_⟩
       exact le_auto
   · obtain rfl:k = 4:=by omega
     have e:D = T:=by
       rw [← hDl,List.take_length,hDl,← hT,List.take_length] at hE;exact hE
     rw [decide_eq_true e,if_pos rfl]
     clear h1 h2
     (refine w0 ?_;(repeat' first|refine W2.mk ?_ ?_|refine W1.mk fun hc=>?_))
     refine rt1 ?_
     exact rv_int rfl rfl
theorem rfr_Make (l:List UInt8) (hl:l.length ≤ 1000000000):Fn Tryz.prog 20 [bytesB l] (ownB (frB l)):=by
 have hn9:=numI_len (l.length:Int) (by omega)
 have h1:=ref_Bytes (l.length:Int) (by unfold okNum;omega)
 have h2:=rcrc_Sum (frH l) (by rw [frH_len];omega)
 have h3:=rcrc_Tail _ (crcS_lt (frH l))
 have hlen:=frH_len l
 have hT:(tailS (crcS (frH l))).length = 4:=rfl
 have e:frB l = numI (l.length:Nat) ++ l ++ tailS (crcS (frH l)):=rfl
 rw [e]
 clear e
 have e2:frH l = numI (l.length:Nat) ++ l:=rfl
 rw [e2] at h2 h3 hT ⊢
 generalize tailS (crcS (numI (l.length:Nat) ++ l)) = T at *
 generalize numI (l.length:Nat) = N at *
 replace h2:Fn Tryz.prog 56 [.bor 1 (N.map byteP ++ l.map byteP)] (.per (rawP (.int .u32 (crcS (N ++ l):Nat)))):=by rw [← List.map_append];exact h2
 refine fi Tryz.func20 Tryz.ntmps20 ?_
 (have kc1:=h1;have kc2:=h2;have kc3:=h3;refine w0 ?_;(repeat' first|refine W2.mk ?_ ?_|refine W1.mk fun hc=>?_);all_goals clear kc3 kc2 kc1)
 refine rt1 ?_
 refine rv_own rfl rfl ?_
 show _ = Blk.row _ _ ((N ++ l ++ T).map byteP)
 rw [List.map_append,List.map_append];rfl
theorem rfr_Next (b:List UInt8) (hb:b.length ≤ 1000000000):Fn Tryz.prog 99 [.per (bysP b)] (.tup3 (.per (bysP (nextF b).1)) (inR ((nextF b).2.1:Nat)) (inR (nextF b).2.2)):=by
 unfold nextF
 have h1:=rr_num b
 by_cases he:(rdNum b).2.2 ≠ 0
 · rw [if_pos he]
   generalize (rdNum b).2.2 = e at *
   refine fi Tryz.func99 Tryz.ntmps99 ?_
   (have kc1:=h1;refine w0 ?_;(repeat' first|refine W2.mk ?_ ?_|refine W1.mk fun hc=>?_);all_goals clear kc1)
   refine ⟨.inl rfl,res3 rfl ?_ ?_ ?_⟩
   · exact rv_nill rfl
   · exact rv_int rfl rfl
   · exact rv_int rfl rfl
 rw [if_neg he]
 have he:(rdNum b).2.2 = 0:=Decidable.not_not.1 he
 obtain ⟨_,_,hk,hn⟩:=rd_put he
 rw [he] at h1
 generalize (rdNum b).1 = n at *
 generalize (rdNum b).2.1 = k at *
 clear he
 by_cases hm:32768 < n
 · rw [if_pos hm]
   refine fi Tryz.func99 Tryz.ntmps99 ?_
   (have kc1:=h1;refine w0 ?_;(repeat' first|refine W2.mk ?_ ?_|refine W1.mk fun hc=>?_);all_goals clear kc1)
   refine ⟨.inl rfl,res3 rfl ?_ ?_ ?_⟩
   · exact rv_nill rfl
   · exact rv_int rfl rfl
   · exact rv_int rfl rfl
 rw [if_neg hm]
 by_cases hs:b.length < k + n + 4
 · rw [if_pos hs]
   refine fi Tryz.func99 Tryz.ntmps99 ?_
   (have kc1:=h1;refine w0 ?_;(repeat' first|refine W2.mk ?_ ?_|refine W1.mk fun hc=>?_);all_goals clear kc1)
   refine ⟨.inl rfl,res3 rfl ?_ ?_ ?_⟩
   · exact rv_nill rfl
   · exact rv_int rfl rfl
   · exact rv_int rfl rfl
 rw [if_neg hs]
 have h4:=rcrc_Whole (b.take (k + n + 4)) (by rw [List.length_take];omega)
 rw [okW_take (by omega)] at h4
 have hlt:(b.take (k + n + 4)).length - 4 = k + n:=by rw [List.length_take];omega
 rw [hlt] at h4
 by_cases hc4:(b.drop (k + n)).take 4 = tailS (crcS (b.take (k + n)))
 · rw [if_pos hc4]
   rw [decide_eq_true hc4,if_pos rfl] at h4
   clear hc4 hlt
   have hT:(b.drop k).take (k + n - k) = (b.drop k).take n:=by rw [show k + n - k = n by omega]
   refine fi Tryz.func99 Tryz.ntmps99 ?_
   (have kc1:=h1;have kc2:=h4;have ke1:=Lib.hid ((show (k:Int) + (n:Int) = ((k + n:Nat):Int) by omega));have ke2:=Lib.hid ((show ((k + n:Nat):Int) + 4 = ((k + n + 4:Nat):Int) by omega));refine w0e ?_;(repeat' first|refine W2.mk ?_ ?_|refine W1.mk fun hc=>?_);all_goals clear ke2 ke1 kc2 kc1)
   refine ⟨.inl rfl,res3 rfl ?_ ?_ ?_⟩
   · exact rv_lstM rfl hT
   · exact rv_int rfl rfl
   · exact rv_int rfl rfl
 · rw [if_neg hc4]
   rw [decide_eq_false hc4,if_neg (by simp)] at h4
   clear hc4 hlt
   refine fi Tryz.func99 Tryz.ntmps99 ?_
   (have kc1:=h1;have kc2:=h4;have ke1:=Lib.hid ((show (k:Int) + (n:Int) = ((k + n:Nat):Int) by omega));have ke2:=Lib.hid ((show ((k + n:Nat):Int) + 4 = ((k + n + 4:Nat):Int) by omega));refine w0e ?_;(repeat' first|refine W2.mk ?_ ?_|refine W1.mk fun hc=>?_);all_goals clear ke2 ke1 kc2 kc1)
   refine ⟨.inl rfl,res3 rfl ?_ ?_ ?_⟩
   · exact rv_nill rfl
   · exact rv_int rfl rfl
   · exact rv_int rfl rfl
theorem rfr_Open (b:List UInt8) (hb:b.length ≤ 1000000000):Fn Tryz.prog 57 [.per (bysP b)] (.tup2 (.per (bysP (openF b).1)) (inR (openF b).2)):=by
 have h1:=rfr_Next b hb
 unfold openF
 generalize nextF b = q at *
 obtain ⟨x,n,e⟩:=q
 simp only at h1 ⊢
 by_cases c:e = 0 ∧ n < b.length
 · rw [if_pos c]
   obtain ⟨rfl,c⟩:=c
   refine fi Tryz.func57 Tryz.ntmps57 ?_
   (have kc1:=h1;refine w0 ?_;(repeat' first|refine W2.mk ?_ ?_|refine W1.mk fun hc=>?_);all_goals clear kc1)
   refine rt2 ?_ ?_
   · exact rv_nill rfl
   · exact rv_int rfl rfl
 · rw [if_neg c]
   refine fi Tryz.func57 Tryz.ntmps57 ?_
   (have kc1:=h1;refine w0 ?_;(repeat' first|refine W2.mk ?_ ?_|refine W1.mk fun hc=>?_);all_goals clear kc1)
   all_goals first|(exfalso;exact c ⟨by omega,by omega⟩)|skip
   all_goals refine rt2 ?_ ?_
   all_goals first|exact rv_per rfl|exact rv_int rfl rfl
end
end Go.Proofs.YthlffkjpklpkfaaGreat
