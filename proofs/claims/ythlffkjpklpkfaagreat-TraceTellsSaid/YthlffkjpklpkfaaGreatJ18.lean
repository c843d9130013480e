/- Texts joined: Bl. -/
import Derived.Test.YthlffkjpklpkfaaGreatJ17
import Derived.Test.YthlffkjpklpkfaaGreatJ11
import Derived.Test.YthlffkjpklpkfaaGreatJ08
import Derived.Test.YthlffkjpklpkfaaGreatJ07
set_option maxRecDepth 10000
set_option maxHeartbeats 8000000
namespace Go.Proofs.YthlffkjpklpkfaaGreat
open Go.RowKit
/-- a filter that nobody turns -/
abbrev blP (bits probes seed:Int) (row:List UInt8):PV:=rptrP [rawP (.int .i64 bits),rawP (.int .i64 probes),rawP (.int .u64 seed),lstP 1 (row.map byteP)]
abbrev blRow (row:List UInt8):Blk:=.row 5 1 (row.map byteP)
structure BlOk (bits probes:Int) (row:List UInt8):Prop where
 b1:1 ≤ bits
 b2:bits ≤ 4096
 p1:1 ≤ probes
 p2:probes ≤ 8
 len:row.length = (bits.toNat + 7) / 8
theorem zeros_map (n:Nat):List.replicate n [rawP (.int .u8 0)] = (List.replicate n (0:UInt8)).map byteP:=by
 rw [List.map_replicate];rfl
instance (b:Int) (s:List UInt8):Decidable (topBad b s):=by unfold topBad;infer_instance
section
theorem bl_New (bits probes seed:Int) (h1:1 ≤ bits) (h2:bits ≤ 4096) (h3:1 ≤ probes) (h4:probes ≤ 8) :
   FnM Tryz.prog 131 [iC .i64 bits,iC .i64 probes,iC .u64 seed] [] (.tup2 (.ptr 3000 0 0) (iC .i64 0)) [(3000,.box 194 [iC .i64 bits,iC .i64 probes,iC .u64 seed,.row 3001 0]),(3001,blRow (List.replicate ((bits.toNat + 7) / 8) 0))]:=by
 refine fmi Tryz.func131 Tryz.ntmps131 ?_
 (repeat' (first|refine AW_seq ?_|refine AW_block ?_|refine AW_skip ?_|refine AW_exit ?_|refine AW_ret ?_|refine AW_region ?_|refine AW_draw mixed0 ?_|refine AL_nil ?_|refine AD_nil (by kernel_rfl) ?_|(refine AW_cl rfl rfl ⟨fun hc=>?_,fun hc=>?_⟩ <;> (repeat rw [List.length_map] at hc) <;> (try exact absd hc))|((first|apply AL_t rfl|apply AL_0 rfl|apply AD_t rfl|apply AD_0 rfl);focus (first|((exact u_mk (m:=(bits.toNat + 7) / 8) ⟨rfl,rfl,rfl⟩ rfl inferInstance inferInstance rfl rfl rfl rfl (by omega) (by omega)))|(apply u_g;(focus rfl);apply op_gyes rfl rfl rfl rfl rfl;((exact u_mk (m:=(bits.toNat + 7) / 8) ⟨rfl,rfl,rfl⟩ rfl inferInstance inferInstance rfl rfl rfl rfl (by omega) (by omega))))|exact z_auto|fail))|refine thenA_n ?_|refine thenA_r ?_|refine thenA_e ?_|refine inB_n ?_|refine inB_r ?_|refine inB_hit ?_|refine inB_miss rfl ?_|((first|refine AL_cl rfl rfl rfl ⟨fun hc=>?_,fun hc=>?_⟩|refine AD_cl rfl rfl rfl ⟨fun hc=>?_,fun hc=>?_⟩) <;> (fail_if_success (have q:(true = true):=hc)) <;> (fail_if_success (have q:(false = false):=hc)) <;> (repeat rw [List.length_map] at hc) <;> (try exact absd hc))|refine AW_cond_nil rfl rfl (fun hc=>?_) ?_))
 (refine ⟨(by first|exact .inl rfl|exact .inr rfl),resM2 [(31,3000),(29,3001)] rfl rfl ?_ ?_ ?_⟩;(focus (repeat (first|exact AllX.nil|(refine AllX.cons rfl ?_ ?_;(focus first|rfl|skip))))))
 · first|exact congrArg (Blk.row _ 1) (zeros_map _)|exact congrArg (Blk.row _ 1) (zeros_map _).symm
 · exact AllX.nil
 · exact rvm rfl rfl
 · exact rvm_int rfl rfl
def rdBl (b:List UInt8):(Int × Int × List UInt8) × Int:=
 let p:=withinSt 1 4096 b 0
 let q:=withinSt 1 8 p.2.1 p.2.2
 let s:=textSt 281474976710656 q.2.1 q.2.2
 let e:=endSt s.2.1 s.2.2
 if e ≠ 0 then ((0,0,[]),e) else if s.1.length = (p.1.toNat + 7) / 8 ∧ ¬ topBad p.1 s.1 then ((p.1,q.1,s.1),0) else ((0,0,[]),11)
theorem rd_parts {b:List UInt8} {p q:Int × List UInt8 × Int} {s:List UInt8 × List UInt8 × Int} (h1:withinSt 1 4096 b 0 = p) (h2:withinSt 1 8 p.2.1 p.2.2 = q) (h3:textSt 281474976710656 q.2.1 q.2.2 = s) (h4:endSt s.2.1 s.2.2 = 0) :
   1 ≤ p.1 ∧ p.1 ≤ 4096 ∧ 1 ≤ q.1 ∧ q.1 ≤ 8 ∧ s.1.length ≤ b.length:=by
 obtain ⟨s1,s2,s3⟩:=s
 obtain ⟨q1,q2,q3⟩:=q
 obtain ⟨p1,p2,p3⟩:=p
 simp only at h1 h2 h3 h4 ⊢
 obtain ⟨rfl,_⟩:=end_zero h4
 obtain ⟨x,l1,a1,a2,a3,a4,a5⟩:=text_zero h3
 obtain ⟨rfl,_,_,_⟩:=within_zero a1
 obtain ⟨rfl,b1,b2,_⟩:=within_zero h2
 obtain ⟨_,c1,c2,_⟩:=within_zero h1
 refine ⟨c1,c2,b1,b2,?_⟩
 have e1:=(withinSt_suf 1 4096 b 0).length_le
 have e2:=(withinSt_suf 1 8 p2 0).length_le
 have e3:=(withinSt_suf 0 281474976710656 q2 0).length_le
 rw [h1] at e1;rw [h2] at e2;rw [a1] at e3
 simp only at e1 e2 e3
 rw [a2,List.length_take];omega
theorem ba_size (s:List UInt8):(ByteArray.mk s.toArray).size = s.length:=by simp [ByteArray.size]
theorem top_iff {p:Int} {s:List UInt8} (h1:1 ≤ p) (hl:s.length = (p.toNat + 7) / 8):∃ hk:(((ByteArray.mk s.toArray).size:Int) - 1).toNat < (ByteArray.mk s.toArray).data.toList.length,
   (topBad p s ↔ (p % 8 > 0 ∧ (((ByteArray.mk s.toArray).data.toList[(((ByteArray.mk s.toArray).size:Int) - 1).toNat].toNat:Nat):Int) / 2 ^ min (p % 8).toNat IntKind.u8.bits > 0)):=by
 obtain ⟨n,rfl⟩:=Int.eq_ofNat_of_zero_le (show 0 ≤ p by omega)
 have h0:0 < s.length:=by omega
 have e1:(((ByteArray.mk s.toArray).size:Int) - 1).toNat = s.length - 1:=by rw [ba_size];omega
 refine ⟨by rw [e1];show s.length - 1 < s.length;omega,?_⟩
 have e2:((n:Int) % 8).toNat = n % 8:=by omega
 have e3:min (n % 8) IntKind.u8.bits = n % 8:=by show min (n % 8) 8 = _;omega
 have e4:∀ hk,(ByteArray.mk s.toArray).data.toList[(((ByteArray.mk s.toArray).size:Int) - 1).toNat]'hk = s.getD (s.length - 1) 0:=by
   intro hk
   simp only [e1]
   rw [List.getD_eq_getElem?_getD,List.getElem?_eq_getElem (by omega)];rfl
 rw [e4,e2,e3]
 unfold topBad
 rw [Int.toNat_natCast]
 rw [show ((2:Int) ^ (n % 8)) = ((2 ^ (n % 8):Nat):Int) by simp,← Int.natCast_ediv]
 omega
theorem bl_Read_no (b:List UInt8) (hb:b.length ≤ 1000000) (seed:Int) {x:Int × Int × List UInt8} {e:Int} (h:rdBl b = (x,e)) (he:e ≠ 0):Fn Tryz.prog 85 [bytesB b,iC .u64 seed] (.tup2 (.per (rawP (.pointer none))) (inR e)):=by
 dsimp only [rdBl] at h
 have h1:=r_Within b 0 1 4096
 generalize hp:withinSt 1 4096 b 0 = p at *
 have h2:=r_Within p.2.1 p.2.2 1 8
 generalize hq:withinSt 1 8 p.2.1 p.2.2 = q at *
 have h3:=r_Text q.2.1 q.2.2 281474976710656
 generalize hs:textSt 281474976710656 q.2.1 q.2.2 = s at *
 have h4:=r_End s.2.1 s.2.2
 generalize hE:endSt s.2.1 s.2.2 = v at *
 by_cases hv:v = 0
 · subst hv
   obtain ⟨a1,a2,a3,a4,a5⟩:=rd_parts hp hq hs hE
   clear hp hq hs hE
   have h5:=bl_New p.1 q.1 seed a1 a2 a3 a4
   have hSz:=ba_size s.1
   rw [if_neg (by simp)] at h
   split at h
   · exact absurd (congrArg Prod.snd h).symm he
   · rename_i hno
     obtain rfl:(11:Int) = e:=congrArg Prod.snd h
     clear h
     by_cases hlen:s.1.length = (p.1.toNat + 7) / 8
     · obtain ⟨hk,hT⟩:=top_iff a1 hlen
       have hT:=hT.1 (Decidable.of_not_not fun q=>hno ⟨hlen,q⟩)
       generalize hZ:(((ByteArray.mk s.1.toArray).data.toList[(((ByteArray.mk s.1.toArray).size:Int) - 1).toNat]'hk).toNat:Int) / 2 ^ min (p.1 % 8).toNat IntKind.u8.bits = Z at *
       clear hno
       refine fi Tryz.func85 Tryz.ntmps85 ?_
       (repeat' (first|refine AW_seq ?_|refine AW_block ?_|refine AW_skip ?_|refine AW_exit ?_|refine AW_ret ?_|refine AW_region ?_|refine AW_draw mixed0 ?_|refine AL_nil ?_|refine AD_nil (by kernel_rfl) ?_|(refine AW_cl rfl rfl ⟨fun hc=>?_,fun hc=>?_⟩ <;> (repeat rw [List.length_map] at hc) <;> (try exact absd hc))|((first|apply AL_t rfl|apply AL_0 rfl|apply AD_t rfl|apply AD_0 rfl);focus (first|((apply u_k 13;(focus rfl);exact u_sindexZ ⟨rfl,rfl,rfl⟩ rfl inferInstance rfl rfl (by omega) hk))|(apply u_g;(focus rfl);apply op_gyes rfl rfl rfl rfl rfl;((apply u_k 13;(focus rfl);exact u_sindexZ ⟨rfl,rfl,rfl⟩ rfl inferInstance rfl rfl (by omega) hk)))|((exact op_shrB ⟨rfl,rfl,rfl⟩ rfl rfl rfl (by omega) hZ))|(apply u_g;(focus rfl);apply op_gyes rfl rfl rfl rfl rfl;((exact op_shrB ⟨rfl,rfl,rfl⟩ rfl rfl rfl (by omega) hZ)))|exact z_auto|exact c_NA (v_New b (by omega))|exact c_RA (h1)|exact c_RA (h2)|exact c_RA (h3)|exact c_RA (h4)|exact c_MA [(3000,650),(3001,651)] (h5)|fail))|refine thenA_n ?_|refine thenA_r ?_|refine thenA_e ?_|refine inB_n ?_|refine inB_r ?_|refine inB_hit ?_|refine inB_miss rfl ?_|((first|refine AL_cl rfl rfl rfl ⟨fun hc=>?_,fun hc=>?_⟩|refine AD_cl rfl rfl rfl ⟨fun hc=>?_,fun hc=>?_⟩) <;> (fail_if_success (have q:(true = true):=hc)) <;> (fail_if_success (have q:(false = false):=hc)) <;> (repeat rw [List.length_map] at hc) <;> (try exact absd hc))|refine AW_cond_nil rfl rfl (fun hc=>?_) ?_))
       refine rt2 ?_ ?_
       · exact rv_per rfl
       · exact rv_int rfl rfl
     · clear hno
       refine fi Tryz.func85 Tryz.ntmps85 ?_
       (have kn1:=v_New b (by omega);have kr1:=h1;have kr2:=h2;have kr3:=h3;have kr4:=h4;have km1:=(show FnMs [(3000,650),(3001,651)] _ _ _ _ _ _ from h5);refine w0 ?_;(repeat' first|refine W2.mk ?_ ?_|refine W1.mk fun hc=>?_);all_goals clear km1 kr4 kr3 kr2 kr1 kn1)
       · refine rt2 ?_ ?_
         · exact rv_per rfl
         · exact rv_int rfl rfl
       all_goals (exfalso;simp only [List.length_replicate] at *;omega)
 · rw [if_pos hv] at h
   obtain rfl:v = e:=congrArg Prod.snd h
   refine fi Tryz.func85 Tryz.ntmps85 ?_
   (have kn1:=v_New b (by omega);have kr1:=h1;have kr2:=h2;have kr3:=h3;have kr4:=h4;refine w0 ?_;(repeat' first|refine W2.mk ?_ ?_|refine W1.mk fun hc=>?_);all_goals clear kr4 kr3 kr2 kr1 kn1)
   refine rt2 ?_ ?_
   · exact rv_per rfl
   · exact rv_int rfl rfl
theorem bl_Read_ok (b:List UInt8) (hb:b.length ≤ 1000000) (seed:Int) {bits probes:Int} {row:List UInt8} (h:rdBl b = ((bits,probes,row),0)) :
   BlOk bits probes row ∧ Fn Tryz.prog 85 [bytesB b,iC .u64 seed] (.tup2 (.per (blP bits probes seed row)) (inR 0)):=by
 dsimp only [rdBl] at h
 have h1:=r_Within b 0 1 4096
 generalize hp:withinSt 1 4096 b 0 = p at *
 have h2:=r_Within p.2.1 p.2.2 1 8
 generalize hq:withinSt 1 8 p.2.1 p.2.2 = q at *
 have h3:=r_Text q.2.1 q.2.2 281474976710656
 generalize hs:textSt 281474976710656 q.2.1 q.2.2 = s at *
 have h4:=r_End s.2.1 s.2.2
 generalize hE:endSt s.2.1 s.2.2 = v at *
 by_cases hv:v = 0
 · subst hv
   obtain ⟨a1,a2,a3,a4,a5⟩:=rd_parts hp hq hs hE
   clear hp hq hs hE
   rw [if_neg (by simp)] at h
   split at h
   · rename_i hok
     obtain ⟨hlen,hnt⟩:=hok
     simp only [Prod.mk.injEq,and_true] at h
     obtain ⟨rfl,rfl,rfl⟩:=h
     have h5:=bl_New p.1 q.1 seed a1 a2 a3 a4
     have hSz:=ba_size s.1
     refine ⟨⟨a1,a2,a3,a4,hlen⟩,?_⟩
     obtain ⟨hk,hT⟩:=top_iff a1 hlen
     rw [hT] at hnt
     have hlz:(ByteArray.mk s.1.toArray).size = ((List.replicate ((p.1.toNat + 7) / 8) (0:UInt8)).map byteP).length:=by simp [hSz,hlen]
     have hl0:0 < ((List.replicate ((p.1.toNat + 7) / 8) (0:UInt8)).map byteP).length:=by simp;omega
     generalize hZ:(((ByteArray.mk s.1.toArray).data.toList[(((ByteArray.mk s.1.toArray).size:Int) - 1).toNat]'hk).toNat:Int) / 2 ^ min (p.1 % 8).toNat IntKind.u8.bits = Z at *
     clear hT
     refine fi Tryz.func85 Tryz.ntmps85 ?_
     (repeat' (first|refine AW_seq ?_|refine AW_block ?_|refine AW_skip ?_|refine AW_exit ?_|refine AW_ret ?_|refine AW_region ?_|refine AW_draw mixed0 ?_|refine AL_nil ?_|refine AD_nil (by kernel_rfl) ?_|(refine AW_cl rfl rfl ⟨fun hc=>?_,fun hc=>?_⟩ <;> (repeat rw [List.length_map] at hc) <;> (try exact absd hc))|((first|apply AL_t rfl|apply AL_0 rfl|apply AD_t rfl|apply AD_0 rfl);focus (first|((apply u_k 13;(focus rfl);exact u_sindexZ ⟨rfl,rfl,rfl⟩ rfl inferInstance rfl rfl (by omega) hk))|(apply u_g;(focus rfl);apply op_gyes rfl rfl rfl rfl rfl;((apply u_k 13;(focus rfl);exact u_sindexZ ⟨rfl,rfl,rfl⟩ rfl inferInstance rfl rfl (by omega) hk)))|((exact op_shrB ⟨rfl,rfl,rfl⟩ rfl rfl rfl (by omega) hZ))|(apply u_g;(focus rfl);apply op_gyes rfl rfl rfl rfl rfl;((exact op_shrB ⟨rfl,rfl,rfl⟩ rfl rfl rfl (by omega) hZ)))|((exact u_copyS ⟨rfl,rfl,rfl⟩ rfl inferInstance rfl rfl rfl rfl hlz hl0))|(apply u_g;(focus rfl);apply op_gyes rfl rfl rfl rfl rfl;((exact u_copyS ⟨rfl,rfl,rfl⟩ rfl inferInstance rfl rfl rfl rfl hlz hl0)))|exact z_auto|exact c_NA (v_New b (by omega))|exact c_RA (h1)|exact c_RA (h2)|exact c_RA (h3)|exact c_RA (h4)|exact c_MA [(3000,650),(3001,651)] (h5)|fail))|refine thenA_n ?_|refine thenA_r ?_|refine thenA_e ?_|refine inB_n ?_|refine inB_r ?_|refine inB_hit ?_|refine inB_miss rfl ?_|((first|refine AL_cl rfl rfl rfl ⟨fun hc=>?_,fun hc=>?_⟩|refine AD_cl rfl rfl rfl ⟨fun hc=>?_,fun hc=>?_⟩) <;> (fail_if_success (have q:(true = true):=hc)) <;> (fail_if_success (have q:(false = false):=hc)) <;> (repeat rw [List.length_map] at hc) <;> (try exact absd hc))|refine AW_cond_nil rfl rfl (fun hc=>?_) ?_))
     all_goals
       refine ⟨.inl rfl,ResO_le (Le_fz 651 _ 5 1 rfl rfl) (ResO_le (Le_fzB 650 _ _ rfl rfl rfl) (res2 rfl ?_ ?_))⟩
       · exact rv_per rfl
       · exact rv_int rfl rfl
   · exact absurd (congrArg Prod.snd h) (by simp)
 · rw [if_pos hv] at h
   exact absurd (congrArg Prod.snd h) hv
end
end Go.Proofs.YthlffkjpklpkfaaGreat
namespace Go.Proofs.YthlffkjpklpkfaaGreat
open Go.RowKit
def boolP (b:Bool):List PV:=[rawP (.bool b)]
abbrev rblP (bs:List Bool) (probes seed:Int):PV:=aggP [lstP 1 (bs.map boolP),rawP (.int .i64 probes),rawP (.int .u64 seed)]
abbrev rblRow (bs:List Bool):Blk:=.row 4 1 (bs.map boolP)
theorem falses_map (n:Nat):List.replicate n [rawP (.bool false)] = (List.replicate n false).map boolP:=by
 rw [List.map_replicate];rfl
theorem bit_div {x:UInt8} {n:Nat}:(((x.toNat / 2 ^ (n % 8):Nat):Int) % 2 = 1) ↔ (x &&& bitOf n != 0) = true:=by
 have:∀ k:Fin 8,∀ x:Fin 256,((((UInt8.ofNat x.val).toNat / 2 ^ k.val:Nat):Int) % 2 = 1) ↔ (UInt8.ofNat x.val &&& UInt8.ofNat (2 ^ k.val) != 0) = true:=by decide +kernel
 have:=this ⟨n % 8,Nat.mod_lt _ (by decide)⟩ ⟨x.toNat,x.toNat_lt⟩
 simpa [bitOf] using this
section
theorem rb_NewM (n:Nat) (hn:n ≤ 4096) (probes seed:Int):FnM Tryz.prog 91 [iC .i64 (n:Nat),iC .i64 probes,iC .u64 seed] [] (aggOf [.row 3000 0,iC .i64 probes,iC .u64 seed]) [(3000,rblRow (List.replicate n false))]:=by
 refine fmi Tryz.func91 Tryz.ntmps91 ?_
 (repeat' (first|refine AW_seq ?_|refine AW_block ?_|refine AW_skip ?_|refine AW_exit ?_|refine AW_ret ?_|refine AW_region ?_|refine AW_draw mixed0 ?_|refine AL_nil ?_|refine AD_nil (by kernel_rfl) ?_|(refine AW_cl rfl rfl ⟨fun hc=>?_,fun hc=>?_⟩ <;> (repeat rw [List.length_map] at hc) <;> (try exact absd hc))|((first|apply AL_t rfl|apply AL_0 rfl|apply AD_t rfl|apply AD_0 rfl);focus (first|((exact u_mk (m:=n) ⟨rfl,rfl,rfl⟩ rfl inferInstance inferInstance rfl rfl rfl rfl (by omega) (by omega)))|(apply u_g;(focus rfl);apply op_gyes rfl rfl rfl rfl rfl;((exact u_mk (m:=n) ⟨rfl,rfl,rfl⟩ rfl inferInstance inferInstance rfl rfl rfl rfl (by omega) (by omega))))|exact z_auto|fail))|refine thenA_n ?_|refine thenA_r ?_|refine thenA_e ?_|refine inB_n ?_|refine inB_r ?_|refine inB_hit ?_|refine inB_miss rfl ?_|((first|refine AL_cl rfl rfl rfl ⟨fun hc=>?_,fun hc=>?_⟩|refine AD_cl rfl rfl rfl ⟨fun hc=>?_,fun hc=>?_⟩) <;> (fail_if_success (have q:(true = true):=hc)) <;> (fail_if_success (have q:(false = false):=hc)) <;> (repeat rw [List.length_map] at hc) <;> (try exact absd hc))|refine AW_cond_nil rfl rfl (fun hc=>?_) ?_))
 (refine ⟨(by first|exact .inl rfl|exact .inr rfl),resM1 [(8,3000)] rfl rfl ?_ ?_⟩;(focus (repeat (first|exact AllX.nil|(refine AllX.cons rfl ?_ ?_;(focus first|rfl|skip))))))
 · first|exact congrArg (Blk.row _ 1) (falses_map _)|exact congrArg (Blk.row _ 1) (falses_map _).symm
 · exact AllX.nil
 · exact rvm_cellC rfl inferInstance inferInstance rfl rfl rfl rfl rfl rfl
end
end Go.Proofs.YthlffkjpklpkfaaGreat
namespace Go.Proofs.YthlffkjpklpkfaaGreat
open Go.RowKit
def bitsOf (n:Nat) (row:List UInt8):List Bool:=(List.range n).map (hasBit row)
/-- no bit behind the last one -/
def NoTop (n:Nat) (row:List UInt8):Prop:=∀ m,hasBit row m = true → m < n
theorem top_of {bits:Int} {row:List UInt8} (_:1 ≤ bits) (hl:row.length = (bits.toNat + 7) / 8) (h:¬ topBad bits row):NoTop bits.toNat row:=fun m hm=>by
 rcases Nat.lt_or_ge m bits.toNat with q|q
 · exact q
 exfalso
 apply h
 have hm8:m / 8 < row.length:=by
   rcases Nat.lt_or_ge (m / 8) row.length with g|g
   · exact g
   · unfold hasBit at hm
     rw [List.getElem?_eq_none g] at hm
     simp at hm
 have e1:m / 8 = row.length - 1:=by omega
 have e2:0 < bits.toNat % 8:=by omega
 have e3:bits.toNat % 8 ≤ m % 8:=by omega
 refine ⟨e2,?_⟩
 unfold hasBit at hm
 rw [e1] at hm
 rw [List.getD_eq_getElem?_getD]
 generalize row[row.length - 1]?.getD 0 = x at *
 have:∀ j k:Fin 8,∀ x:Fin 256,j ≤ k → (UInt8.ofNat x.val &&& UInt8.ofNat (2 ^ k.val) != 0) = true → 0 < (UInt8.ofNat x.val).toNat / 2 ^ j.val:=by decide +kernel
 have:=this ⟨bits.toNat % 8,Nat.mod_lt _ (by decide)⟩ ⟨m % 8,Nat.mod_lt _ (by decide)⟩ ⟨x.toNat,x.toNat_lt⟩ e3
 simpa [bitOf] using this (by simpa [bitOf] using hm)
theorem no_top {bits:Int} {row:List UInt8} (h1:1 ≤ bits) (hl:row.length = (bits.toNat + 7) / 8) (h:NoTop bits.toNat row):¬ topBad bits row:=not_top h1 hl fun n hn=>by have:=h n hn;omega
/-- the first i bits of a filter -/
def upTo (n:Nat) (row:List UInt8) (i:Nat):List Bool:=(List.range n).map fun m=>decide (m < i) && hasBit row m
theorem upTo_zero (n:Nat) (row:List UInt8):upTo n row 0 = List.replicate n false:=by
 apply List.ext_getElem
 · simp [upTo]
 · intro i h1 h2;simp [upTo]
theorem upTo_len (n:Nat) (row:List UInt8) (i:Nat):(upTo n row i).length = n:=by simp [upTo]
theorem upTo_skip {n:Nat} {row:List UInt8} {i:Nat} (h:hasBit row i = false):upTo n row (i + 1) = upTo n row i:=by
 apply List.ext_getElem
 · simp [upTo]
 · intro j h1 h2
   simp only [upTo,List.getElem_map,List.getElem_range]
   by_cases e:j = i
   · subst e;rw [h];simp
   · congr 1
     rw [decide_eq_decide];omega
theorem upTo_set {n:Nat} {row:List UInt8} {i:Nat} (h:hasBit row i = true):(upTo n row i).set i true = upTo n row (i + 1):=by
 apply List.ext_getElem
 · simp [upTo]
 · intro j h1 h2
   rw [List.getElem_set]
   simp only [upTo,List.getElem_map,List.getElem_range]
   by_cases e:i = j
   · subst e;rw [h];simp
   · rw [if_neg e]
     congr 1
     rw [decide_eq_decide];omega
theorem upTo_all {n:Nat} {row:List UInt8} {i:Nat} (h:n ≤ i):upTo n row i = bitsOf n row:=by
 apply List.ext_getElem
 · simp [upTo,bitsOf]
 · intro j h1 h2
   simp only [upTo,bitsOf,List.getElem_map,List.getElem_range]
   rw [upTo_len] at h1
   rw [decide_eq_true (by omega),Bool.true_and]
abbrev zblP:PV:=aggP [rawP (.slice none 0 0),rawP (.int .i64 0),rawP (.int .u64 0)]
def rdV (x:(Int × Int × List UInt8) × Int) (seed:Int):PV:=if x.2 = 0 then rblP (bitsOf x.1.1.toNat x.1.2.2) x.1.2.1 seed else zblP
section
theorem rb_Read (b:List UInt8) (hb:b.length ≤ 1000000) (seed:Int):Fn Tryz.prog 43 [.per (bysP b),iC .u64 seed] (.tup2 (.per (rdV (rdBl b) seed)) (inR (rdBl b).2)):=by
 have hs0:b <:+ b:=List.suffix_refl b
 have hb':b.length ≤ 1000000000000:=by omega
 generalize hX:rdBl b = X
 dsimp only [rdBl] at hX
 have h1:=rr_Within b b 0 hs0 hb' 1 4096
 have hs1:=(withinSt_suf 1 4096 b 0).trans hs0
 generalize hp:withinSt 1 4096 b 0 = p at *
 have h2:=rr_Within b p.2.1 p.2.2 hs1 hb' 1 8
 have hs2:=(withinSt_suf 1 8 p.2.1 p.2.2).trans hs1
 generalize hq:withinSt 1 8 p.2.1 p.2.2 = q at *
 have h3:=rr_Text b q.2.1 q.2.2 hs2 hb' 281474976710656
 have hs3:=(textSt_suf 281474976710656 q.2.1 q.2.2).trans hs2
 generalize hs:textSt 281474976710656 q.2.1 q.2.2 = s at *
 have h4:=rr_End b s.2.1 s.2.2 hs3
 generalize hE:endSt s.2.1 s.2.2 = v at *
 have e0:((b.length - b.length:Nat):Int) = 0:=by omega
 unfold rrBox at h1
 rw [e0] at h1
 clear hs0 hs1 hs2 hs3
 by_cases hv:v = 0
 · subst hv
   obtain ⟨a1,a2,a3,a4,a5⟩:=rd_parts hp hq hs hE
   clear hp hq hs hE
   rw [if_neg (by simp)] at hX
   obtain ⟨n,hn⟩:=Int.eq_ofNat_of_zero_le (show 0 ≤ p.1 by omega)
   have h5:=rb_NewM n (by omega) q.1 seed
   rw [← hn] at h5
   have hSz:=ba_size s.1
   by_cases hl:s.1.length = (p.1.toNat + 7) / 8
   · have hA:∀ i,hasBit s.1 i = true → n ≤ i → X = ((0,0,[]),11):=fun i hi hni=>by
       rw [← hX,if_neg]
       rintro ⟨_,hnt⟩
       have:=top_of a1 hl hnt i hi
       omega
     have hB:NoTop n s.1 → X = ((p.1,q.1,s.1),0):=fun ht=>by
       rw [← hX,if_pos]
       exact ⟨hl,no_top a1 hl (by rwa [show p.1.toNat = n by omega])⟩
     clear hX
     obtain ⟨S,hS⟩:∃ S:ByteArray,S = ⟨s.1.toArray⟩:=⟨_,rfl⟩
     have hSl:S.data.toList = s.1:=by rw [hS]
     rw [← hS] at h3 hSz
     refine fi Tryz.func43 Tryz.ntmps43 ?_
     (have kr1:=h1;have kr2:=h2;have kr3:=h3;have kr4:=h4;have kn1:=h5;refine w0 ?_;(repeat' first|refine W2.mk ?_ ?_|refine W1.mk fun hc=>?_);all_goals clear kn1 kr4 kr3 kr2 kr1)
     refine AW_loopP (X:=Nat) (fun i=>i ≤ 8 * s.1.length ∧ ∀ m,m < i → hasBit s.1 m = true → m < n)
       (fun i=>mkSt [(4,.ptr 4 0 0),(7,iC .i64 p.1),(9,sC S),(10,.ptr 10 0 0),(11,iC .i64 (i:Nat))] [(4,.box 91 [.per (rawP (.slice none 0 0)),iC .i64 0,iC .u64 0]),(10,.box 91 [.row 32 0,iC .i64 q.1,iC .u64 seed]),(32,rblRow (upTo n s.1 i))]) (fun i=>8 * s.1.length - i) 0 ⟨Nat.zero_le _,fun m hm=>by omega⟩ ?_ ?_
     · rw [upTo_zero]
       exact le_auto
     · rintro i ⟨g1,g2⟩
       clear h1 h2 h3 h4 h5
       by_cases hi:i < 8 * s.1.length
       · have hi8:i / 8 < s.1.length:=by omega
         have hcx:S.data.toList[i / 8]? = some s.1[i / 8]:=by rw [hSl];exact List.getElem?_eq_getElem hi8
         have hz:(i:Int) / 8 = ((i / 8:Nat):Int):=by omega
         have hbd:=@bit_div s.1[i / 8] i
         have hbit:hasBit s.1 i = (s.1[i / 8] &&& bitOf i != 0):=by unfold hasBit;rw [List.getElem?_eq_getElem hi8];rfl
         rw [← hbit] at hbd
         clear hbit
         have hx:=s.1[i / 8].toNat_lt
         generalize s.1[i / 8] = x at *
         (repeat' (first|refine AW_seq ?_|refine AW_block ?_|refine AW_skip ?_|refine AW_exit ?_|refine AW_ret ?_|refine AW_region ?_|refine AW_draw mixed0 ?_|refine AL_nil ?_|refine AD_nil (by kernel_rfl) ?_|(refine AW_cl rfl rfl ⟨fun hc=>?_,fun hc=>?_⟩ <;> (repeat rw [List.length_map] at hc) <;> (try exact absd hc))|((first|apply AL_t rfl|apply AL_0 rfl|apply AD_t rfl|apply AD_0 rfl);focus (first|((apply u_k 13;(focus rfl);exact u_sindex ⟨rfl,rfl,rfl⟩ rfl inferInstance rfl rfl hz hcx))|(apply u_g;(focus rfl);apply op_gyes rfl rfl rfl rfl rfl;((apply u_k 13;(focus rfl);exact u_sindex ⟨rfl,rfl,rfl⟩ rfl inferInstance rfl rfl hz hcx)))|exact z_auto|fail))|refine thenA_n ?_|refine thenA_r ?_|refine thenA_e ?_|refine inB_n ?_|refine inB_r ?_|refine inB_hit ?_|refine inB_miss rfl ?_|((first|refine AL_cl rfl rfl rfl ⟨fun hc=>?_,fun hc=>?_⟩|refine AD_cl rfl rfl rfl ⟨fun hc=>?_,fun hc=>?_⟩) <;> (fail_if_success (have q:(true = true):=hc)) <;> (fail_if_success (have q:(false = false):=hc)) <;> (repeat rw [List.length_map] at hc) <;> (try exact absd hc))|refine AW_cond_nil rfl rfl (fun hc=>?_) ?_))
         refine AW_loopP (X:=Nat × Nat) (fun t=>t.1 ≤ i % 8 ∧ t.2 = x.toNat / 2 ^ t.1)
           (fun t=>mkSt [(4,.ptr 4 0 0),(7,iC .i64 p.1),(9,sC S),(10,.ptr 10 0 0),(11,iC .i64 (i:Nat)),(12,iC .i64 (t.2:Nat)),(13,iC .i64 (t.1:Nat))] [(4,.box 91 [.per (rawP (.slice none 0 0)),iC .i64 0,iC .u64 0]),(10,.box 91 [.row 32 0,iC .i64 q.1,iC .u64 seed]),(32,rblRow (upTo n s.1 i))]) (fun t=>i % 8 - t.1) (0,x.toNat) ⟨Nat.zero_le _,by simp⟩ ?_ ?_
         · exact le_auto
         · rintro ⟨k,y⟩ ⟨hk,hy0⟩
           simp only at hk hy0 ⊢
           by_cases hlt:k < i % 8
           · obtain ⟨z,hz2⟩:∃ z,z = x.toNat / 2 ^ (k + 1):=⟨_,rfl⟩
             have hdv:(y:Int) / 2 = (z:Int):=by
               rw [hz2,hy0,Nat.pow_succ,← Nat.div_div_eq_div_mul];omega
             have hle:y ≤ x.toNat:=by rw [hy0];exact Nat.div_le_self _ _
             clear hy0
             (refine w0 ?_;(repeat' first|refine W2.mk ?_ ?_|refine W1.mk fun hc=>?_))
             refine ⟨(k + 1,z),⟨by simp only;omega,hz2⟩,by simp only;omega,?_⟩
             exact le_auto
           · obtain rfl:k = i % 8:=by omega
             have hle:y ≤ x.toNat:=by rw [hy0];exact Nat.div_le_self _ _
             have HJ:∀ hin:i < n,((upTo n s.1 i).map boolP)[i]? = some (boolP ((upTo n s.1 i)[i]'(by rw [upTo_len];exact hin))):=fun hin=>by rw [List.getElem?_map,List.getElem?_eq_getElem (by rw [upTo_len];exact hin)];rfl
             have hul:=upTo_len n s.1 i
             rw [← hy0] at hbd
             clear hy0
             by_cases hbt:hasBit s.1 i = true
             · have hy:(y:Int) % 2 = 1:=hbd.2 hbt
               by_cases hin:i < n
               · replace HJ:=HJ hin
                 have HS:((upTo n s.1 i).map boolP).set i (setP (boolP ((upTo n s.1 i)[i]'(by rw [upTo_len];exact hin))) 0 (boolP true)) = (upTo n s.1 (i + 1)).map boolP:=by
                   rw [← upTo_set hbt,List.map_set];rfl
                 generalize (upTo n s.1 i)[i]'(by rw [upTo_len];exact hin) = bb at *
                 generalize upTo n s.1 i = U at *
                 (refine w0 ?_;(repeat' (first|refine W2.mk ?_ ?_|refine W1.mk fun hc=>?_|((first|apply AL_t rfl|apply AL_0 rfl|apply AD_t rfl|apply AD_0 rfl);(focus (first|((apply u_k 6;(focus rfl);exact u_store_r ⟨rfl,rfl⟩ rfl inferInstance rfl rfl rfl rfl HJ rfl (part_raw rfl rfl rfl) rfl HS))|(apply u_g;(focus rfl);apply op_gyes rfl rfl rfl rfl rfl;first|((apply u_k 6;(focus rfl);exact u_store_r ⟨rfl,rfl⟩ rfl inferInstance rfl rfl rfl rfl HJ rfl (part_raw rfl rfl rfl) rfl HS)))));refine w0 ?_))))
                 refine ⟨i + 1,⟨by omega,fun m hm hh=>?_⟩,by omega,?_⟩
                 · rcases Nat.lt_or_ge m i with q|q
                   · exact g2 m q hh
                   · omega
                 · exact le_auto
               · have hX:=hA i hbt (by omega)
                 subst hX
                 (refine w0 ?_;(repeat' first|refine W2.mk ?_ ?_|refine W1.mk fun hc=>?_))
                 refine ⟨.inl rfl,res2 rfl ?_ ?_⟩
                 · exact rv_cA inferInstance inferInstance rfl rfl rfl rfl rfl rfl
                 · exact rv_int rfl rfl
             · have hy:¬ (y:Int) % 2 = 1:=fun q=>hbt (hbd.1 q)
               have hsk:=upTo_skip (n:=n) (by simpa using hbt:hasBit s.1 i = false)
               rw [← hsk]
               clear HJ
               (refine w0 ?_;(repeat' first|refine W2.mk ?_ ?_|refine W1.mk fun hc=>?_))
               refine ⟨i + 1,⟨by omega,fun m hm hh=>?_⟩,by omega,?_⟩
               · rcases Nat.lt_or_ge m i with q|q
                 · exact g2 m q hh
                 · obtain rfl:m = i:=by omega
                   exact absurd hh hbt
               · exact le_auto
       · have hi':i = 8 * s.1.length:=by omega
         have hX:=hB fun m hm=>by
           rcases Nat.lt_or_ge m i with q|q
           · exact g2 m q hm
           · exfalso
             unfold hasBit at hm
             rw [List.getElem?_eq_none (by omega)] at hm
             simp at hm
         subst hX
         rw [upTo_all (by omega)]
         have hV:rdV ((p.1,q.1,s.1),0) seed = rblP (bitsOf n s.1) q.1 seed:=by unfold rdV;rw [if_pos rfl,show p.1.toNat = n by omega]
         rw [hV]
         (refine w0 ?_;(repeat' first|refine W2.mk ?_ ?_|refine W1.mk fun hc=>?_))
         refine ⟨.inl rfl,ResO_le (Le_fz 32 _ 4 1 rfl rfl) (res2 rfl ?_ ?_)⟩
         · exact rv_cA inferInstance inferInstance rfl rfl rfl rfl rfl rfl
         · exact rv_int rfl rfl
   · rw [if_neg (fun q=>hl q.1)] at hX
     subst hX
     refine fi Tryz.func43 Tryz.ntmps43 ?_
     (have kr1:=h1;have kr2:=h2;have kr3:=h3;have kr4:=h4;have kn1:=h5;refine w0 ?_;(repeat' first|refine W2.mk ?_ ?_|refine W1.mk fun hc=>?_);all_goals clear kn1 kr4 kr3 kr2 kr1)
     refine ⟨.inl rfl,res2 rfl ?_ ?_⟩
     · exact rv_cA inferInstance inferInstance rfl rfl rfl rfl rfl rfl
     · exact rv_int rfl rfl
 · rw [if_pos hv] at hX
   subst hX
   have hV:rdV ((0,0,[]),v) seed = zblP:=by unfold rdV;rw [if_neg hv]
   rw [hV]
   refine fi Tryz.func43 Tryz.ntmps43 ?_
   (have kr1:=h1;have kr2:=h2;have kr3:=h3;have kr4:=h4;refine w0 ?_;(repeat' first|refine W2.mk ?_ ?_|refine W1.mk fun hc=>?_);all_goals clear kr4 kr3 kr2 kr1)
   refine ⟨.inl rfl,res2 rfl ?_ ?_⟩
   · exact rv_cA inferInstance inferInstance rfl rfl rfl rfl rfl rfl
   · exact rv_int rfl rfl
end
end Go.Proofs.YthlffkjpklpkfaaGreat
