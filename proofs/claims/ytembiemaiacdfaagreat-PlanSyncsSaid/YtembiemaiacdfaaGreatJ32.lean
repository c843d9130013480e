/- Texts joined: Bl. -/
import Derived.Test.YtembiemaiacdfaaGreatJ31
import Derived.Test.YtembiemaiacdfaaGreatJ10
import Derived.Test.YtembiemaiacdfaaGreatJ08
import Derived.Test.YtembiemaiacdfaaGreatJ05
set_option maxRecDepth 10000
set_option maxHeartbeats 8000000
namespace Go.Proofs.YtembiemaiacdfaaGreat
open Go.RowKit
theorem JA {top N:BP} {l:List UInt8} {w:World} {v:Value} (h:dH top N 1 [[p7 l]] w v):Lv w v [l]:=by
 obtain ⟨ad,c,b,of,h1,h2,h3,h4,h5,h6⟩:=h
 obtain ⟨_,q⟩:=h6 0 [p7 l] rfl
 obtain ⟨y,r1,_,r3⟩:=q 0 (p7 l) rfl
 refine ⟨[y],rfl,⟨ad,c,b,of,h1,h2,h3,fun h0=>(h5 h0).1,h4,fun i x hx j u hu=>?_⟩,fun i h h'=>?_⟩
 · cases i with
   | succ i=>simp at hx
   | zero=>
     simp at hx;subst hx
     cases j with
     | succ j=>simp [Hv] at hu
     | zero=>simp [Hv] at hu;subst hu;exact r1
 · obtain rfl:i = 0:=by simp at h;omega
   exact pO r3
theorem JB (seed:Int) (l:List UInt8):Fn Tryz.prog 250 [iC .u64 seed,.bor 1 [[p7 l]]] (.per (aq (.int .u64 (eN seed l)))):=by
 refine ⟨⟨_,Tryz.func250,by kernel_rfl,by kernel_rfl⟩,fun N0 w vs _ ha=>?_⟩
 obtain ⟨v,u,rfl,h1,h2⟩:=Ag ha
 obtain rfl:v = .int .u64 seed:=h1
 refine Calls.mono (zz seed u [l] w (JA h2)) ?_
 rintro e w' ⟨rfl,rfl⟩
 exact ⟨_,rfl,dJ.refl _,by simp;rfl⟩
theorem K7 (seed:Int) (l:List UInt8):Fn Tryz.prog 260 [iC .u64 seed,iw l] (.per (aq (.int .u64 (eN seed l)))):=by
 refine ⟨⟨_,Tryz.func260,by kernel_rfl,by kernel_rfl⟩,fun N0 w vs _ ha=>?_⟩
 obtain ⟨v,u,rfl,h1,h2⟩:=Ag ha
 obtain rfl:v = .int .u64 seed:=h1
 refine Calls.mono (CU seed u l w (pO h2)) ?_
 rintro e w' ⟨rfl,rfl⟩
 exact ⟨_,rfl,dJ.refl _,rfl⟩
abbrev Mp (bits probes seed:Int) (row:List UInt8):PV:=eo [aq (.int .i64 bits),aq (.int .i64 probes),aq (.int .u64 seed),ct 1 (row.map byteP)]
abbrev LZ (row:List UInt8):Blk:=.row 5 1 (row.map byteP)
structure L0 (bits probes:Int) (row:List UInt8):Prop where
 b1:1 ≤ bits
 b2:bits ≤ 4096
 p1:1 ≤ probes
 p2:probes ≤ 8
 len:row.length = (bits.toNat + 7) / 8
theorem sV (n:Nat):List.replicate n [aq (.int .u8 0)] = (List.replicate n (0:UInt8)).map byteP:=by
 rw [List.map_replicate];rfl
theorem GM {row:List UInt8} {bits seed:Int} {l:List UInt8} {k q:Nat} (hk:k < q) (h:cQ row (dr bits seed l (k:Int)) = false):Jx row bits seed l q = false:=by
 rw [Jx,List.all_eq_false]
 exact ⟨k,List.mem_range.2 hk,by simp [h]⟩
theorem GN {row:List UInt8} {m:Nat} (h:m / 8 < row.length):bits BinOp.and IntKind.u8 ((row[m / 8].toNat:Nat):Int) ((2 ^ (m % 8):Nat):Int) = 0 ↔ cQ row m = false:=by
 rw [GI]
 unfold cQ
 rw [List.getElem?_eq_getElem h,Option.getD_some]
 simp only [bne_eq_false_iff_eq]
 constructor
 · intro q;exact UInt8.toNat_inj.1 (by simpa using q)
 · intro q;rw [q];rfl
theorem JC {m:Nat}:IntKind.u8.wrap (1 * 2 ^ min (((m % 8:Nat):Int)).toNat IntKind.u8.bits) = ((2 ^ (m % 8):Nat):Int):=by
 rw [Int.toNat_natCast]
 have h:m % 8 < 8:=Nat.mod_lt _ (by decide)
 have:∀ k:Fin 8,IntKind.u8.wrap (1 * 2 ^ min k.val IntKind.u8.bits) = ((2 ^ k.val:Nat):Int):=by decide
 exact this ⟨m % 8,h⟩
instance (b:Int) (s:List UInt8):Decidable (lj b s):=by unfold lj;infer_instance
section
theorem GP (bits probes seed:Int) (h1:1 ≤ bits) (h2:bits ≤ 4096) (h3:1 ≤ probes) (h4:probes ≤ 8) :
   el Tryz.prog 105 [iC .i64 bits,iC .i64 probes,iC .u64 seed] [] (.tup2 (.ptr 3000 0 0) (iC .i64 0)) [(3000,.box 153 [iC .i64 bits,iC .i64 probes,iC .u64 seed,.row 3001 0]),(3001,LZ (List.replicate ((bits.toNat + 7) / 8) 0))]:=by
 refine fm Tryz.func105 Tryz.ntmps105 ?_
 (repeat' (first|refine cN ?_|refine bD ?_|refine cc ?_|refine cd ?_|refine cO ?_|refine bi ?_|refine db dX ?_|refine cL ?_|refine cM (by kernel_rfl) ?_|(refine gw rfl rfl ⟨fun hc=>?_,fun hc=>?_⟩ <;> (repeat rw [List.length_map] at hc) <;> (try exact dy hc))|((first|apply aD rfl|apply aF rfl|apply aG rfl|apply aH rfl);focus (first|((exact Jv (m:=(bits.toNat + 7) / 8) ⟨rfl,rfl,rfl⟩ rfl inferInstance inferInstance rfl rfl rfl rfl (by omega) (by omega)))|(apply bx;(focus rfl);apply ag rfl rfl rfl rfl rfl;((exact Jv (m:=(bits.toNat + 7) / 8) ⟨rfl,rfl,rfl⟩ rfl inferInstance inferInstance rfl rfl rfl rfl (by omega) (by omega))))|exact dY|fail))|refine ce ?_|refine cg ?_|refine ci ?_|refine d8 ?_|refine d9 ?_|refine cj ?_|refine bF rfl ?_|((first|refine gx rfl rfl rfl ⟨fun hc=>?_,fun hc=>?_⟩|refine gy rfl rfl rfl ⟨fun hc=>?_,fun hc=>?_⟩) <;> (fail_if_success (have q:(true = true):=hc)) <;> (fail_if_success (have q:(false = false):=hc)) <;> (repeat rw [List.length_map] at hc) <;> (try exact dy hc))|refine br rfl rfl (fun hc=>?_) ?_))
 (refine ⟨(by first|exact .inl rfl|exact .inr rfl),Ad [(31,3000),(29,3001)] rfl rfl ?_ ?_ ?_⟩;(focus (repeat (first|exact ay.nil|(refine ay.cons rfl ?_ ?_;(focus first|rfl|skip))))))
 · first|exact congrArg (Blk.row _ 1) (sV _)|exact congrArg (Blk.row _ 1) (sV _).symm
 · exact ay.nil
 · exact Lr rfl rfl
 · exact bf rfl rfl
theorem GQ (r c:Int) (hr:fC r) (hc:fC c):Fn Tryz.prog 211 [lZ r c] (yx (gP r c)):=by
 have h:=pV [] [r,c] (by simp) (LY hr hc)
 rw [List.nil_append,A3] at h
 refine fi Tryz.func211 Tryz.ntmps211 ?_
 (have kc1:=h;refine w0 ?_;(repeat' first|refine W2.mk ?_ ?_|refine W1.mk fun hc=>?_);all_goals clear kc1)
 refine aQ ?_
 exact dq rfl rfl rfl rfl
theorem GR (bits probes seed:Int) (row l:List UInt8) (i:Nat) (hi:i ≤ 1000) (h1:1 ≤ bits) (h2:bits ≤ 4096) :
   Fn Tryz.prog 212 [.per (Mp bits probes seed row),.per (p7 l),iC .i64 (i:Nat)] (.tup2 (fL ((dr bits seed l i / 8:Nat):Int)) (.per (aq (.int .u8 ((2 ^ (dr bits seed l i % 8):Nat):Int))))):=by
 have hlt:=jO bits seed l i h1
 have hwi:IntKind.u64.wrap (i:Int) = (i:Int):=io (by omega) (by omega)
 have hH:=JB (IntKind.u64.wrap (seed + i)) l
 have hP:(eN (IntKind.u64.wrap (seed + i)) l).tmod bits = ((dr bits seed l i:Nat):Int):=by
   have hnn:0 ≤ eN (IntKind.u64.wrap (seed + i)) l:=by unfold eN oG;exact pA _ _
   unfold dr
   rw [hwi,Int.tmod_eq_emod_of_nonneg hnn,Int.toNat_of_nonneg (Int.emod_nonneg _ (by omega))]
 have hsh:=@JC (dr bits seed l i)
 generalize eN (IntKind.u64.wrap (seed + i)) l = H at *
 generalize dr bits seed l i = m at *
 have hm8:((m / 8:Nat):Int) = (m:Int) / 8:=by omega
 have hm9:((m % 8:Nat):Int) = (m:Int) % 8:=by omega
 rw [hm9] at hsh
 rw [hm8]
 refine fi Tryz.func212 Tryz.ntmps212 ?_
 (repeat' (first|refine cN ?_|refine bD ?_|refine cc ?_|refine cd ?_|refine cO ?_|refine bi ?_|refine db dX ?_|refine cL ?_|refine cM (by kernel_rfl) ?_|(refine gw rfl rfl ⟨fun hc=>?_,fun hc=>?_⟩ <;> (repeat rw [List.length_map] at hc) <;> (try exact dy hc))|((first|apply aD rfl|apply aF rfl|apply aG rfl|apply aH rfl);focus (first|((apply az 10;(focus rfl);exact gJ ⟨rfl,rfl,rfl⟩ rfl inferInstance inferInstance rfl (by with_reducible exact io (by omega) (by omega))))|(apply bx;(focus rfl);apply ag rfl rfl rfl rfl rfl;((apply az 10;(focus rfl);exact gJ ⟨rfl,rfl,rfl⟩ rfl inferInstance inferInstance rfl (by with_reducible exact io (by omega) (by omega)))))|((apply az 8;(focus rfl);exact fT ⟨rfl,rfl,rfl⟩ rfl rfl rfl rfl ((bU (by omega) (by omega)).trans (by assumption))))|(apply bx;(focus rfl);apply ag rfl rfl rfl rfl rfl;((apply az 8;(focus rfl);exact fT ⟨rfl,rfl,rfl⟩ rfl rfl rfl rfl ((bU (by omega) (by omega)).trans (by assumption)))))|((exact nQ ⟨rfl,rfl,rfl⟩ rfl rfl rfl (by omega) hP))|(apply bx;(focus rfl);apply ag rfl rfl rfl rfl rfl;((exact nQ ⟨rfl,rfl,rfl⟩ rfl rfl rfl (by omega) hP)))|((exact GC ⟨rfl,rfl,rfl⟩ rfl rfl rfl (by omega) hsh))|(apply bx;(focus rfl);apply ag rfl rfl rfl rfl rfl;((exact GC ⟨rfl,rfl,rfl⟩ rfl rfl rfl (by omega) hsh)))|exact dY|exact oP (hH)|fail))|refine ce ?_|refine cg ?_|refine ci ?_|refine d8 ?_|refine d9 ?_|refine cj ?_|refine bF rfl ?_|((first|refine gx rfl rfl rfl ⟨fun hc=>?_,fun hc=>?_⟩|refine gy rfl rfl rfl ⟨fun hc=>?_,fun hc=>?_⟩) <;> (fail_if_success (have q:(true = true):=hc)) <;> (fail_if_success (have q:(false = false):=hc)) <;> (repeat rw [List.length_map] at hc) <;> (try exact dy hc))|refine br rfl rfl (fun hc=>?_) ?_))
 refine j8 ?_ ?_
 · exact aA rfl rfl
 · exact aA rfl rfl
theorem K8 (bits probes seed:Int) (row:List UInt8) (hb:L0 bits probes row) (r c:Int):Fn Tryz.prog 186 [.per (Mp bits probes seed row),lZ r c] (bO (xe row bits probes seed r c)):=by
 obtain ⟨b1,b2,p1,p2,hlen⟩:=hb
 have h1:=eA r c
 cases hr:cI r c with
 | false=>
   rw [hr] at h1
   rw [show xe row bits probes seed r c = false by unfold xe;rw [hr];rfl]
   refine fi Tryz.func186 Tryz.ntmps186 ?_
   (have kc1:=h1;refine w0 ?_;(repeat' first|refine W2.mk ?_ ?_|refine W1.mk fun hc=>?_);all_goals clear kc1)
   refine aQ ?_
   exact af rfl rfl
 | true=>
   rw [hr] at h1
   obtain ⟨o1,o2⟩:=GH hr
   have h2:=(GQ r c o1 o2).frz
   rw [show xe row bits probes seed r c = Jx row bits seed (gP r c) probes.toNat by unfold xe;rw [hr];rfl]
   generalize gP r c = l at *
   refine fi Tryz.func186 Tryz.ntmps186 ?_
   (have kc1:=h1;have kc2:=h2;refine w0 ?_;(repeat' first|refine W2.mk ?_ ?_|refine W1.mk fun hc=>?_);all_goals clear kc2 kc1)
   refine ah (X:=Nat) (fun k=>(k:Int) ≤ probes ∧ Jx row bits seed l k = true)
     (fun k=>aN [(0,.per (Mp bits probes seed row)),(5,.per (p7 l)),(28,iC .i64 probes),(29,iC .i64 (k:Nat))] []) (fun k=>probes.toNat - k) 0 ⟨by omega,rfl⟩ ?_ ?_
   · exact ab
   · rintro k ⟨hk,hP⟩
     by_cases hlt:(k:Int) < probes
     · have h3:=GR bits probes seed row l k (by omega) b1 b2
       have hml:=jO bits seed l k b1
       have hs1:=GJ row bits seed l k
       have hs2:=@GM row bits seed l k probes.toNat (by omega)
       rw [hP,Bool.true_and] at hs1
       generalize dr bits seed l k = m at *
       have hm8:m / 8 < row.length:=by omega
       have haz:=GN hm8
       clear h1 h2 hP
       (repeat' (first|refine cN ?_|refine bD ?_|refine cc ?_|refine cd ?_|refine cO ?_|refine bi ?_|refine db dX ?_|refine cL ?_|refine cM (by kernel_rfl) ?_|(refine gw rfl rfl ⟨fun hc=>?_,fun hc=>?_⟩ <;> (repeat rw [List.length_map] at hc) <;> (try exact dy hc))|((first|apply aD rfl|apply aF rfl|apply aG rfl|apply aH rfl);focus (first|((exact GB ⟨rfl,rfl,rfl⟩ rfl rfl rfl rfl))|(apply bx;(focus rfl);apply ag rfl rfl rfl rfl rfl;((exact GB ⟨rfl,rfl,rfl⟩ rfl rfl rfl rfl)))|exact dY|exact oP (h3)|fail))|refine ce ?_|refine cg ?_|refine ci ?_|refine d8 ?_|refine d9 ?_|refine cj ?_|refine bF rfl ?_|((first|refine gx rfl rfl rfl ⟨fun hc=>?_,fun hc=>?_⟩|refine gy rfl rfl rfl ⟨fun hc=>?_,fun hc=>?_⟩) <;> (fail_if_success (have q:(true = true):=hc)) <;> (fail_if_success (have q:(false = false):=hc)) <;> (repeat rw [List.length_map] at hc) <;> (try exact dy hc))|refine br rfl rfl (fun hc=>?_) ?_))
       · rw [hs2 (haz.1 hc)]
         refine aQ ?_
         exact af rfl rfl
       · have hm1:cQ row m = true:=by
           cases hh:cQ row m with
           | true=>rfl
           | false=>exact absurd (haz.2 hh) hc
         rw [hm1] at hs1
         refine ⟨k + 1,⟨by omega,hs1⟩,by omega,?_⟩
         exact ab
     · have hkp:probes.toNat = k:=by omega
       rw [hkp,hP]
       (refine w0 ?_;(repeat' first|refine W2.mk ?_ ?_|refine W1.mk fun hc=>?_))
       refine aQ ?_
       exact af rfl rfl
def rc (b:List UInt8):(Int × Int × List UInt8) × Int:=
 let p:=aL 1 4096 b 0
 let q:=aL 1 8 p.2.1 p.2.2
 let s:=dL 281474976710656 q.2.1 q.2.2
 let e:=kS s.2.1 s.2.2
 if e ≠ 0 then ((0,0,[]),e) else if s.1.length = (p.1.toNat + 7) / 8 ∧ ¬ lj p.1 s.1 then ((p.1,q.1,s.1),0) else ((0,0,[]),11)
theorem nv {b:List UInt8} {p q:Int × List UInt8 × Int} {s:List UInt8 × List UInt8 × Int} (h1:aL 1 4096 b 0 = p) (h2:aL 1 8 p.2.1 p.2.2 = q) (h3:dL 281474976710656 q.2.1 q.2.2 = s) (h4:kS s.2.1 s.2.2 = 0) :
   1 ≤ p.1 ∧ p.1 ≤ 4096 ∧ 1 ≤ q.1 ∧ q.1 ≤ 8 ∧ s.1.length ≤ b.length:=by
 obtain ⟨s1,s2,s3⟩:=s
 obtain ⟨q1,q2,q3⟩:=q
 obtain ⟨p1,p2,p3⟩:=p
 simp only at h1 h2 h3 h4 ⊢
 obtain ⟨rfl,_⟩:=xf h4
 obtain ⟨x,l1,a1,a2,a3,a4,a5⟩:=sU h3
 obtain ⟨rfl,_,_,_⟩:=ey a1
 obtain ⟨rfl,b1,b2,_⟩:=ey h2
 obtain ⟨_,c1,c2,_⟩:=ey h1
 refine ⟨c1,c2,b1,b2,?_⟩
 have e1:=(dz 1 4096 b 0).length_le
 have e2:=(dz 1 8 p2 0).length_le
 have e3:=(dz 0 281474976710656 q2 0).length_le
 rw [h1] at e1;rw [h2] at e2;rw [a1] at e3
 simp only at e1 e2 e3
 rw [a2,List.length_take];omega
theorem nx (s:List UInt8):(ByteArray.mk s.toArray).size = s.length:=by simp [ByteArray.size]
theorem A4 {p:Int} {s:List UInt8} (h1:1 ≤ p) (hl:s.length = (p.toNat + 7) / 8):∃ hk:(((ByteArray.mk s.toArray).size:Int) - 1).toNat < (ByteArray.mk s.toArray).data.toList.length,
   (lj p s ↔ (p % 8 > 0 ∧ (((ByteArray.mk s.toArray).data.toList[(((ByteArray.mk s.toArray).size:Int) - 1).toNat].toNat:Nat):Int) / 2 ^ min (p % 8).toNat IntKind.u8.bits > 0)):=by
 obtain ⟨n,rfl⟩:=Int.eq_ofNat_of_zero_le (show 0 ≤ p by omega)
 have h0:0 < s.length:=by omega
 have e1:(((ByteArray.mk s.toArray).size:Int) - 1).toNat = s.length - 1:=by rw [nx];omega
 refine ⟨by rw [e1];show s.length - 1 < s.length;omega,?_⟩
 have e2:((n:Int) % 8).toNat = n % 8:=by omega
 have e3:min (n % 8) IntKind.u8.bits = n % 8:=by show min (n % 8) 8 = _;omega
 have e4:∀ hk,(ByteArray.mk s.toArray).data.toList[(((ByteArray.mk s.toArray).size:Int) - 1).toNat]'hk = s.getD (s.length - 1) 0:=by
   intro hk
   simp only [e1]
   rw [List.getD_eq_getElem?_getD,List.getElem?_eq_getElem (by omega)];rfl
 rw [e4,e2,e3]
 unfold lj
 rw [Int.toNat_natCast]
 rw [show ((2:Int) ^ (n % 8)) = ((2 ^ (n % 8):Nat):Int) by simp,← Int.natCast_ediv]
 omega
theorem zF (b:List UInt8) (hb:b.length ≤ 1000000) (seed:Int) {x:Int × Int × List UInt8} {e:Int} (h:rc b = (x,e)) (he:e ≠ 0):Fn Tryz.prog 55 [iw b,iC .u64 seed] (.tup2 (.per (aq (.pointer none))) (fL e)):=by
 dsimp only [rc] at h
 have h1:=kT b 0 1 4096
 generalize hp:aL 1 4096 b 0 = p at *
 have h2:=kT p.2.1 p.2.2 1 8
 generalize hq:aL 1 8 p.2.1 p.2.2 = q at *
 have h3:=EY q.2.1 q.2.2 281474976710656
 generalize hs:dL 281474976710656 q.2.1 q.2.2 = s at *
 have h4:=J3 s.2.1 s.2.2
 generalize hE:kS s.2.1 s.2.2 = v at *
 by_cases hv:v = 0
 · subst hv
   obtain ⟨a1,a2,a3,a4,a5⟩:=nv hp hq hs hE
   clear hp hq hs hE
   have h5:=GP p.1 q.1 seed a1 a2 a3 a4
   have hSz:=nx s.1
   rw [if_neg (by simp)] at h
   split at h
   · exact absurd (congrArg Prod.snd h).symm he
   · rename_i hno
     obtain rfl:(11:Int) = e:=congrArg Prod.snd h
     clear h
     by_cases hlen:s.1.length = (p.1.toNat + 7) / 8
     · obtain ⟨hk,hT⟩:=A4 a1 hlen
       have hT:=hT.1 (Decidable.of_not_not fun q=>hno ⟨hlen,q⟩)
       generalize hZ:(((ByteArray.mk s.1.toArray).data.toList[(((ByteArray.mk s.1.toArray).size:Int) - 1).toNat]'hk).toNat:Int) / 2 ^ min (p.1 % 8).toNat IntKind.u8.bits = Z at *
       clear hno
       refine fi Tryz.func55 Tryz.ntmps55 ?_
       (repeat' (first|refine cN ?_|refine bD ?_|refine cc ?_|refine cd ?_|refine cO ?_|refine bi ?_|refine db dX ?_|refine cL ?_|refine cM (by kernel_rfl) ?_|(refine gw rfl rfl ⟨fun hc=>?_,fun hc=>?_⟩ <;> (repeat rw [List.length_map] at hc) <;> (try exact dy hc))|((first|apply aD rfl|apply aF rfl|apply aG rfl|apply aH rfl);focus (first|((apply az 13;(focus rfl);exact jy ⟨rfl,rfl,rfl⟩ rfl inferInstance rfl rfl (by omega) hk))|(apply bx;(focus rfl);apply ag rfl rfl rfl rfl rfl;((apply az 13;(focus rfl);exact jy ⟨rfl,rfl,rfl⟩ rfl inferInstance rfl rfl (by omega) hk)))|((exact pz ⟨rfl,rfl,rfl⟩ rfl rfl rfl (by omega) hZ))|(apply bx;(focus rfl);apply ag rfl rfl rfl rfl rfl;((exact pz ⟨rfl,rfl,rfl⟩ rfl rfl rfl (by omega) hZ)))|exact dY|exact ED (Ao b (by omega))|exact j9 (h1)|exact j9 (h2)|exact j9 (h3)|exact j9 (h4)|exact LI [(3000,650),(3001,651)] (h5)|fail))|refine ce ?_|refine cg ?_|refine ci ?_|refine d8 ?_|refine d9 ?_|refine cj ?_|refine bF rfl ?_|((first|refine gx rfl rfl rfl ⟨fun hc=>?_,fun hc=>?_⟩|refine gy rfl rfl rfl ⟨fun hc=>?_,fun hc=>?_⟩) <;> (fail_if_success (have q:(true = true):=hc)) <;> (fail_if_success (have q:(false = false):=hc)) <;> (repeat rw [List.length_map] at hc) <;> (try exact dy hc))|refine br rfl rfl (fun hc=>?_) ?_))
       refine j8 ?_ ?_
       · exact cu rfl
       · exact aA rfl rfl
     · clear hno
       refine fi Tryz.func55 Tryz.ntmps55 ?_
       (have kn1:=Ao b (by omega);have kr1:=h1;have kr2:=h2;have kr3:=h3;have kr4:=h4;have km1:=(show bv [(3000,650),(3001,651)] _ _ _ _ _ _ from h5);refine w0 ?_;(repeat' first|refine W2.mk ?_ ?_|refine W1.mk fun hc=>?_);all_goals clear km1 kr4 kr3 kr2 kr1 kn1)
       · refine j8 ?_ ?_
         · exact cu rfl
         · exact aA rfl rfl
       all_goals (exfalso;simp only [List.length_replicate] at *;omega)
 · rw [if_pos hv] at h
   obtain rfl:v = e:=congrArg Prod.snd h
   refine fi Tryz.func55 Tryz.ntmps55 ?_
   (have kn1:=Ao b (by omega);have kr1:=h1;have kr2:=h2;have kr3:=h3;have kr4:=h4;refine w0 ?_;(repeat' first|refine W2.mk ?_ ?_|refine W1.mk fun hc=>?_);all_goals clear kr4 kr3 kr2 kr1 kn1)
   refine j8 ?_ ?_
   · exact cu rfl
   · exact aA rfl rfl
theorem zG (b:List UInt8) (hb:b.length ≤ 1000000) (seed:Int) {bits probes:Int} {row:List UInt8} (h:rc b = ((bits,probes,row),0)) :
   L0 bits probes row ∧ Fn Tryz.prog 55 [iw b,iC .u64 seed] (.tup2 (.per (Mp bits probes seed row)) (fL 0)):=by
 dsimp only [rc] at h
 have h1:=kT b 0 1 4096
 generalize hp:aL 1 4096 b 0 = p at *
 have h2:=kT p.2.1 p.2.2 1 8
 generalize hq:aL 1 8 p.2.1 p.2.2 = q at *
 have h3:=EY q.2.1 q.2.2 281474976710656
 generalize hs:dL 281474976710656 q.2.1 q.2.2 = s at *
 have h4:=J3 s.2.1 s.2.2
 generalize hE:kS s.2.1 s.2.2 = v at *
 by_cases hv:v = 0
 · subst hv
   obtain ⟨a1,a2,a3,a4,a5⟩:=nv hp hq hs hE
   clear hp hq hs hE
   rw [if_neg (by simp)] at h
   split at h
   · rename_i hok
     obtain ⟨hlen,hnt⟩:=hok
     simp only [Prod.mk.injEq,and_true] at h
     obtain ⟨rfl,rfl,rfl⟩:=h
     have h5:=GP p.1 q.1 seed a1 a2 a3 a4
     have hSz:=nx s.1
     refine ⟨⟨a1,a2,a3,a4,hlen⟩,?_⟩
     obtain ⟨hk,hT⟩:=A4 a1 hlen
     rw [hT] at hnt
     have hlz:(ByteArray.mk s.1.toArray).size = ((List.replicate ((p.1.toNat + 7) / 8) (0:UInt8)).map byteP).length:=by simp [hSz,hlen]
     have hl0:0 < ((List.replicate ((p.1.toNat + 7) / 8) (0:UInt8)).map byteP).length:=by simp;omega
     generalize hZ:(((ByteArray.mk s.1.toArray).data.toList[(((ByteArray.mk s.1.toArray).size:Int) - 1).toNat]'hk).toNat:Int) / 2 ^ min (p.1 % 8).toNat IntKind.u8.bits = Z at *
     clear hT
     refine fi Tryz.func55 Tryz.ntmps55 ?_
     (repeat' (first|refine cN ?_|refine bD ?_|refine cc ?_|refine cd ?_|refine cO ?_|refine bi ?_|refine db dX ?_|refine cL ?_|refine cM (by kernel_rfl) ?_|(refine gw rfl rfl ⟨fun hc=>?_,fun hc=>?_⟩ <;> (repeat rw [List.length_map] at hc) <;> (try exact dy hc))|((first|apply aD rfl|apply aF rfl|apply aG rfl|apply aH rfl);focus (first|((apply az 13;(focus rfl);exact jy ⟨rfl,rfl,rfl⟩ rfl inferInstance rfl rfl (by omega) hk))|(apply bx;(focus rfl);apply ag rfl rfl rfl rfl rfl;((apply az 13;(focus rfl);exact jy ⟨rfl,rfl,rfl⟩ rfl inferInstance rfl rfl (by omega) hk)))|((exact pz ⟨rfl,rfl,rfl⟩ rfl rfl rfl (by omega) hZ))|(apply bx;(focus rfl);apply ag rfl rfl rfl rfl rfl;((exact pz ⟨rfl,rfl,rfl⟩ rfl rfl rfl (by omega) hZ)))|((exact A1 ⟨rfl,rfl,rfl⟩ rfl inferInstance rfl rfl rfl rfl hlz hl0))|(apply bx;(focus rfl);apply ag rfl rfl rfl rfl rfl;((exact A1 ⟨rfl,rfl,rfl⟩ rfl inferInstance rfl rfl rfl rfl hlz hl0)))|exact dY|exact ED (Ao b (by omega))|exact j9 (h1)|exact j9 (h2)|exact j9 (h3)|exact j9 (h4)|exact LI [(3000,650),(3001,651)] (h5)|fail))|refine ce ?_|refine cg ?_|refine ci ?_|refine d8 ?_|refine d9 ?_|refine cj ?_|refine bF rfl ?_|((first|refine gx rfl rfl rfl ⟨fun hc=>?_,fun hc=>?_⟩|refine gy rfl rfl rfl ⟨fun hc=>?_,fun hc=>?_⟩) <;> (fail_if_success (have q:(true = true):=hc)) <;> (fail_if_success (have q:(false = false):=hc)) <;> (repeat rw [List.length_map] at hc) <;> (try exact dy hc))|refine br rfl rfl (fun hc=>?_) ?_))
     all_goals
       refine ⟨.inl rfl,j7 (iv 651 _ 5 1 rfl rfl) (j7 (tH 650 _ _ rfl rfl rfl) (ve rfl ?_ ?_))⟩
       · exact cu rfl
       · exact aA rfl rfl
   · exact absurd (congrArg Prod.snd h) (by simp)
 · rw [if_pos hv] at h
   exact absurd (congrArg Prod.snd h) hv
end
end Go.Proofs.YtembiemaiacdfaaGreat
namespace Go.Proofs.YtembiemaiacdfaaGreat
open Go.RowKit
def boolP (b:Bool):List PV:=[aq (.bool b)]
abbrev CV (bs:List Bool) (probes seed:Int):PV:=bP [ct 1 (bs.map boolP),aq (.int .i64 probes),aq (.int .u64 seed)]
abbrev zH (bs:List Bool):Blk:=.row 4 1 (bs.map boolP)
theorem re (n:Nat):List.replicate n [aq (.bool false)] = (List.replicate n false).map boolP:=by
 rw [List.map_replicate];rfl
theorem JD {x:UInt8} {n:Nat}:(((x.toNat / 2 ^ (n % 8):Nat):Int) % 2 = 1) ↔ (x &&& jP n != 0) = true:=by
 have:∀ k:Fin 8,∀ x:Fin 256,((((UInt8.ofNat x.val).toNat / 2 ^ k.val:Nat):Int) % 2 = 1) ↔ (UInt8.ofNat x.val &&& UInt8.ofNat (2 ^ k.val) != 0) = true:=by decide +kernel
 have:=this ⟨n % 8,Nat.mod_lt _ (by decide)⟩ ⟨x.toNat,x.toNat_lt⟩
 simpa [jP] using this
section
theorem JE (n:Nat) (hn:n ≤ 4096) (probes seed:Int):el Tryz.prog 109 [iC .i64 (n:Nat),iC .i64 probes,iC .u64 seed] [] (mT [.row 3000 0,iC .i64 probes,iC .u64 seed]) [(3000,zH (List.replicate n false))]:=by
 refine fm Tryz.func109 Tryz.ntmps109 ?_
 (repeat' (first|refine cN ?_|refine bD ?_|refine cc ?_|refine cd ?_|refine cO ?_|refine bi ?_|refine db dX ?_|refine cL ?_|refine cM (by kernel_rfl) ?_|(refine gw rfl rfl ⟨fun hc=>?_,fun hc=>?_⟩ <;> (repeat rw [List.length_map] at hc) <;> (try exact dy hc))|((first|apply aD rfl|apply aF rfl|apply aG rfl|apply aH rfl);focus (first|((exact Jv (m:=n) ⟨rfl,rfl,rfl⟩ rfl inferInstance inferInstance rfl rfl rfl rfl (by omega) (by omega)))|(apply bx;(focus rfl);apply ag rfl rfl rfl rfl rfl;((exact Jv (m:=n) ⟨rfl,rfl,rfl⟩ rfl inferInstance inferInstance rfl rfl rfl rfl (by omega) (by omega))))|exact dY|fail))|refine ce ?_|refine cg ?_|refine ci ?_|refine d8 ?_|refine d9 ?_|refine cj ?_|refine bF rfl ?_|((first|refine gx rfl rfl rfl ⟨fun hc=>?_,fun hc=>?_⟩|refine gy rfl rfl rfl ⟨fun hc=>?_,fun hc=>?_⟩) <;> (fail_if_success (have q:(true = true):=hc)) <;> (fail_if_success (have q:(false = false):=hc)) <;> (repeat rw [List.length_map] at hc) <;> (try exact dy hc))|refine br rfl rfl (fun hc=>?_) ?_))
 (refine ⟨(by first|exact .inl rfl|exact .inr rfl),bR [(8,3000)] rfl rfl ?_ ?_⟩;(focus (repeat (first|exact ay.nil|(refine ay.cons rfl ?_ ?_;(focus first|rfl|skip))))))
 · first|exact congrArg (Blk.row _ 1) (re _)|exact congrArg (Blk.row _ 1) (re _).symm
 · exact ay.nil
 · exact BV rfl inferInstance inferInstance rfl rfl rfl rfl rfl rfl
theorem GU (bs:List Bool) (probes seed r c:Int) (i:Nat) (hi:i ≤ 1000) (h1:1 ≤ bs.length) (h2:bs.length ≤ 4096) (hr:fC r) (hc:fC c) :
   Fn Tryz.prog 234 [.per (CV bs probes seed),lZ r c,iC .i64 (i:Nat)] (fL ((dr bs.length seed (gP r c) i:Nat):Int)):=by
 have hlt:=jO bs.length seed (gP r c) i (by omega)
 have hwi:IntKind.u64.wrap (i:Int) = (i:Int):=io (by omega) (by omega)
 have hp:=IL [r,c] (by simp) (LY hr hc)
 rw [A3] at hp
 have hH:=K7 (IntKind.u64.wrap (seed + i)) (gP r c)
 have hP:(eN (IntKind.u64.wrap (seed + i)) (gP r c)).tmod bs.length = ((dr bs.length seed (gP r c) i:Nat):Int):=by
   have hnn:0 ≤ eN (IntKind.u64.wrap (seed + i)) (gP r c):=by unfold eN oG;exact pA _ _
   unfold dr
   rw [hwi,Int.tmod_eq_emod_of_nonneg hnn,Int.toNat_of_nonneg (Int.emod_nonneg _ (by omega))]
 generalize eN (IntKind.u64.wrap (seed + i)) (gP r c) = H at *
 generalize dr bs.length seed (gP r c) i = m at *
 generalize gP r c = l at *
 have hmm:(m:Int) = (m:Int):=rfl
 refine fi Tryz.func234 Tryz.ntmps234 ?_
 (repeat' (first|refine cN ?_|refine bD ?_|refine cc ?_|refine cd ?_|refine cO ?_|refine bi ?_|refine db dX ?_|refine cL ?_|refine cM (by kernel_rfl) ?_|(refine gw rfl rfl ⟨fun hc=>?_,fun hc=>?_⟩ <;> (repeat rw [List.length_map] at hc) <;> (try exact dy hc))|((first|apply aD rfl|apply aF rfl|apply aG rfl|apply aH rfl);focus (first|((apply az 10;(focus rfl);exact gJ ⟨rfl,rfl,rfl⟩ rfl inferInstance inferInstance rfl (by with_reducible exact io (by omega) (by omega))))|(apply bx;(focus rfl);apply ag rfl rfl rfl rfl rfl;((apply az 10;(focus rfl);exact gJ ⟨rfl,rfl,rfl⟩ rfl inferInstance inferInstance rfl (by with_reducible exact io (by omega) (by omega)))))|((apply az 10;(focus rfl);exact gJ ⟨rfl,rfl,rfl⟩ rfl inferInstance inferInstance rfl (by with_reducible exact bU (by omega) (by omega))))|(apply bx;(focus rfl);apply ag rfl rfl rfl rfl rfl;((apply az 10;(focus rfl);exact gJ ⟨rfl,rfl,rfl⟩ rfl inferInstance inferInstance rfl (by with_reducible exact bU (by omega) (by omega)))))|((exact nQ ⟨rfl,rfl,rfl⟩ rfl rfl rfl (by omega) hP))|(apply bx;(focus rfl);apply ag rfl rfl rfl rfl rfl;((exact nQ ⟨rfl,rfl,rfl⟩ rfl rfl rfl (by omega) hP)))|exact dY|exact oP (hp)|exact oP (hH)|fail))|refine ce ?_|refine cg ?_|refine ci ?_|refine d8 ?_|refine d9 ?_|refine cj ?_|refine bF rfl ?_|((first|refine gx rfl rfl rfl ⟨fun hc=>?_,fun hc=>?_⟩|refine gy rfl rfl rfl ⟨fun hc=>?_,fun hc=>?_⟩) <;> (fail_if_success (have q:(true = true):=hc)) <;> (fail_if_success (have q:(false = false):=hc)) <;> (repeat rw [List.length_map] at hc) <;> (try exact dy hc))|refine br rfl rfl (fun hc=>?_) ?_))
 refine aQ ?_
 exact aA rfl rfl
theorem K9 (bs:List Bool) (probes seed r c:Int) (h1:1 ≤ bs.length) (h2:bs.length ≤ 4096) (p1:0 ≤ probes) (p2:probes ≤ 8):Fn Tryz.prog 199 [.per (CV bs probes seed),lZ r c] (bO (rb bs bs.length probes seed r c)):=by
 have hv:=dZ r c
 cases hr:cI r c with
 | false=>
   rw [hr] at hv
   rw [show rb bs bs.length probes seed r c = false by unfold rb;rw [hr];rfl]
   refine fi Tryz.func199 Tryz.ntmps199 ?_
   (have kc1:=hv;refine w0 ?_;(repeat' first|refine W2.mk ?_ ?_|refine W1.mk fun hc=>?_);all_goals clear kc1)
   refine aQ ?_
   exact af rfl rfl
 | true=>
   rw [hr] at hv
   obtain ⟨o1,o2⟩:=GH hr
   rw [show rb bs bs.length probes seed r c = nu bs bs.length seed (gP r c) probes.toNat by unfold rb;rw [hr];rfl]
   refine fi Tryz.func199 Tryz.ntmps199 ?_
   (have kc1:=hv;refine w0 ?_;(repeat' first|refine W2.mk ?_ ?_|refine W1.mk fun hc=>?_);all_goals clear kc1)
   refine ah (X:=Nat) (fun k=>(k:Int) ≤ probes ∧ nu bs bs.length seed (gP r c) k = true)
     (fun k=>aN [(2,.ptr 2 0 0),(3,.ptr 3 0 0),(5,iC .i64 (k:Nat))] [(2,.box 50 [.per (ct 1 (bs.map boolP)),iC .i64 probes,iC .u64 seed]),(3,.box 59 [iC .i64 r,iC .i64 c])]) (fun k=>probes.toNat - k) 0 ⟨by omega,rfl⟩ ?_ ?_
   · exact ab
   · rintro k ⟨hk,hP⟩
     by_cases hlt:(k:Int) < probes
     · have h3:=GU bs probes seed r c k (by omega) h1 h2 o1 o2
       have hml:=jO bs.length seed (gP r c) k (by omega)
       have hs1:=zC bs bs.length seed (gP r c) k
       have hs2:=@zD bs bs.length seed (gP r c) k probes.toNat (by omega)
       rw [hP,Bool.true_and] at hs1
       generalize dr bs.length seed (gP r c) k = m at *
       have hm8:m < bs.length:=by omega
       have hg:bs.getD m false = bs[m]:=by rw [List.getD_eq_getElem?_getD,List.getElem?_eq_getElem hm8];rfl
       rw [hg] at hs1 hs2
       clear hv hP hg
       (have kc1:=h3;refine w0 ?_;(repeat' first|refine W2.mk ?_ ?_|refine W1.mk fun hc=>?_);all_goals clear kc1)
       · rw [hs2 (by assumption)]
         refine aQ ?_
         exact af rfl rfl
       · rename_i hc
         refine ⟨k + 1,⟨by omega,hs1.trans hc⟩,by omega,?_⟩
         exact ab
     · have hkp:probes.toNat = k:=by omega
       rw [hkp,hP]
       (refine w0 ?_;(repeat' first|refine W2.mk ?_ ?_|refine W1.mk fun hc=>?_))
       refine aQ ?_
       exact af rfl rfl
end
end Go.Proofs.YtembiemaiacdfaaGreat
namespace Go.Proofs.YtembiemaiacdfaaGreat
open Go.RowKit
def fJ (n:Nat) (row:List UInt8):List Bool:=(List.range n).map (cQ row)
theorem ks (n:Nat) (row:List UInt8):(fJ n row).length = n:=by simp [fJ]
theorem xg {n:Nat} {row:List UInt8} {m:Nat} (h:m < n):(fJ n row).getD m false = cQ row m:=by
 simp [fJ,h]
def A5 (n:Nat) (row:List UInt8):Prop:=∀ m,cQ row m = true → m < n
theorem zI {n:Nat} {row:List UInt8} (h1:1 ≤ n) (probes seed r c:Int):rb (fJ n row) n probes seed r c = xe row n probes seed r c:=by
 unfold rb xe
 congr 1
 unfold nu Jx
 rw [Bool.eq_iff_iff,List.all_eq_true,List.all_eq_true]
 have:∀ i:Nat,(fJ n row).getD (dr n seed (gP r c) i) false = cQ row (dr n seed (gP r c) i):=fun i=>xg (by have:=jO n seed (gP r c) i (by omega);omega)
 simp only [this]
theorem GV {bits:Int} {row:List UInt8} (_:1 ≤ bits) (hl:row.length = (bits.toNat + 7) / 8) (h:¬ lj bits row):A5 bits.toNat row:=fun m hm=>by
 rcases Nat.lt_or_ge m bits.toNat with q|q
 · exact q
 exfalso
 apply h
 have hm8:m / 8 < row.length:=by
   rcases Nat.lt_or_ge (m / 8) row.length with g|g
   · exact g
   · unfold cQ at hm
     rw [List.getElem?_eq_none g] at hm
     simp at hm
 have e1:m / 8 = row.length - 1:=by omega
 have e2:0 < bits.toNat % 8:=by omega
 have e3:bits.toNat % 8 ≤ m % 8:=by omega
 refine ⟨e2,?_⟩
 unfold cQ at hm
 rw [e1] at hm
 rw [List.getD_eq_getElem?_getD]
 generalize row[row.length - 1]?.getD 0 = x at *
 have:∀ j k:Fin 8,∀ x:Fin 256,j ≤ k → (UInt8.ofNat x.val &&& UInt8.ofNat (2 ^ k.val) != 0) = true → 0 < (UInt8.ofNat x.val).toNat / 2 ^ j.val:=by decide +kernel
 have:=this ⟨bits.toNat % 8,Nat.mod_lt _ (by decide)⟩ ⟨m % 8,Nat.mod_lt _ (by decide)⟩ ⟨x.toNat,x.toNat_lt⟩ e3
 simpa [jP] using this (by simpa [jP] using hm)
theorem La {bits:Int} {row:List UInt8} (h1:1 ≤ bits) (hl:row.length = (bits.toNat + 7) / 8) (h:A5 bits.toNat row):¬ lj bits row:=Jz h1 hl fun n hn=>by have:=h n hn;omega
theorem CX {b:List UInt8} {bits probes:Int} {row:List UInt8} (h:rc b = ((bits,probes,row),0)):GK bits probes row = b ∧ row.length = (bits.toNat + 7) / 8 ∧ 1 ≤ bits ∧ bits ≤ 4096 ∧ 1 ≤ probes ∧ probes ≤ 8 ∧ A5 bits.toNat row:=by
 dsimp only [rc] at h
 generalize hp:aL 1 4096 b 0 = p at *
 generalize hq:aL 1 8 p.2.1 p.2.2 = q at *
 generalize hs:dL 281474976710656 q.2.1 q.2.2 = s at *
 split at h
 · rename_i hne;exact absurd (congrArg Prod.snd h) hne
 · rename_i he
   have he:=Decidable.of_not_not he
   obtain ⟨a1,a2,a3,a4,a5⟩:=nv hp hq hs he
   split at h
   · rename_i hok
     obtain ⟨hl,hnt⟩:=hok
     simp only [Prod.mk.injEq,and_true] at h
     obtain ⟨rfl,rfl,rfl⟩:=h
     refine ⟨?_,hl,a1,a2,a3,a4,GV a1 hl hnt⟩
     obtain ⟨s1,s2,s3⟩:=s
     obtain ⟨q1,q2,q3⟩:=q
     obtain ⟨p1,p2,p3⟩:=p
     simp only at hp hq hs he ⊢
     obtain ⟨rfl,rfl⟩:=xf he
     obtain ⟨x,l1,b1,b2,b3,b4,b5⟩:=sU hs
     obtain ⟨rfl,_,_,b6⟩:=ey b1
     obtain ⟨rfl,_,_,c6⟩:=ey hq
     obtain ⟨_,_,_,d6⟩:=ey hp
     have e1:=(p6 (l:=b) (e:=0) (by rw [d6])).2.2
     have e2:=(p6 (l:=p2) (e:=0) (by rw [c6])).2.2
     have e3:=(p6 (l:=q2) (e:=0) (by rw [b6])).2.2
     rw [d6] at e1;rw [c6] at e2;rw [b6] at e3
     simp only at e1 e2 e3
     have e4:x.toNat = l1.length:=by
       have:=congrArg List.length b3
       rw [List.length_drop,List.length_nil] at this
       omega
     have e5:s1 = l1:=by rw [b2,e4,List.take_length]
     subst e5
     have e6:x = (s1.length:Int):=by omega
     rw [e1,e2,e3,e6]
     unfold GK fq
     rw [nx]
     simp [g8]
   · exact absurd (congrArg Prod.snd h) (by simp)
def gQ (n:Nat) (row:List UInt8) (i:Nat):List Bool:=(List.range n).map fun m=>decide (m < i) && cQ row m
theorem CY (n:Nat) (row:List UInt8):gQ n row 0 = List.replicate n false:=by
 apply List.ext_getElem
 · simp [gQ]
 · intro i h1 h2;simp [gQ]
theorem jQ (n:Nat) (row:List UInt8) (i:Nat):(gQ n row i).length = n:=by simp [gQ]
theorem CZ {n:Nat} {row:List UInt8} {i:Nat} (h:cQ row i = false):gQ n row (i + 1) = gQ n row i:=by
 apply List.ext_getElem
 · simp [gQ]
 · intro j h1 h2
   simp only [gQ,List.getElem_map,List.getElem_range]
   by_cases e:j = i
   · subst e;rw [h];simp
   · congr 1
     rw [decide_eq_decide];omega
theorem GW {n:Nat} {row:List UInt8} {i:Nat} (h:cQ row i = true):(gQ n row i).set i true = gQ n row (i + 1):=by
 apply List.ext_getElem
 · simp [gQ]
 · intro j h1 h2
   rw [List.getElem_set]
   simp only [gQ,List.getElem_map,List.getElem_range]
   by_cases e:i = j
   · subst e;rw [h];simp
   · rw [if_neg e]
     congr 1
     rw [decide_eq_decide];omega
theorem GX {n:Nat} {row:List UInt8} {i:Nat} (h:n ≤ i):gQ n row i = fJ n row:=by
 apply List.ext_getElem
 · simp [gQ,fJ]
 · intro j h1 h2
   simp only [gQ,fJ,List.getElem_map,List.getElem_range]
   rw [jQ] at h1
   rw [decide_eq_true (by omega),Bool.true_and]
abbrev zblP:PV:=bP [aq (.slice none 0 0),aq (.int .i64 0),aq (.int .u64 0)]
def Kc (x:(Int × Int × List UInt8) × Int) (seed:Int):PV:=if x.2 = 0 then CV (fJ x.1.1.toNat x.1.2.2) x.1.2.1 seed else zblP
section
theorem JF (b:List UInt8) (hb:b.length ≤ 1000000) (seed:Int):Fn Tryz.prog 56 [.per (p7 b),iC .u64 seed] (.tup2 (.per (Kc (rc b) seed)) (fL (rc b).2)):=by
 have hs0:b <:+ b:=List.suffix_refl b
 have hb':b.length ≤ 1000000000000:=by omega
 generalize hX:rc b = X
 dsimp only [rc] at hX
 have h1:=n9 b b 0 hs0 hb' 1 4096
 have hs1:=(dz 1 4096 b 0).trans hs0
 generalize hp:aL 1 4096 b 0 = p at *
 have h2:=n9 b p.2.1 p.2.2 hs1 hb' 1 8
 have hs2:=(dz 1 8 p.2.1 p.2.2).trans hs1
 generalize hq:aL 1 8 p.2.1 p.2.2 = q at *
 have h3:=IR b q.2.1 q.2.2 hs2 hb' 281474976710656
 have hs3:=(yI 281474976710656 q.2.1 q.2.2).trans hs2
 generalize hs:dL 281474976710656 q.2.1 q.2.2 = s at *
 have h4:=KH b s.2.1 s.2.2 hs3
 generalize hE:kS s.2.1 s.2.2 = v at *
 have e0:((b.length - b.length:Nat):Int) = 0:=by omega
 unfold qa at h1
 rw [e0] at h1
 clear hs0 hs1 hs2 hs3
 by_cases hv:v = 0
 · subst hv
   obtain ⟨a1,a2,a3,a4,a5⟩:=nv hp hq hs hE
   clear hp hq hs hE
   rw [if_neg (by simp)] at hX
   obtain ⟨n,hn⟩:=Int.eq_ofNat_of_zero_le (show 0 ≤ p.1 by omega)
   have h5:=JE n (by omega) q.1 seed
   rw [← hn] at h5
   have hSz:=nx s.1
   by_cases hl:s.1.length = (p.1.toNat + 7) / 8
   · have hA:∀ i,cQ s.1 i = true → n ≤ i → X = ((0,0,[]),11):=fun i hi hni=>by
       rw [← hX,if_neg]
       rintro ⟨_,hnt⟩
       have:=GV a1 hl hnt i hi
       omega
     have hB:A5 n s.1 → X = ((p.1,q.1,s.1),0):=fun ht=>by
       rw [← hX,if_pos]
       exact ⟨hl,La a1 hl (by rwa [show p.1.toNat = n by omega])⟩
     clear hX
     obtain ⟨S,hS⟩:∃ S:ByteArray,S = ⟨s.1.toArray⟩:=⟨_,rfl⟩
     have hSl:S.data.toList = s.1:=by rw [hS]
     rw [← hS] at h3 hSz
     refine fi Tryz.func56 Tryz.ntmps56 ?_
     (have kr1:=h1;have kr2:=h2;have kr3:=h3;have kr4:=h4;have kn1:=h5;refine w0 ?_;(repeat' first|refine W2.mk ?_ ?_|refine W1.mk fun hc=>?_);all_goals clear kn1 kr4 kr3 kr2 kr1)
     refine ah (X:=Nat) (fun i=>i ≤ 8 * s.1.length ∧ ∀ m,m < i → cQ s.1 m = true → m < n)
       (fun i=>aN [(4,.ptr 4 0 0),(7,iC .i64 p.1),(9,sC S),(10,.ptr 10 0 0),(11,iC .i64 (i:Nat))] [(4,.box 50 [.per (aq (.slice none 0 0)),iC .i64 0,iC .u64 0]),(10,.box 50 [.row 32 0,iC .i64 q.1,iC .u64 seed]),(32,zH (gQ n s.1 i))]) (fun i=>8 * s.1.length - i) 0 ⟨Nat.zero_le _,fun m hm=>by omega⟩ ?_ ?_
     · rw [CY]
       exact ab
     · rintro i ⟨g1,g2⟩
       clear h1 h2 h3 h4 h5
       by_cases hi:i < 8 * s.1.length
       · have hi8:i / 8 < s.1.length:=by omega
         have hcx:S.data.toList[i / 8]? = some s.1[i / 8]:=by rw [hSl];exact List.getElem?_eq_getElem hi8
         have hz:(i:Int) / 8 = ((i / 8:Nat):Int):=by omega
         have hbd:=@JD s.1[i / 8] i
         have hbit:cQ s.1 i = (s.1[i / 8] &&& jP i != 0):=by unfold cQ;rw [List.getElem?_eq_getElem hi8];rfl
         rw [← hbit] at hbd
         clear hbit
         have hx:=s.1[i / 8].toNat_lt
         generalize s.1[i / 8] = x at *
         (repeat' (first|refine cN ?_|refine bD ?_|refine cc ?_|refine cd ?_|refine cO ?_|refine bi ?_|refine db dX ?_|refine cL ?_|refine cM (by kernel_rfl) ?_|(refine gw rfl rfl ⟨fun hc=>?_,fun hc=>?_⟩ <;> (repeat rw [List.length_map] at hc) <;> (try exact dy hc))|((first|apply aD rfl|apply aF rfl|apply aG rfl|apply aH rfl);focus (first|((apply az 13;(focus rfl);exact gu ⟨rfl,rfl,rfl⟩ rfl inferInstance rfl rfl hz hcx))|(apply bx;(focus rfl);apply ag rfl rfl rfl rfl rfl;((apply az 13;(focus rfl);exact gu ⟨rfl,rfl,rfl⟩ rfl inferInstance rfl rfl hz hcx)))|exact dY|fail))|refine ce ?_|refine cg ?_|refine ci ?_|refine d8 ?_|refine d9 ?_|refine cj ?_|refine bF rfl ?_|((first|refine gx rfl rfl rfl ⟨fun hc=>?_,fun hc=>?_⟩|refine gy rfl rfl rfl ⟨fun hc=>?_,fun hc=>?_⟩) <;> (fail_if_success (have q:(true = true):=hc)) <;> (fail_if_success (have q:(false = false):=hc)) <;> (repeat rw [List.length_map] at hc) <;> (try exact dy hc))|refine br rfl rfl (fun hc=>?_) ?_))
         refine ah (X:=Nat × Nat) (fun t=>t.1 ≤ i % 8 ∧ t.2 = x.toNat / 2 ^ t.1)
           (fun t=>aN [(4,.ptr 4 0 0),(7,iC .i64 p.1),(9,sC S),(10,.ptr 10 0 0),(11,iC .i64 (i:Nat)),(12,iC .i64 (t.2:Nat)),(13,iC .i64 (t.1:Nat))] [(4,.box 50 [.per (aq (.slice none 0 0)),iC .i64 0,iC .u64 0]),(10,.box 50 [.row 32 0,iC .i64 q.1,iC .u64 seed]),(32,zH (gQ n s.1 i))]) (fun t=>i % 8 - t.1) (0,x.toNat) ⟨Nat.zero_le _,by simp⟩ ?_ ?_
         · exact ab
         · rintro ⟨k,y⟩ ⟨hk,hy0⟩
           simp only at hk hy0 ⊢
           by_cases hlt:k < i % 8
           · obtain ⟨z,hz2⟩:∃ z,z = x.toNat / 2 ^ (k + 1):=⟨_,rfl⟩
             have hdv:(y:Int) / 2 = (z:Int):=by
               rw [hz2,hy0,Nat.pow_succ,← Nat.div_div_eq_div_mul];omega
             have hle:y ≤ x.toNat:=by rw [hy0];exact Nat.div_le_self _ _
             clear hy0
             (refine w0 ?_;(repeat' first|refine W2.mk ?_ ?_|refine W1.mk fun hc=>?_))
             refine ⟨(k + 1,z),⟨by simp only;omega,hz2⟩,by simp only;omega,?_⟩
             exact ab
           · obtain rfl:k = i % 8:=by omega
             have hle:y ≤ x.toNat:=by rw [hy0];exact Nat.div_le_self _ _
             have HJ:∀ hin:i < n,((gQ n s.1 i).map boolP)[i]? = some (boolP ((gQ n s.1 i)[i]'(by rw [jQ];exact hin))):=fun hin=>by rw [List.getElem?_map,List.getElem?_eq_getElem (by rw [jQ];exact hin)];rfl
             have hul:=jQ n s.1 i
             rw [← hy0] at hbd
             clear hy0
             by_cases hbt:cQ s.1 i = true
             · have hy:(y:Int) % 2 = 1:=hbd.2 hbt
               by_cases hin:i < n
               · replace HJ:=HJ hin
                 have HS:((gQ n s.1 i).map boolP).set i (bI (boolP ((gQ n s.1 i)[i]'(by rw [jQ];exact hin))) 0 (boolP true)) = (gQ n s.1 (i + 1)).map boolP:=by
                   rw [← GW hbt,List.map_set];rfl
                 generalize (gQ n s.1 i)[i]'(by rw [jQ];exact hin) = bb at *
                 generalize gQ n s.1 i = U at *
                 (refine w0 ?_;(repeat' (first|refine W2.mk ?_ ?_|refine W1.mk fun hc=>?_|((first|apply aD rfl|apply aF rfl|apply aG rfl|apply aH rfl);(focus (first|((apply az 6;(focus rfl);exact al ⟨rfl,rfl⟩ rfl inferInstance rfl rfl rfl rfl HJ rfl (aK rfl rfl rfl) rfl HS))|(apply bx;(focus rfl);apply ag rfl rfl rfl rfl rfl;first|((apply az 6;(focus rfl);exact al ⟨rfl,rfl⟩ rfl inferInstance rfl rfl rfl rfl HJ rfl (aK rfl rfl rfl) rfl HS)))));refine w0 ?_))))
                 refine ⟨i + 1,⟨by omega,fun m hm hh=>?_⟩,by omega,?_⟩
                 · rcases Nat.lt_or_ge m i with q|q
                   · exact g2 m q hh
                   · omega
                 · exact ab
               · have hX:=hA i hbt (by omega)
                 subst hX
                 (refine w0 ?_;(repeat' first|refine W2.mk ?_ ?_|refine W1.mk fun hc=>?_))
                 refine ⟨.inl rfl,ve rfl ?_ ?_⟩
                 · exact cq inferInstance inferInstance rfl rfl rfl rfl rfl rfl
                 · exact aA rfl rfl
             · have hy:¬ (y:Int) % 2 = 1:=fun q=>hbt (hbd.1 q)
               have hsk:=CZ (n:=n) (by simpa using hbt:cQ s.1 i = false)
               rw [← hsk]
               clear HJ
               (refine w0 ?_;(repeat' first|refine W2.mk ?_ ?_|refine W1.mk fun hc=>?_))
               refine ⟨i + 1,⟨by omega,fun m hm hh=>?_⟩,by omega,?_⟩
               · rcases Nat.lt_or_ge m i with q|q
                 · exact g2 m q hh
                 · obtain rfl:m = i:=by omega
                   exact absurd hh hbt
               · exact ab
       · have hi':i = 8 * s.1.length:=by omega
         have hX:=hB fun m hm=>by
           rcases Nat.lt_or_ge m i with q|q
           · exact g2 m q hm
           · exfalso
             unfold cQ at hm
             rw [List.getElem?_eq_none (by omega)] at hm
             simp at hm
         subst hX
         rw [GX (by omega)]
         have hV:Kc ((p.1,q.1,s.1),0) seed = CV (fJ n s.1) q.1 seed:=by unfold Kc;rw [if_pos rfl,show p.1.toNat = n by omega]
         rw [hV]
         (refine w0 ?_;(repeat' first|refine W2.mk ?_ ?_|refine W1.mk fun hc=>?_))
         refine ⟨.inl rfl,j7 (iv 32 _ 4 1 rfl rfl) (ve rfl ?_ ?_)⟩
         · exact cq inferInstance inferInstance rfl rfl rfl rfl rfl rfl
         · exact aA rfl rfl
   · rw [if_neg (fun q=>hl q.1)] at hX
     subst hX
     refine fi Tryz.func56 Tryz.ntmps56 ?_
     (have kr1:=h1;have kr2:=h2;have kr3:=h3;have kr4:=h4;have kn1:=h5;refine w0 ?_;(repeat' first|refine W2.mk ?_ ?_|refine W1.mk fun hc=>?_);all_goals clear kn1 kr4 kr3 kr2 kr1)
     refine ⟨.inl rfl,ve rfl ?_ ?_⟩
     · exact cq inferInstance inferInstance rfl rfl rfl rfl rfl rfl
     · exact aA rfl rfl
 · rw [if_pos hv] at hX
   subst hX
   have hV:Kc ((0,0,[]),v) seed = zblP:=by unfold Kc;rw [if_neg hv]
   rw [hV]
   refine fi Tryz.func56 Tryz.ntmps56 ?_
   (have kr1:=h1;have kr2:=h2;have kr3:=h3;have kr4:=h4;refine w0 ?_;(repeat' first|refine W2.mk ?_ ?_|refine W1.mk fun hc=>?_);all_goals clear kr4 kr3 kr2 kr1)
   refine ⟨.inl rfl,ve rfl ?_ ?_⟩
   · exact cq inferInstance inferInstance rfl rfl rfl rfl rfl rfl
   · exact aA rfl rfl
end
end Go.Proofs.YtembiemaiacdfaaGreat
