/- Texts joined: Bl. -/
import Derived.Test.YtembiemaiacdfaaGreatJ31
import Derived.Test.YtembiemaiacdfaaGreatJ10
import Derived.Test.YtembiemaiacdfaaGreatJ08
import Derived.Test.YtembiemaiacdfaaGreatJ05
set_option maxRecDepth 10000
set_option maxHeartbeats 8000000
namespace Go.Proofs.YtembiemaiacdfaaGreat
open Go.RowKit
theorem I7 {top N:BP} {l:List UInt8} {w:World} {v:Value} (h:di top N 1 [[pU l]] w v):KL w v [l]:=by
 obtain ⟨ad,c,b,of,h1,h2,h3,h4,h5,h6⟩:=h
 obtain ⟨_,q⟩:=h6 0 [pU l] rfl
 obtain ⟨y,r1,_,r3⟩:=q 0 (pU l) rfl
 refine ⟨[y],rfl,⟨ad,c,b,of,h1,h2,h3,fun h0=>(h5 h0).1,h4,fun i x hx j u hu=>?_⟩,fun i h h'=>?_⟩
 · cases i with
   | succ i=>simp at hx
   | zero=>
     simp at hx;subst hx
     cases j with
     | succ j=>simp [GR] at hu
     | zero=>simp [GR] at hu;subst hu;exact r1
 · obtain rfl:i = 0:=by simp at h;omega
   exact pD r3
theorem I8 (seed:Int) (l:List UInt8):Fn Tryz.prog 250 [iC .u64 seed,.bor 1 [[pU l]]] (.per (ao (.int .u64 (eu seed l)))):=by
 refine ⟨⟨_,Tryz.func250,by kernel_rfl,by kernel_rfl⟩,fun N0 w vs _ ha=>?_⟩
 obtain ⟨v,u,rfl,h1,h2⟩:=zn ha
 obtain rfl:v = .int .u64 seed:=h1
 refine Calls.mono (yQ seed u [l] w (I7 h2)) ?_
 rintro e w' ⟨rfl,rfl⟩
 exact ⟨_,rfl,dB.refl _,by simp;rfl⟩
theorem Ku (seed:Int) (l:List UInt8):Fn Tryz.prog 260 [iC .u64 seed,ii l] (.per (ao (.int .u64 (eu seed l)))):=by
 refine ⟨⟨_,Tryz.func260,by kernel_rfl,by kernel_rfl⟩,fun N0 w vs _ ha=>?_⟩
 obtain ⟨v,u,rfl,h1,h2⟩:=zn ha
 obtain rfl:v = .int .u64 seed:=h1
 refine Calls.mono (BS seed u l w (pD h2)) ?_
 rintro e w' ⟨rfl,rfl⟩
 exact ⟨_,rfl,dB.refl _,rfl⟩
abbrev LI (bits probes seed:Int) (row:List UInt8):PV:=dX [ao (.int .i64 bits),ao (.int .i64 probes),ao (.int .u64 seed),bK 1 (row.map byteP)]
abbrev Lh (row:List UInt8):Blk:=.row 5 1 (row.map byteP)
structure Li (bits probes:Int) (row:List UInt8):Prop where
 b1:1 ≤ bits
 b2:bits ≤ 4096
 p1:1 ≤ probes
 p2:probes ≤ 8
 len:row.length = (bits.toNat + 7) / 8
theorem sy (n:Nat):List.replicate n [ao (.int .u8 0)] = (List.replicate n (0:UInt8)).map byteP:=by
 rw [List.map_replicate];rfl
theorem F4 {row:List UInt8} {bits seed:Int} {l:List UInt8} {k q:Nat} (hk:k < q) (h:cK row (dp bits seed l (k:Int)) = false):I4 row bits seed l q = false:=by
 rw [I4,List.all_eq_false]
 exact ⟨k,List.mem_range.2 hk,by simp [h]⟩
theorem F5 {row:List UInt8} {m:Nat} (h:m / 8 < row.length):bits BinOp.and IntKind.u8 ((row[m / 8].toNat:Nat):Int) ((2 ^ (m % 8):Nat):Int) = 0 ↔ cK row m = false:=by
 rw [F1]
 unfold cK
 rw [List.getElem?_eq_getElem h,Option.getD_some]
 simp only [bne_eq_false_iff_eq]
 constructor
 · intro q;exact UInt8.toNat_inj.1 (by simpa using q)
 · intro q;rw [q];rfl
theorem I9 {m:Nat}:IntKind.u8.wrap (1 * 2 ^ min (((m % 8:Nat):Int)).toNat IntKind.u8.bits) = ((2 ^ (m % 8):Nat):Int):=by
 rw [Int.toNat_natCast]
 have h:m % 8 < 8:=Nat.mod_lt _ (by decide)
 have:∀ k:Fin 8,IntKind.u8.wrap (1 * 2 ^ min k.val IntKind.u8.bits) = ((2 ^ k.val:Nat):Int):=by decide
 exact this ⟨m % 8,h⟩
instance (b:Int) (s:List UInt8):Decidable (kW b s):=by unfold kW;infer_instance
section
theorem F6 (bits probes seed:Int) (h1:1 ≤ bits) (h2:bits ≤ 4096) (h3:1 ≤ probes) (h4:probes ≤ 8) :
   dY Tryz.prog 105 [iC .i64 bits,iC .i64 probes,iC .u64 seed] [] (.tup2 (.ptr 3000 0 0) (iC .i64 0)) [(3000,.box 153 [iC .i64 bits,iC .i64 probes,iC .u64 seed,.row 3001 0]),(3001,Lh (List.replicate ((bits.toNat + 7) / 8) 0))]:=by
 refine eT Tryz.func105 Tryz.ntmps105 ?_
 (repeat' (first|refine cl ?_|refine bh ?_|refine bx ?_|refine bz ?_|refine cm ?_|refine aW ?_|refine cv dm ?_|refine cj ?_|refine ck (by kernel_rfl) ?_|(refine eU rfl rfl ⟨fun hc=>?_,fun hc=>?_⟩ <;> (repeat rw [List.length_map] at hc) <;> (try exact cP hc))|((first|apply aB rfl|apply aC rfl|apply aD rfl|apply aF rfl);focus (first|((exact I2 (m:=(bits.toNat + 7) / 8) ⟨rfl,rfl,rfl⟩ rfl inferInstance inferInstance rfl rfl rfl rfl (by omega) (by omega)))|(apply bt;(focus rfl);apply ag rfl rfl rfl rfl rfl;((exact I2 (m:=(bits.toNat + 7) / 8) ⟨rfl,rfl,rfl⟩ rfl inferInstance inferInstance rfl rfl rfl rfl (by omega) (by omega))))|exact dn|fail))|refine bB ?_|refine bD ?_|refine bF ?_|refine dv ?_|refine dw ?_|refine bG ?_|refine bi rfl ?_|((first|refine eV rfl rfl rfl ⟨fun hc=>?_,fun hc=>?_⟩|refine eW rfl rfl rfl ⟨fun hc=>?_,fun hc=>?_⟩) <;> (fail_if_success (have q:(true = true):=hc)) <;> (fail_if_success (have q:(false = false):=hc)) <;> (repeat rw [List.length_map] at hc) <;> (try exact cP hc))|refine aZ rfl rfl (fun hc=>?_) ?_))
 (refine ⟨(by first|exact .inl rfl|exact .inr rfl),zj [(31,3000),(29,3001)] rfl rfl ?_ ?_ ?_⟩;(focus (repeat (first|exact ar.nil|(refine ar.cons rfl ?_ ?_;(focus first|rfl|skip))))))
 · first|exact congrArg (Blk.row _ 1) (sy _)|exact congrArg (Blk.row _ 1) (sy _).symm
 · exact ar.nil
 · exact KG rfl rfl
 · exact aY rfl rfl
theorem F7 (r c:Int) (hr:fg r) (hc:fg c):Fn Tryz.prog 211 [oQ r c] (rr (gG r c)):=by
 have h:=pM [] [r,c] (by simp) (Lg hr hc)
 rw [List.nil_append,Ab] at h
 refine fi Tryz.func211 Tryz.ntmps211 ?_
 (have kc1:=h;refine w0 ?_;(repeat' first|refine W2.mk ?_ ?_|refine W1.mk fun hc=>?_);all_goals clear kc1)
 refine aO ?_
 exact dx rfl rfl rfl rfl
theorem F8 (bits probes seed:Int) (row l:List UInt8) (i:Nat) (hi:i ≤ 1000) (h1:1 ≤ bits) (h2:bits ≤ 4096) :
   Fn Tryz.prog 212 [.per (LI bits probes seed row),.per (pU l),iC .i64 (i:Nat)] (.tup2 (ig ((dp bits seed l i / 8:Nat):Int)) (.per (ao (.int .u8 ((2 ^ (dp bits seed l i % 8):Nat):Int))))):=by
 have hlt:=jC bits seed l i h1
 have hwi:IntKind.u64.wrap (i:Int) = (i:Int):=hY (by omega) (by omega)
 have hH:=I8 (IntKind.u64.wrap (seed + i)) l
 have hP:(eu (IntKind.u64.wrap (seed + i)) l).tmod bits = ((dp bits seed l i:Nat):Int):=by
   have hnn:0 ≤ eu (IntKind.u64.wrap (seed + i)) l:=by unfold eu oq;exact pi _ _
   unfold dp
   rw [hwi,Int.tmod_eq_emod_of_nonneg hnn,Int.toNat_of_nonneg (Int.emod_nonneg _ (by omega))]
 have hsh:=@I9 (dp bits seed l i)
 generalize eu (IntKind.u64.wrap (seed + i)) l = H at *
 generalize dp bits seed l i = m at *
 have hm8:((m / 8:Nat):Int) = (m:Int) / 8:=by omega
 have hm9:((m % 8:Nat):Int) = (m:Int) % 8:=by omega
 rw [hm9] at hsh
 rw [hm8]
 refine fi Tryz.func212 Tryz.ntmps212 ?_
 (repeat' (first|refine cl ?_|refine bh ?_|refine bx ?_|refine bz ?_|refine cm ?_|refine aW ?_|refine cv dm ?_|refine cj ?_|refine ck (by kernel_rfl) ?_|(refine eU rfl rfl ⟨fun hc=>?_,fun hc=>?_⟩ <;> (repeat rw [List.length_map] at hc) <;> (try exact cP hc))|((first|apply aB rfl|apply aC rfl|apply aD rfl|apply aF rfl);focus (first|((apply ax 10;(focus rfl);exact gz ⟨rfl,rfl,rfl⟩ rfl inferInstance inferInstance rfl (by with_reducible exact hY (by omega) (by omega))))|(apply bt;(focus rfl);apply ag rfl rfl rfl rfl rfl;((apply ax 10;(focus rfl);exact gz ⟨rfl,rfl,rfl⟩ rfl inferInstance inferInstance rfl (by with_reducible exact hY (by omega) (by omega)))))|((apply ax 8;(focus rfl);exact fH ⟨rfl,rfl,rfl⟩ rfl rfl rfl rfl ((bP (by omega) (by omega)).trans (by assumption))))|(apply bt;(focus rfl);apply ag rfl rfl rfl rfl rfl;((apply ax 8;(focus rfl);exact fH ⟨rfl,rfl,rfl⟩ rfl rfl rfl rfl ((bP (by omega) (by omega)).trans (by assumption)))))|((exact ny ⟨rfl,rfl,rfl⟩ rfl rfl rfl (by omega) hP))|(apply bt;(focus rfl);apply ag rfl rfl rfl rfl rfl;((exact ny ⟨rfl,rfl,rfl⟩ rfl rfl rfl (by omega) hP)))|((exact FW ⟨rfl,rfl,rfl⟩ rfl rfl rfl (by omega) hsh))|(apply bt;(focus rfl);apply ag rfl rfl rfl rfl rfl;((exact FW ⟨rfl,rfl,rfl⟩ rfl rfl rfl (by omega) hsh)))|exact dn|exact mn (hH)|fail))|refine bB ?_|refine bD ?_|refine bF ?_|refine dv ?_|refine dw ?_|refine bG ?_|refine bi rfl ?_|((first|refine eV rfl rfl rfl ⟨fun hc=>?_,fun hc=>?_⟩|refine eW rfl rfl rfl ⟨fun hc=>?_,fun hc=>?_⟩) <;> (fail_if_success (have q:(true = true):=hc)) <;> (fail_if_success (have q:(false = false):=hc)) <;> (repeat rw [List.length_map] at hc) <;> (try exact cP hc))|refine aZ rfl rfl (fun hc=>?_) ?_))
 refine oO ?_ ?_
 · exact az rfl rfl
 · exact az rfl rfl
theorem Kv (bits probes seed:Int) (row:List UInt8) (hb:Li bits probes row) (r c:Int):Fn Tryz.prog 186 [.per (LI bits probes seed row),oQ r c] (cU (wv row bits probes seed r c)):=by
 obtain ⟨b1,b2,p1,p2,hlen⟩:=hb
 have h1:=ei r c
 cases hr:dF r c with
 | false=>
   rw [hr] at h1
   rw [show wv row bits probes seed r c = false by unfold wv;rw [hr];rfl]
   refine fi Tryz.func186 Tryz.ntmps186 ?_
   (have kc1:=h1;refine w0 ?_;(repeat' first|refine W2.mk ?_ ?_|refine W1.mk fun hc=>?_);all_goals clear kc1)
   refine aO ?_
   exact af rfl rfl
 | true=>
   rw [hr] at h1
   obtain ⟨o1,o2⟩:=F0 hr
   have h2:=(F7 r c o1 o2).frz
   rw [show wv row bits probes seed r c = I4 row bits seed (gG r c) probes.toNat by unfold wv;rw [hr];rfl]
   generalize gG r c = l at *
   refine fi Tryz.func186 Tryz.ntmps186 ?_
   (have kc1:=h1;have kc2:=h2;refine w0 ?_;(repeat' first|refine W2.mk ?_ ?_|refine W1.mk fun hc=>?_);all_goals clear kc2 kc1)
   refine ah (X:=Nat) (fun k=>(k:Int) ≤ probes ∧ I4 row bits seed l k = true)
     (fun k=>aJ [(0,.per (LI bits probes seed row)),(5,.per (pU l)),(28,iC .i64 probes),(29,iC .i64 (k:Nat))] []) (fun k=>probes.toNat - k) 0 ⟨by omega,rfl⟩ ?_ ?_
   · exact ab
   · rintro k ⟨hk,hP⟩
     by_cases hlt:(k:Int) < probes
     · have h3:=F8 bits probes seed row l k (by omega) b1 b2
       have hml:=jC bits seed l k b1
       have hs1:=F2 row bits seed l k
       have hs2:=@F4 row bits seed l k probes.toNat (by omega)
       rw [hP,Bool.true_and] at hs1
       generalize dp bits seed l k = m at *
       have hm8:m / 8 < row.length:=by omega
       have haz:=F5 hm8
       clear h1 h2 hP
       (repeat' (first|refine cl ?_|refine bh ?_|refine bx ?_|refine bz ?_|refine cm ?_|refine aW ?_|refine cv dm ?_|refine cj ?_|refine ck (by kernel_rfl) ?_|(refine eU rfl rfl ⟨fun hc=>?_,fun hc=>?_⟩ <;> (repeat rw [List.length_map] at hc) <;> (try exact cP hc))|((first|apply aB rfl|apply aC rfl|apply aD rfl|apply aF rfl);focus (first|((exact FV ⟨rfl,rfl,rfl⟩ rfl rfl rfl rfl))|(apply bt;(focus rfl);apply ag rfl rfl rfl rfl rfl;((exact FV ⟨rfl,rfl,rfl⟩ rfl rfl rfl rfl)))|exact dn|exact mn (h3)|fail))|refine bB ?_|refine bD ?_|refine bF ?_|refine dv ?_|refine dw ?_|refine bG ?_|refine bi rfl ?_|((first|refine eV rfl rfl rfl ⟨fun hc=>?_,fun hc=>?_⟩|refine eW rfl rfl rfl ⟨fun hc=>?_,fun hc=>?_⟩) <;> (fail_if_success (have q:(true = true):=hc)) <;> (fail_if_success (have q:(false = false):=hc)) <;> (repeat rw [List.length_map] at hc) <;> (try exact cP hc))|refine aZ rfl rfl (fun hc=>?_) ?_))
       · rw [hs2 (haz.1 hc)]
         refine aO ?_
         exact af rfl rfl
       · have hm1:cK row m = true:=by
           cases hh:cK row m with
           | true=>rfl
           | false=>exact absurd (haz.2 hh) hc
         rw [hm1] at hs1
         refine ⟨k + 1,⟨by omega,hs1⟩,by omega,?_⟩
         exact ab
     · have hkp:probes.toNat = k:=by omega
       rw [hkp,hP]
       (refine w0 ?_;(repeat' first|refine W2.mk ?_ ?_|refine W1.mk fun hc=>?_))
       refine aO ?_
       exact af rfl rfl
def qR (b:List UInt8):(Int × Int × List UInt8) × Int:=
 let p:=aH 1 4096 b 0
 let q:=aH 1 8 p.2.1 p.2.2
 let s:=dG 281474976710656 q.2.1 q.2.2
 let e:=kI s.2.1 s.2.2
 if e ≠ 0 then ((0,0,[]),e) else if s.1.length = (p.1.toNat + 7) / 8 ∧ ¬ kW p.1 s.1 then ((p.1,q.1,s.1),0) else ((0,0,[]),11)
theorem nh {b:List UInt8} {p q:Int × List UInt8 × Int} {s:List UInt8 × List UInt8 × Int} (h1:aH 1 4096 b 0 = p) (h2:aH 1 8 p.2.1 p.2.2 = q) (h3:dG 281474976710656 q.2.1 q.2.2 = s) (h4:kI s.2.1 s.2.2 = 0) :
   1 ≤ p.1 ∧ p.1 ≤ 4096 ∧ 1 ≤ q.1 ∧ q.1 ≤ 8 ∧ s.1.length ≤ b.length:=by
 obtain ⟨s1,s2,s3⟩:=s
 obtain ⟨q1,q2,q3⟩:=q
 obtain ⟨p1,p2,p3⟩:=p
 simp only at h1 h2 h3 h4 ⊢
 obtain ⟨rfl,_⟩:=ww h4
 obtain ⟨x,l1,a1,a2,a3,a4,a5⟩:=sx h3
 obtain ⟨rfl,_,_,_⟩:=eh a1
 obtain ⟨rfl,b1,b2,_⟩:=eh h2
 obtain ⟨_,c1,c2,_⟩:=eh h1
 refine ⟨c1,c2,b1,b2,?_⟩
 have e1:=(dy 1 4096 b 0).length_le
 have e2:=(dy 1 8 p2 0).length_le
 have e3:=(dy 0 281474976710656 q2 0).length_le
 rw [h1] at e1;rw [h2] at e2;rw [a1] at e3
 simp only at e1 e2 e3
 rw [a2,List.length_take];omega
theorem ni (s:List UInt8):(ByteArray.mk s.toArray).size = s.length:=by simp [ByteArray.size]
theorem Ac {p:Int} {s:List UInt8} (h1:1 ≤ p) (hl:s.length = (p.toNat + 7) / 8):∃ hk:(((ByteArray.mk s.toArray).size:Int) - 1).toNat < (ByteArray.mk s.toArray).data.toList.length,
   (kW p s ↔ (p % 8 > 0 ∧ (((ByteArray.mk s.toArray).data.toList[(((ByteArray.mk s.toArray).size:Int) - 1).toNat].toNat:Nat):Int) / 2 ^ min (p % 8).toNat IntKind.u8.bits > 0)):=by
 obtain ⟨n,rfl⟩:=Int.eq_ofNat_of_zero_le (show 0 ≤ p by omega)
 have h0:0 < s.length:=by omega
 have e1:(((ByteArray.mk s.toArray).size:Int) - 1).toNat = s.length - 1:=by rw [ni];omega
 refine ⟨by rw [e1];show s.length - 1 < s.length;omega,?_⟩
 have e2:((n:Int) % 8).toNat = n % 8:=by omega
 have e3:min (n % 8) IntKind.u8.bits = n % 8:=by show min (n % 8) 8 = _;omega
 have e4:∀ hk,(ByteArray.mk s.toArray).data.toList[(((ByteArray.mk s.toArray).size:Int) - 1).toNat]'hk = s.getD (s.length - 1) 0:=by
   intro hk
   simp only [e1]
   rw [List.getD_eq_getElem?_getD,List.getElem?_eq_getElem (by omega)];rfl
 rw [e4,e2,e3]
 unfold kW
 rw [Int.toNat_natCast]
 rw [show ((2:Int) ^ (n % 8)) = ((2 ^ (n % 8):Nat):Int) by simp,← Int.natCast_ediv]
 omega
theorem yU (b:List UInt8) (hb:b.length ≤ 1000000) (seed:Int) {x:Int × Int × List UInt8} {e:Int} (h:qR b = (x,e)) (he:e ≠ 0):Fn Tryz.prog 55 [ii b,iC .u64 seed] (.tup2 (.per (ao (.pointer none))) (ig e)):=by
 dsimp only [qR] at h
 have h1:=kJ b 0 1 4096
 generalize hp:aH 1 4096 b 0 = p at *
 have h2:=kJ p.2.1 p.2.2 1 8
 generalize hq:aH 1 8 p.2.1 p.2.2 = q at *
 have h3:=D6 q.2.1 q.2.2 281474976710656
 generalize hs:dG 281474976710656 q.2.1 q.2.2 = s at *
 have h4:=Jw s.2.1 s.2.2
 generalize hE:kI s.2.1 s.2.2 = v at *
 by_cases hv:v = 0
 · subst hv
   obtain ⟨a1,a2,a3,a4,a5⟩:=nh hp hq hs hE
   clear hp hq hs hE
   have h5:=F6 p.1 q.1 seed a1 a2 a3 a4
   have hSz:=ni s.1
   rw [if_neg (by simp)] at h
   split at h
   · exact absurd (congrArg Prod.snd h).symm he
   · rename_i hno
     obtain rfl:(11:Int) = e:=congrArg Prod.snd h
     clear h
     by_cases hlen:s.1.length = (p.1.toNat + 7) / 8
     · obtain ⟨hk,hT⟩:=Ac a1 hlen
       have hT:=hT.1 (Decidable.of_not_not fun q=>hno ⟨hlen,q⟩)
       generalize hZ:(((ByteArray.mk s.1.toArray).data.toList[(((ByteArray.mk s.1.toArray).size:Int) - 1).toNat]'hk).toNat:Int) / 2 ^ min (p.1 % 8).toNat IntKind.u8.bits = Z at *
       clear hno
       refine fi Tryz.func55 Tryz.ntmps55 ?_
       (repeat' (first|refine cl ?_|refine bh ?_|refine bx ?_|refine bz ?_|refine cm ?_|refine aW ?_|refine cv dm ?_|refine cj ?_|refine ck (by kernel_rfl) ?_|(refine eU rfl rfl ⟨fun hc=>?_,fun hc=>?_⟩ <;> (repeat rw [List.length_map] at hc) <;> (try exact cP hc))|((first|apply aB rfl|apply aC rfl|apply aD rfl|apply aF rfl);focus (first|((apply ax 13;(focus rfl);exact jn ⟨rfl,rfl,rfl⟩ rfl inferInstance rfl rfl (by omega) hk))|(apply bt;(focus rfl);apply ag rfl rfl rfl rfl rfl;((apply ax 13;(focus rfl);exact jn ⟨rfl,rfl,rfl⟩ rfl inferInstance rfl rfl (by omega) hk)))|((exact pg ⟨rfl,rfl,rfl⟩ rfl rfl rfl (by omega) hZ))|(apply bt;(focus rfl);apply ag rfl rfl rfl rfl rfl;((exact pg ⟨rfl,rfl,rfl⟩ rfl rfl rfl (by omega) hZ)))|exact dn|exact DE (zu b (by omega))|exact jX (h1)|exact jX (h2)|exact jX (h3)|exact jX (h4)|exact KX [(3000,650),(3001,651)] (h5)|fail))|refine bB ?_|refine bD ?_|refine bF ?_|refine dv ?_|refine dw ?_|refine bG ?_|refine bi rfl ?_|((first|refine eV rfl rfl rfl ⟨fun hc=>?_,fun hc=>?_⟩|refine eW rfl rfl rfl ⟨fun hc=>?_,fun hc=>?_⟩) <;> (fail_if_success (have q:(true = true):=hc)) <;> (fail_if_success (have q:(false = false):=hc)) <;> (repeat rw [List.length_map] at hc) <;> (try exact cP hc))|refine aZ rfl rfl (fun hc=>?_) ?_))
       refine oO ?_ ?_
       · exact b0 rfl
       · exact az rfl rfl
     · clear hno
       refine fi Tryz.func55 Tryz.ntmps55 ?_
       (have kn1:=zu b (by omega);have kr1:=h1;have kr2:=h2;have kr3:=h3;have kr4:=h4;have km1:=(show bp [(3000,650),(3001,651)] _ _ _ _ _ _ from h5);refine w0 ?_;(repeat' first|refine W2.mk ?_ ?_|refine W1.mk fun hc=>?_);all_goals clear km1 kr4 kr3 kr2 kr1 kn1)
       · refine oO ?_ ?_
         · exact b0 rfl
         · exact az rfl rfl
       all_goals (exfalso;simp only [List.length_replicate] at *;omega)
 · rw [if_pos hv] at h
   obtain rfl:v = e:=congrArg Prod.snd h
   refine fi Tryz.func55 Tryz.ntmps55 ?_
   (have kn1:=zu b (by omega);have kr1:=h1;have kr2:=h2;have kr3:=h3;have kr4:=h4;refine w0 ?_;(repeat' first|refine W2.mk ?_ ?_|refine W1.mk fun hc=>?_);all_goals clear kr4 kr3 kr2 kr1 kn1)
   refine oO ?_ ?_
   · exact b0 rfl
   · exact az rfl rfl
theorem yV (b:List UInt8) (hb:b.length ≤ 1000000) (seed:Int) {bits probes:Int} {row:List UInt8} (h:qR b = ((bits,probes,row),0)) :
   Li bits probes row ∧ Fn Tryz.prog 55 [ii b,iC .u64 seed] (.tup2 (.per (LI bits probes seed row)) (ig 0)):=by
 dsimp only [qR] at h
 have h1:=kJ b 0 1 4096
 generalize hp:aH 1 4096 b 0 = p at *
 have h2:=kJ p.2.1 p.2.2 1 8
 generalize hq:aH 1 8 p.2.1 p.2.2 = q at *
 have h3:=D6 q.2.1 q.2.2 281474976710656
 generalize hs:dG 281474976710656 q.2.1 q.2.2 = s at *
 have h4:=Jw s.2.1 s.2.2
 generalize hE:kI s.2.1 s.2.2 = v at *
 by_cases hv:v = 0
 · subst hv
   obtain ⟨a1,a2,a3,a4,a5⟩:=nh hp hq hs hE
   clear hp hq hs hE
   rw [if_neg (by simp)] at h
   split at h
   · rename_i hok
     obtain ⟨hlen,hnt⟩:=hok
     simp only [Prod.mk.injEq,and_true] at h
     obtain ⟨rfl,rfl,rfl⟩:=h
     have h5:=F6 p.1 q.1 seed a1 a2 a3 a4
     have hSz:=ni s.1
     refine ⟨⟨a1,a2,a3,a4,hlen⟩,?_⟩
     obtain ⟨hk,hT⟩:=Ac a1 hlen
     rw [hT] at hnt
     have hlz:(ByteArray.mk s.1.toArray).size = ((List.replicate ((p.1.toNat + 7) / 8) (0:UInt8)).map byteP).length:=by simp [hSz,hlen]
     have hl0:0 < ((List.replicate ((p.1.toNat + 7) / 8) (0:UInt8)).map byteP).length:=by simp;omega
     generalize hZ:(((ByteArray.mk s.1.toArray).data.toList[(((ByteArray.mk s.1.toArray).size:Int) - 1).toNat]'hk).toNat:Int) / 2 ^ min (p.1 % 8).toNat IntKind.u8.bits = Z at *
     clear hT
     refine fi Tryz.func55 Tryz.ntmps55 ?_
     (repeat' (first|refine cl ?_|refine bh ?_|refine bx ?_|refine bz ?_|refine cm ?_|refine aW ?_|refine cv dm ?_|refine cj ?_|refine ck (by kernel_rfl) ?_|(refine eU rfl rfl ⟨fun hc=>?_,fun hc=>?_⟩ <;> (repeat rw [List.length_map] at hc) <;> (try exact cP hc))|((first|apply aB rfl|apply aC rfl|apply aD rfl|apply aF rfl);focus (first|((apply ax 13;(focus rfl);exact jn ⟨rfl,rfl,rfl⟩ rfl inferInstance rfl rfl (by omega) hk))|(apply bt;(focus rfl);apply ag rfl rfl rfl rfl rfl;((apply ax 13;(focus rfl);exact jn ⟨rfl,rfl,rfl⟩ rfl inferInstance rfl rfl (by omega) hk)))|((exact pg ⟨rfl,rfl,rfl⟩ rfl rfl rfl (by omega) hZ))|(apply bt;(focus rfl);apply ag rfl rfl rfl rfl rfl;((exact pg ⟨rfl,rfl,rfl⟩ rfl rfl rfl (by omega) hZ)))|((exact Aa ⟨rfl,rfl,rfl⟩ rfl inferInstance rfl rfl rfl rfl hlz hl0))|(apply bt;(focus rfl);apply ag rfl rfl rfl rfl rfl;((exact Aa ⟨rfl,rfl,rfl⟩ rfl inferInstance rfl rfl rfl rfl hlz hl0)))|exact dn|exact DE (zu b (by omega))|exact jX (h1)|exact jX (h2)|exact jX (h3)|exact jX (h4)|exact KX [(3000,650),(3001,651)] (h5)|fail))|refine bB ?_|refine bD ?_|refine bF ?_|refine dv ?_|refine dw ?_|refine bG ?_|refine bi rfl ?_|((first|refine eV rfl rfl rfl ⟨fun hc=>?_,fun hc=>?_⟩|refine eW rfl rfl rfl ⟨fun hc=>?_,fun hc=>?_⟩) <;> (fail_if_success (have q:(true = true):=hc)) <;> (fail_if_success (have q:(false = false):=hc)) <;> (repeat rw [List.length_map] at hc) <;> (try exact cP hc))|refine aZ rfl rfl (fun hc=>?_) ?_))
     all_goals
       refine ⟨.inl rfl,jW (gl 651 _ 5 1 rfl rfl) (jW (tc 650 _ _ rfl rfl rfl) (uK rfl ?_ ?_))⟩
       · exact b0 rfl
       · exact az rfl rfl
   · exact absurd (congrArg Prod.snd h) (by simp)
 · rw [if_pos hv] at h
   exact absurd (congrArg Prod.snd h) hv
end
end Go.Proofs.YtembiemaiacdfaaGreat
namespace Go.Proofs.YtembiemaiacdfaaGreat
open Go.RowKit
def boolP (b:Bool):List PV:=[ao (.bool b)]
abbrev lx (bs:List Bool) (probes seed:Int):PV:=bW [bK 1 (bs.map boolP),ao (.int .i64 probes),ao (.int .u64 seed)]
abbrev yW (bs:List Bool):Blk:=.row 4 1 (bs.map boolP)
theorem qS (n:Nat):List.replicate n [ao (.bool false)] = (List.replicate n false).map boolP:=by
 rw [List.map_replicate];rfl
theorem Ja {x:UInt8} {n:Nat}:(((x.toNat / 2 ^ (n % 8):Nat):Int) % 2 = 1) ↔ (x &&& jD n != 0) = true:=by
 have:∀ k:Fin 8,∀ x:Fin 256,((((UInt8.ofNat x.val).toNat / 2 ^ k.val:Nat):Int) % 2 = 1) ↔ (UInt8.ofNat x.val &&& UInt8.ofNat (2 ^ k.val) != 0) = true:=by decide +kernel
 have:=this ⟨n % 8,Nat.mod_lt _ (by decide)⟩ ⟨x.toNat,x.toNat_lt⟩
 simpa [jD] using this
section
theorem Jb (n:Nat) (hn:n ≤ 4096) (probes seed:Int):dY Tryz.prog 109 [iC .i64 (n:Nat),iC .i64 probes,iC .u64 seed] [] (mH [.row 3000 0,iC .i64 probes,iC .u64 seed]) [(3000,yW (List.replicate n false))]:=by
 refine eT Tryz.func109 Tryz.ntmps109 ?_
 (repeat' (first|refine cl ?_|refine bh ?_|refine bx ?_|refine bz ?_|refine cm ?_|refine aW ?_|refine cv dm ?_|refine cj ?_|refine ck (by kernel_rfl) ?_|(refine eU rfl rfl ⟨fun hc=>?_,fun hc=>?_⟩ <;> (repeat rw [List.length_map] at hc) <;> (try exact cP hc))|((first|apply aB rfl|apply aC rfl|apply aD rfl|apply aF rfl);focus (first|((exact I2 (m:=n) ⟨rfl,rfl,rfl⟩ rfl inferInstance inferInstance rfl rfl rfl rfl (by omega) (by omega)))|(apply bt;(focus rfl);apply ag rfl rfl rfl rfl rfl;((exact I2 (m:=n) ⟨rfl,rfl,rfl⟩ rfl inferInstance inferInstance rfl rfl rfl rfl (by omega) (by omega))))|exact dn|fail))|refine bB ?_|refine bD ?_|refine bF ?_|refine dv ?_|refine dw ?_|refine bG ?_|refine bi rfl ?_|((first|refine eV rfl rfl rfl ⟨fun hc=>?_,fun hc=>?_⟩|refine eW rfl rfl rfl ⟨fun hc=>?_,fun hc=>?_⟩) <;> (fail_if_success (have q:(true = true):=hc)) <;> (fail_if_success (have q:(false = false):=hc)) <;> (repeat rw [List.length_map] at hc) <;> (try exact cP hc))|refine aZ rfl rfl (fun hc=>?_) ?_))
 (refine ⟨(by first|exact .inl rfl|exact .inr rfl),bS [(8,3000)] rfl rfl ?_ ?_⟩;(focus (repeat (first|exact ar.nil|(refine ar.cons rfl ?_ ?_;(focus first|rfl|skip))))))
 · first|exact congrArg (Blk.row _ 1) (qS _)|exact congrArg (Blk.row _ 1) (qS _).symm
 · exact ar.nil
 · exact AV rfl inferInstance inferInstance rfl rfl rfl rfl rfl rfl
theorem F9 (bs:List Bool) (probes seed r c:Int) (i:Nat) (hi:i ≤ 1000) (h1:1 ≤ bs.length) (h2:bs.length ≤ 4096) (hr:fg r) (hc:fg c) :
   Fn Tryz.prog 234 [.per (lx bs probes seed),oQ r c,iC .i64 (i:Nat)] (ig ((dp bs.length seed (gG r c) i:Nat):Int)):=by
 have hlt:=jC bs.length seed (gG r c) i (by omega)
 have hwi:IntKind.u64.wrap (i:Int) = (i:Int):=hY (by omega) (by omega)
 have hp:=tk [r,c] (by simp) (Lg hr hc)
 rw [Ab] at hp
 have hH:=Ku (IntKind.u64.wrap (seed + i)) (gG r c)
 have hP:(eu (IntKind.u64.wrap (seed + i)) (gG r c)).tmod bs.length = ((dp bs.length seed (gG r c) i:Nat):Int):=by
   have hnn:0 ≤ eu (IntKind.u64.wrap (seed + i)) (gG r c):=by unfold eu oq;exact pi _ _
   unfold dp
   rw [hwi,Int.tmod_eq_emod_of_nonneg hnn,Int.toNat_of_nonneg (Int.emod_nonneg _ (by omega))]
 generalize eu (IntKind.u64.wrap (seed + i)) (gG r c) = H at *
 generalize dp bs.length seed (gG r c) i = m at *
 generalize gG r c = l at *
 have hmm:(m:Int) = (m:Int):=rfl
 refine fi Tryz.func234 Tryz.ntmps234 ?_
 (repeat' (first|refine cl ?_|refine bh ?_|refine bx ?_|refine bz ?_|refine cm ?_|refine aW ?_|refine cv dm ?_|refine cj ?_|refine ck (by kernel_rfl) ?_|(refine eU rfl rfl ⟨fun hc=>?_,fun hc=>?_⟩ <;> (repeat rw [List.length_map] at hc) <;> (try exact cP hc))|((first|apply aB rfl|apply aC rfl|apply aD rfl|apply aF rfl);focus (first|((apply ax 10;(focus rfl);exact gz ⟨rfl,rfl,rfl⟩ rfl inferInstance inferInstance rfl (by with_reducible exact hY (by omega) (by omega))))|(apply bt;(focus rfl);apply ag rfl rfl rfl rfl rfl;((apply ax 10;(focus rfl);exact gz ⟨rfl,rfl,rfl⟩ rfl inferInstance inferInstance rfl (by with_reducible exact hY (by omega) (by omega)))))|((apply ax 10;(focus rfl);exact gz ⟨rfl,rfl,rfl⟩ rfl inferInstance inferInstance rfl (by with_reducible exact bP (by omega) (by omega))))|(apply bt;(focus rfl);apply ag rfl rfl rfl rfl rfl;((apply ax 10;(focus rfl);exact gz ⟨rfl,rfl,rfl⟩ rfl inferInstance inferInstance rfl (by with_reducible exact bP (by omega) (by omega)))))|((exact ny ⟨rfl,rfl,rfl⟩ rfl rfl rfl (by omega) hP))|(apply bt;(focus rfl);apply ag rfl rfl rfl rfl rfl;((exact ny ⟨rfl,rfl,rfl⟩ rfl rfl rfl (by omega) hP)))|exact dn|exact mn (hp)|exact mn (hH)|fail))|refine bB ?_|refine bD ?_|refine bF ?_|refine dv ?_|refine dw ?_|refine bG ?_|refine bi rfl ?_|((first|refine eV rfl rfl rfl ⟨fun hc=>?_,fun hc=>?_⟩|refine eW rfl rfl rfl ⟨fun hc=>?_,fun hc=>?_⟩) <;> (fail_if_success (have q:(true = true):=hc)) <;> (fail_if_success (have q:(false = false):=hc)) <;> (repeat rw [List.length_map] at hc) <;> (try exact cP hc))|refine aZ rfl rfl (fun hc=>?_) ?_))
 refine aO ?_
 exact az rfl rfl
theorem Kw (bs:List Bool) (probes seed r c:Int) (h1:1 ≤ bs.length) (h2:bs.length ≤ 4096) (p1:0 ≤ probes) (p2:probes ≤ 8):Fn Tryz.prog 199 [.per (lx bs probes seed),oQ r c] (cU (qQ bs bs.length probes seed r c)):=by
 have hv:=eL r c
 cases hr:dF r c with
 | false=>
   rw [hr] at hv
   rw [show qQ bs bs.length probes seed r c = false by unfold qQ;rw [hr];rfl]
   refine fi Tryz.func199 Tryz.ntmps199 ?_
   (have kc1:=hv;refine w0 ?_;(repeat' first|refine W2.mk ?_ ?_|refine W1.mk fun hc=>?_);all_goals clear kc1)
   refine aO ?_
   exact af rfl rfl
 | true=>
   rw [hr] at hv
   obtain ⟨o1,o2⟩:=F0 hr
   rw [show qQ bs bs.length probes seed r c = ng bs bs.length seed (gG r c) probes.toNat by unfold qQ;rw [hr];rfl]
   refine fi Tryz.func199 Tryz.ntmps199 ?_
   (have kc1:=hv;refine w0 ?_;(repeat' first|refine W2.mk ?_ ?_|refine W1.mk fun hc=>?_);all_goals clear kc1)
   refine ah (X:=Nat) (fun k=>(k:Int) ≤ probes ∧ ng bs bs.length seed (gG r c) k = true)
     (fun k=>aJ [(2,.ptr 2 0 0),(3,.ptr 3 0 0),(5,iC .i64 (k:Nat))] [(2,.box 50 [.per (bK 1 (bs.map boolP)),iC .i64 probes,iC .u64 seed]),(3,.box 59 [iC .i64 r,iC .i64 c])]) (fun k=>probes.toNat - k) 0 ⟨by omega,rfl⟩ ?_ ?_
   · exact ab
   · rintro k ⟨hk,hP⟩
     by_cases hlt:(k:Int) < probes
     · have h3:=F9 bs probes seed r c k (by omega) h1 h2 o1 o2
       have hml:=jC bs.length seed (gG r c) k (by omega)
       have hs1:=yS bs bs.length seed (gG r c) k
       have hs2:=@yT bs bs.length seed (gG r c) k probes.toNat (by omega)
       rw [hP,Bool.true_and] at hs1
       generalize dp bs.length seed (gG r c) k = m at *
       have hm8:m < bs.length:=by omega
       have hg:bs.getD m false = bs[m]:=by rw [List.getD_eq_getElem?_getD,List.getElem?_eq_getElem hm8];rfl
       rw [hg] at hs1 hs2
       clear hv hP hg
       (have kc1:=h3;refine w0 ?_;(repeat' first|refine W2.mk ?_ ?_|refine W1.mk fun hc=>?_);all_goals clear kc1)
       · rw [hs2 (by assumption)]
         refine aO ?_
         exact af rfl rfl
       · rename_i hc
         refine ⟨k + 1,⟨by omega,hs1.trans hc⟩,by omega,?_⟩
         exact ab
     · have hkp:probes.toNat = k:=by omega
       rw [hkp,hP]
       (refine w0 ?_;(repeat' first|refine W2.mk ?_ ?_|refine W1.mk fun hc=>?_))
       refine aO ?_
       exact af rfl rfl
end
end Go.Proofs.YtembiemaiacdfaaGreat
namespace Go.Proofs.YtembiemaiacdfaaGreat
open Go.RowKit
def fw (n:Nat) (row:List UInt8):List Bool:=(List.range n).map (cK row)
theorem kc (n:Nat) (row:List UInt8):(fw n row).length = n:=by simp [fw]
theorem wx {n:Nat} {row:List UInt8} {m:Nat} (h:m < n):(fw n row).getD m false = cK row m:=by
 simp [fw,h]
def Ad (n:Nat) (row:List UInt8):Prop:=∀ m,cK row m = true → m < n
theorem yX {n:Nat} {row:List UInt8} (h1:1 ≤ n) (probes seed r c:Int):qQ (fw n row) n probes seed r c = wv row n probes seed r c:=by
 unfold qQ wv
 congr 1
 unfold ng I4
 rw [Bool.eq_iff_iff,List.all_eq_true,List.all_eq_true]
 have:∀ i:Nat,(fw n row).getD (dp n seed (gG r c) i) false = cK row (dp n seed (gG r c) i):=fun i=>wx (by have:=jC n seed (gG r c) i (by omega);omega)
 simp only [this]
theorem Ga {bits:Int} {row:List UInt8} (_:1 ≤ bits) (hl:row.length = (bits.toNat + 7) / 8) (h:¬ kW bits row):Ad bits.toNat row:=fun m hm=>by
 rcases Nat.lt_or_ge m bits.toNat with q|q
 · exact q
 exfalso
 apply h
 have hm8:m / 8 < row.length:=by
   rcases Nat.lt_or_ge (m / 8) row.length with g|g
   · exact g
   · unfold cK at hm
     rw [List.getElem?_eq_none g] at hm
     simp at hm
 have e1:m / 8 = row.length - 1:=by omega
 have e2:0 < bits.toNat % 8:=by omega
 have e3:bits.toNat % 8 ≤ m % 8:=by omega
 refine ⟨e2,?_⟩
 unfold cK at hm
 rw [e1] at hm
 rw [List.getD_eq_getElem?_getD]
 generalize row[row.length - 1]?.getD 0 = x at *
 have:∀ j k:Fin 8,∀ x:Fin 256,j ≤ k → (UInt8.ofNat x.val &&& UInt8.ofNat (2 ^ k.val) != 0) = true → 0 < (UInt8.ofNat x.val).toNat / 2 ^ j.val:=by decide +kernel
 have:=this ⟨bits.toNat % 8,Nat.mod_lt _ (by decide)⟩ ⟨m % 8,Nat.mod_lt _ (by decide)⟩ ⟨x.toNat,x.toNat_lt⟩ e3
 simpa [jD] using this (by simpa [jD] using hm)
theorem Kx {bits:Int} {row:List UInt8} (h1:1 ≤ bits) (hl:row.length = (bits.toNat + 7) / 8) (h:Ad bits.toNat row):¬ kW bits row:=I6 h1 hl fun n hn=>by have:=h n hn;omega
theorem BU {b:List UInt8} {bits probes:Int} {row:List UInt8} (h:qR b = ((bits,probes,row),0)):F3 bits probes row = b ∧ row.length = (bits.toNat + 7) / 8 ∧ 1 ≤ bits ∧ bits ≤ 4096 ∧ 1 ≤ probes ∧ probes ≤ 8 ∧ Ad bits.toNat row:=by
 dsimp only [qR] at h
 generalize hp:aH 1 4096 b 0 = p at *
 generalize hq:aH 1 8 p.2.1 p.2.2 = q at *
 generalize hs:dG 281474976710656 q.2.1 q.2.2 = s at *
 split at h
 · rename_i hne;exact absurd (congrArg Prod.snd h) hne
 · rename_i he
   have he:=Decidable.of_not_not he
   obtain ⟨a1,a2,a3,a4,a5⟩:=nh hp hq hs he
   split at h
   · rename_i hok
     obtain ⟨hl,hnt⟩:=hok
     simp only [Prod.mk.injEq,and_true] at h
     obtain ⟨rfl,rfl,rfl⟩:=h
     refine ⟨?_,hl,a1,a2,a3,a4,Ga a1 hl hnt⟩
     obtain ⟨s1,s2,s3⟩:=s
     obtain ⟨q1,q2,q3⟩:=q
     obtain ⟨p1,p2,p3⟩:=p
     simp only at hp hq hs he ⊢
     obtain ⟨rfl,rfl⟩:=ww he
     obtain ⟨x,l1,b1,b2,b3,b4,b5⟩:=sx hs
     obtain ⟨rfl,_,_,b6⟩:=eh b1
     obtain ⟨rfl,_,_,c6⟩:=eh hq
     obtain ⟨_,_,_,d6⟩:=eh hp
     have e1:=(pT (l:=b) (e:=0) (by rw [d6])).2.2
     have e2:=(pT (l:=p2) (e:=0) (by rw [c6])).2.2
     have e3:=(pT (l:=q2) (e:=0) (by rw [b6])).2.2
     rw [d6] at e1;rw [c6] at e2;rw [b6] at e3
     simp only at e1 e2 e3
     have e4:x.toNat = l1.length:=by
       have:=congrArg List.length b3
       rw [List.length_drop,List.length_nil] at this
       omega
     have e5:s1 = l1:=by rw [b2,e4,List.take_length]
     subst e5
     have e6:x = (s1.length:Int):=by omega
     rw [e1,e2,e3,e6]
     unfold F3 ed
     rw [ni]
     simp [gQ]
   · exact absurd (congrArg Prod.snd h) (by simp)
def gH (n:Nat) (row:List UInt8) (i:Nat):List Bool:=(List.range n).map fun m=>decide (m < i) && cK row m
theorem BV (n:Nat) (row:List UInt8):gH n row 0 = List.replicate n false:=by
 apply List.ext_getElem
 · simp [gH]
 · intro i h1 h2;simp [gH]
theorem jE (n:Nat) (row:List UInt8) (i:Nat):(gH n row i).length = n:=by simp [gH]
theorem BW {n:Nat} {row:List UInt8} {i:Nat} (h:cK row i = false):gH n row (i + 1) = gH n row i:=by
 apply List.ext_getElem
 · simp [gH]
 · intro j h1 h2
   simp only [gH,List.getElem_map,List.getElem_range]
   by_cases e:j = i
   · subst e;rw [h];simp
   · congr 1
     rw [decide_eq_decide];omega
theorem Gb {n:Nat} {row:List UInt8} {i:Nat} (h:cK row i = true):(gH n row i).set i true = gH n row (i + 1):=by
 apply List.ext_getElem
 · simp [gH]
 · intro j h1 h2
   rw [List.getElem_set]
   simp only [gH,List.getElem_map,List.getElem_range]
   by_cases e:i = j
   · subst e;rw [h];simp
   · rw [if_neg e]
     congr 1
     rw [decide_eq_decide];omega
theorem Gc {n:Nat} {row:List UInt8} {i:Nat} (h:n ≤ i):gH n row i = fw n row:=by
 apply List.ext_getElem
 · simp [gH,fw]
 · intro j h1 h2
   simp only [gH,fw,List.getElem_map,List.getElem_range]
   rw [jE] at h1
   rw [decide_eq_true (by omega),Bool.true_and]
abbrev zblP:PV:=bW [ao (.slice none 0 0),ao (.int .i64 0),ao (.int .u64 0)]
def JD (x:(Int × Int × List UInt8) × Int) (seed:Int):PV:=if x.2 = 0 then lx (fw x.1.1.toNat x.1.2.2) x.1.2.1 seed else zblP
section
theorem Jc (b:List UInt8) (hb:b.length ≤ 1000000) (seed:Int):Fn Tryz.prog 56 [.per (pU b),iC .u64 seed] (.tup2 (.per (JD (qR b) seed)) (ig (qR b).2)):=by
 have hs0:b <:+ b:=List.suffix_refl b
 have hb':b.length ≤ 1000000000000:=by omega
 generalize hX:qR b = X
 dsimp only [qR] at hX
 have h1:=nR b b 0 hs0 hb' 1 4096
 have hs1:=(dy 1 4096 b 0).trans hs0
 generalize hp:aH 1 4096 b 0 = p at *
 have h2:=nR b p.2.1 p.2.2 hs1 hb' 1 8
 have hs2:=(dy 1 8 p.2.1 p.2.2).trans hs1
 generalize hq:aH 1 8 p.2.1 p.2.2 = q at *
 have h3:=Ia b q.2.1 q.2.2 hs2 hb' 281474976710656
 have hs3:=(xM 281474976710656 q.2.1 q.2.2).trans hs2
 generalize hs:dG 281474976710656 q.2.1 q.2.2 = s at *
 have h4:=J3 b s.2.1 s.2.2 hs3
 generalize hE:kI s.2.1 s.2.2 = v at *
 have e0:((b.length - b.length:Nat):Int) = 0:=by omega
 unfold pY at h1
 rw [e0] at h1
 clear hs0 hs1 hs2 hs3
 by_cases hv:v = 0
 · subst hv
   obtain ⟨a1,a2,a3,a4,a5⟩:=nh hp hq hs hE
   clear hp hq hs hE
   rw [if_neg (by simp)] at hX
   obtain ⟨n,hn⟩:=Int.eq_ofNat_of_zero_le (show 0 ≤ p.1 by omega)
   have h5:=Jb n (by omega) q.1 seed
   rw [← hn] at h5
   have hSz:=ni s.1
   by_cases hl:s.1.length = (p.1.toNat + 7) / 8
   · have hA:∀ i,cK s.1 i = true → n ≤ i → X = ((0,0,[]),11):=fun i hi hni=>by
       rw [← hX,if_neg]
       rintro ⟨_,hnt⟩
       have:=Ga a1 hl hnt i hi
       omega
     have hB:Ad n s.1 → X = ((p.1,q.1,s.1),0):=fun ht=>by
       rw [← hX,if_pos]
       exact ⟨hl,Kx a1 hl (by rwa [show p.1.toNat = n by omega])⟩
     clear hX
     obtain ⟨S,hS⟩:∃ S:ByteArray,S = ⟨s.1.toArray⟩:=⟨_,rfl⟩
     have hSl:S.data.toList = s.1:=by rw [hS]
     rw [← hS] at h3 hSz
     refine fi Tryz.func56 Tryz.ntmps56 ?_
     (have kr1:=h1;have kr2:=h2;have kr3:=h3;have kr4:=h4;have kn1:=h5;refine w0 ?_;(repeat' first|refine W2.mk ?_ ?_|refine W1.mk fun hc=>?_);all_goals clear kn1 kr4 kr3 kr2 kr1)
     refine ah (X:=Nat) (fun i=>i ≤ 8 * s.1.length ∧ ∀ m,m < i → cK s.1 m = true → m < n)
       (fun i=>aJ [(4,.ptr 4 0 0),(7,iC .i64 p.1),(9,sC S),(10,.ptr 10 0 0),(11,iC .i64 (i:Nat))] [(4,.box 50 [.per (ao (.slice none 0 0)),iC .i64 0,iC .u64 0]),(10,.box 50 [.row 32 0,iC .i64 q.1,iC .u64 seed]),(32,yW (gH n s.1 i))]) (fun i=>8 * s.1.length - i) 0 ⟨Nat.zero_le _,fun m hm=>by omega⟩ ?_ ?_
     · rw [BV]
       exact ab
     · rintro i ⟨g1,g2⟩
       clear h1 h2 h3 h4 h5
       by_cases hi:i < 8 * s.1.length
       · have hi8:i / 8 < s.1.length:=by omega
         have hcx:S.data.toList[i / 8]? = some s.1[i / 8]:=by rw [hSl];exact List.getElem?_eq_getElem hi8
         have hz:(i:Int) / 8 = ((i / 8:Nat):Int):=by omega
         have hbd:=@Ja s.1[i / 8] i
         have hbit:cK s.1 i = (s.1[i / 8] &&& jD i != 0):=by unfold cK;rw [List.getElem?_eq_getElem hi8];rfl
         rw [← hbit] at hbd
         clear hbit
         have hx:=s.1[i / 8].toNat_lt
         generalize s.1[i / 8] = x at *
         (repeat' (first|refine cl ?_|refine bh ?_|refine bx ?_|refine bz ?_|refine cm ?_|refine aW ?_|refine cv dm ?_|refine cj ?_|refine ck (by kernel_rfl) ?_|(refine eU rfl rfl ⟨fun hc=>?_,fun hc=>?_⟩ <;> (repeat rw [List.length_map] at hc) <;> (try exact cP hc))|((first|apply aB rfl|apply aC rfl|apply aD rfl|apply aF rfl);focus (first|((apply ax 13;(focus rfl);exact gk ⟨rfl,rfl,rfl⟩ rfl inferInstance rfl rfl hz hcx))|(apply bt;(focus rfl);apply ag rfl rfl rfl rfl rfl;((apply ax 13;(focus rfl);exact gk ⟨rfl,rfl,rfl⟩ rfl inferInstance rfl rfl hz hcx)))|exact dn|fail))|refine bB ?_|refine bD ?_|refine bF ?_|refine dv ?_|refine dw ?_|refine bG ?_|refine bi rfl ?_|((first|refine eV rfl rfl rfl ⟨fun hc=>?_,fun hc=>?_⟩|refine eW rfl rfl rfl ⟨fun hc=>?_,fun hc=>?_⟩) <;> (fail_if_success (have q:(true = true):=hc)) <;> (fail_if_success (have q:(false = false):=hc)) <;> (repeat rw [List.length_map] at hc) <;> (try exact cP hc))|refine aZ rfl rfl (fun hc=>?_) ?_))
         refine ah (X:=Nat × Nat) (fun t=>t.1 ≤ i % 8 ∧ t.2 = x.toNat / 2 ^ t.1)
           (fun t=>aJ [(4,.ptr 4 0 0),(7,iC .i64 p.1),(9,sC S),(10,.ptr 10 0 0),(11,iC .i64 (i:Nat)),(12,iC .i64 (t.2:Nat)),(13,iC .i64 (t.1:Nat))] [(4,.box 50 [.per (ao (.slice none 0 0)),iC .i64 0,iC .u64 0]),(10,.box 50 [.row 32 0,iC .i64 q.1,iC .u64 seed]),(32,yW (gH n s.1 i))]) (fun t=>i % 8 - t.1) (0,x.toNat) ⟨Nat.zero_le _,by simp⟩ ?_ ?_
         · exact ab
         · rintro ⟨k,y⟩ ⟨hk,hy0⟩
           simp only at hk hy0 ⊢
           by_cases hlt:k < i % 8
           · obtain ⟨z,hz2⟩:∃ z,z = x.toNat / 2 ^ (k + 1):=⟨_,rfl⟩
             have hdv:(y:Int) / 2 = (z:Int):=by
               rw [hz2,hy0,Nat.pow_succ,← Nat.div_div_eq_div_mul];omega
             have hle:y ≤ x.toNat:=by rw [hy0];exact Nat.div_le_self _ _
             clear hy0
             (refine w0 ?_;(repeat' first|refine W2.mk ?_ ?_|refine W1.mk fun hc=>?_))
             refine ⟨(k + 1,z),⟨by simp only;omega,hz2⟩,by simp only;omega,?_⟩
             exact ab
           · obtain rfl:k = i % 8:=by omega
             have hle:y ≤ x.toNat:=by rw [hy0];exact Nat.div_le_self _ _
             have HJ:∀ hin:i < n,((gH n s.1 i).map boolP)[i]? = some (boolP ((gH n s.1 i)[i]'(by rw [jE];exact hin))):=fun hin=>by rw [List.getElem?_map,List.getElem?_eq_getElem (by rw [jE];exact hin)];rfl
             have hul:=jE n s.1 i
             rw [← hy0] at hbd
             clear hy0
             by_cases hbt:cK s.1 i = true
             · have hy:(y:Int) % 2 = 1:=hbd.2 hbt
               by_cases hin:i < n
               · replace HJ:=HJ hin
                 have HS:((gH n s.1 i).map boolP).set i (bL (boolP ((gH n s.1 i)[i]'(by rw [jE];exact hin))) 0 (boolP true)) = (gH n s.1 (i + 1)).map boolP:=by
                   rw [← Gb hbt,List.map_set];rfl
                 generalize (gH n s.1 i)[i]'(by rw [jE];exact hin) = bb at *
                 generalize gH n s.1 i = U at *
                 (refine w0 ?_;(repeat' (first|refine W2.mk ?_ ?_|refine W1.mk fun hc=>?_|((first|apply aB rfl|apply aC rfl|apply aD rfl|apply aF rfl);(focus (first|((apply ax 6;(focus rfl);exact al ⟨rfl,rfl⟩ rfl inferInstance rfl rfl rfl rfl HJ rfl (aG rfl rfl rfl) rfl HS))|(apply bt;(focus rfl);apply ag rfl rfl rfl rfl rfl;first|((apply ax 6;(focus rfl);exact al ⟨rfl,rfl⟩ rfl inferInstance rfl rfl rfl rfl HJ rfl (aG rfl rfl rfl) rfl HS)))));refine w0 ?_))))
                 refine ⟨i + 1,⟨by omega,fun m hm hh=>?_⟩,by omega,?_⟩
                 · rcases Nat.lt_or_ge m i with q|q
                   · exact g2 m q hh
                   · omega
                 · exact ab
               · have hX:=hA i hbt (by omega)
                 subst hX
                 (refine w0 ?_;(repeat' first|refine W2.mk ?_ ?_|refine W1.mk fun hc=>?_))
                 refine ⟨.inl rfl,uK rfl ?_ ?_⟩
                 · exact ec inferInstance inferInstance rfl rfl rfl rfl rfl rfl
                 · exact az rfl rfl
             · have hy:¬ (y:Int) % 2 = 1:=fun q=>hbt (hbd.1 q)
               have hsk:=BW (n:=n) (by simpa using hbt:cK s.1 i = false)
               rw [← hsk]
               clear HJ
               (refine w0 ?_;(repeat' first|refine W2.mk ?_ ?_|refine W1.mk fun hc=>?_))
               refine ⟨i + 1,⟨by omega,fun m hm hh=>?_⟩,by omega,?_⟩
               · rcases Nat.lt_or_ge m i with q|q
                 · exact g2 m q hh
                 · obtain rfl:m = i:=by omega
                   exact absurd hh hbt
               · exact ab
       · have hi':i = 8 * s.1.length:=by omega
         have hX:=hB fun m hm=>by
           rcases Nat.lt_or_ge m i with q|q
           · exact g2 m q hm
           · exfalso
             unfold cK at hm
             rw [List.getElem?_eq_none (by omega)] at hm
             simp at hm
         subst hX
         rw [Gc (by omega)]
         have hV:JD ((p.1,q.1,s.1),0) seed = lx (fw n s.1) q.1 seed:=by unfold JD;rw [if_pos rfl,show p.1.toNat = n by omega]
         rw [hV]
         (refine w0 ?_;(repeat' first|refine W2.mk ?_ ?_|refine W1.mk fun hc=>?_))
         refine ⟨.inl rfl,jW (gl 32 _ 4 1 rfl rfl) (uK rfl ?_ ?_)⟩
         · exact ec inferInstance inferInstance rfl rfl rfl rfl rfl rfl
         · exact az rfl rfl
   · rw [if_neg (fun q=>hl q.1)] at hX
     subst hX
     refine fi Tryz.func56 Tryz.ntmps56 ?_
     (have kr1:=h1;have kr2:=h2;have kr3:=h3;have kr4:=h4;have kn1:=h5;refine w0 ?_;(repeat' first|refine W2.mk ?_ ?_|refine W1.mk fun hc=>?_);all_goals clear kn1 kr4 kr3 kr2 kr1)
     refine ⟨.inl rfl,uK rfl ?_ ?_⟩
     · exact ec inferInstance inferInstance rfl rfl rfl rfl rfl rfl
     · exact az rfl rfl
 · rw [if_pos hv] at hX
   subst hX
   have hV:JD ((0,0,[]),v) seed = zblP:=by unfold JD;rw [if_neg hv]
   rw [hV]
   refine fi Tryz.func56 Tryz.ntmps56 ?_
   (have kr1:=h1;have kr2:=h2;have kr3:=h3;have kr4:=h4;refine w0 ?_;(repeat' first|refine W2.mk ?_ ?_|refine W1.mk fun hc=>?_);all_goals clear kr4 kr3 kr2 kr1)
   refine ⟨.inl rfl,uK rfl ?_ ?_⟩
   · exact ec inferInstance inferInstance rfl rfl rfl rfl rfl rfl
   · exact az rfl rfl
end
end Go.Proofs.YtembiemaiacdfaaGreat
