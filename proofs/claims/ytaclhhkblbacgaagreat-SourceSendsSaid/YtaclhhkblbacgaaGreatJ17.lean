/- Texts joined: Bl. -/
import Derived.Test.YtaclhhkblbacgaaGreatJ16
set_option maxRecDepth 10000
set_option maxHeartbeats 8000000
namespace Go.Proofs.YtaclhhkblbacgaaGreat
open Go.RowKit Go.Proofs.Tryz
variable {row:List UInt8} {n:Nat}
theorem Qc {top N:BP}{l:List UInt8}{w:World}{v:Value}(h:eH top N 1 [[aK l]] w v):TH w v [l]:=by
 obtain⟨ad,c,b,of,h1,h2,h3,h4,h5,h6⟩:=h
 obtain⟨_,q⟩:=h6 0 [aK l] rfl
 obtain⟨y,r1,_,r3⟩:=q 0 (aK l) rfl
 refine⟨[y],rfl,⟨ad,c,b,of,h1,h2,h3,fun h0=>(h5 h0).1,h4,fun i x hx j u hu=>?_⟩,fun i h h'=>?_⟩
 ·cases i with
  | succ i=>simp at hx
  | zero=>
   simp at hx;subst hx
   cases j with
   | succ j=>simp[O0]at hu
   | zero=>simp[O0]at hu;subst hu;exact r1
 ·obtain rfl:i=0:=by simp at h;omega
  exact uf r3
theorem Qd (seed:Int)(l:List UInt8):Fn prog 266 [iC .u64 seed,.bor 1 [[aK l]]] (.per (ak (.int .u64 (gI seed l)))):=by
 refine⟨⟨_,func266,by kernel_rfl,by kernel_rfl⟩,fun N0 w vs _ ha=>?_⟩
 obtain⟨v,u,rfl,h1,h2⟩:=BH ha
 obtain rfl:v=.int .u64 seed:=h1
 refine Calls.mono (EC seed u [l] w (Qc h2)) ?_
 rintro e w' ⟨rfl,rfl⟩
 exact⟨_,rfl,eX.refl _,by simp;rfl⟩
theorem SD (seed:Int)(l:List UInt8):Fn prog 353 [iC .u64 seed,dS l] (.per (ak (.int .u64 (gI seed l)))):=by
 refine⟨⟨_,func353,by kernel_rfl,by kernel_rfl⟩,fun N0 w vs _ ha=>?_⟩
 obtain⟨v,u,rfl,h1,h2⟩:=BH ha
 obtain rfl:v=.int .u64 seed:=h1
 refine Calls.mono (IE seed u l w (uf h2)) ?_
 rintro e w' ⟨rfl,rfl⟩
 exact⟨_,rfl,eX.refl _,rfl⟩
abbrev U3 (bits probes seed:Int)(row:List UInt8):PV:=fM [ak (.int .i64 bits),ak (.int .i64 probes),ak (.int .u64 seed),cA 1 (row.map byteP)]
abbrev Ub (row:List UInt8):Blk:=.row 5 1 (row.map byteP)
structure Uc (bits probes:Int)(row:List UInt8):Prop where
 b1:1≤bits
 b2:bits≤4096
 p1:1≤probes
 p2:probes≤8
 len:row.length=(bits.toNat+7) / 8
theorem xP (n:Nat):List.replicate n [ak (.int .u8 0)]=(List.replicate n (0:UInt8)).map byteP:=by
 rw[List.map_replicate];rfl
theorem Mj {row:List UInt8}{bits seed:Int}{l:List UInt8}{k q:Nat}(hk:k<q)(h:ei row (eV bits seed l (k:Int))=false):P7 row bits seed l q=false:=by
 rw[P7,List.all_eq_false]
 exact⟨k,List.mem_range.2 hk,by simp[h]⟩
theorem Mk {m:Nat}(h:m / 8<row.length):bits BinOp.and IntKind.u8 ((row[m / 8].toNat:Nat):Int) ((2 ^ (m % 8):Nat):Int)=0↔ei row m=false:=by
 rw[Mg]
 unfold ei
 rw[V4 h,Option.getD_some]
 simp only[bne_eq_false_iff_eq]
 constructor
 ·intro q;exact Xj.1 (by simpa using q)
 ·intro q;rw[q];rfl
theorem Qf {m:Nat}:IntKind.u8.wrap (1*2 ^ min (((m % 8:Nat):Int)).toNat IntKind.u8.bits)=((2 ^ (m % 8):Nat):Int):=by
 rw[Int.toNat_natCast]
 have h:m % 8<8:=XG _ bz
 have:∀k:Fin 8,IntKind.u8.wrap (1*2 ^ min k.val IntKind.u8.bits)=((2 ^ k.val:Nat):Int):=bz
 exact this ⟨m % 8,h⟩
instance (b:Int) (s:List UInt8):Decidable (nJ b s):=by unfold nJ;infer_instance
theorem Ml (bits probes seed:Int)(h1:1≤bits)(h2:bits≤4096)(h3:1≤probes)(h4:probes≤8) :
 dh prog 196 [iC .i64 bits,iC .i64 probes,iC .u64 seed] [] (.tup2 (.ptr 3000 0 0) (iC .i64 0)) [(3000,.box 266 [iC .i64 bits,iC .i64 probes,iC .u64 seed,.row 3001 0]),(3001,Ub (List.replicate ((bits.toNat+7) / 8) 0))]:=by
 refine dH func196 ntmps196 ?_
 (repeat' (first|refine ck ?_|refine bi ?_|refine bA ?_|refine bB ?_|refine cn ?_|refine aU ?_|refine bV cI ?_|refine ci ?_|refine cj (by kernel_rfl) ?_|(refine dL rfl rfl ⟨fun hc=>?_,fun hc=>?_⟩<;>(repeat rw[V7]at hc)<;>(try exact ce hc))|((first|apply aB rfl|apply aC rfl|apply aD rfl|apply aF rfl);focus (first|((exact Cc (m:=(bits.toNat+7) / 8) ⟨rfl,rfl,rfl⟩ rfl inferInstance inferInstance rfl rfl rfl rfl ab ab))|(apply bI;(focus rfl);apply ag rfl rfl rfl rfl rfl;((exact Cc (m:=(bits.toNat+7) / 8) ⟨rfl,rfl,rfl⟩ rfl inferInstance inferInstance rfl rfl rfl rfl ab ab)))|exact cz|fail))|refine bD ?_|refine bF ?_|refine bG ?_|refine de ?_|refine dg ?_|refine bH ?_|refine bj rfl ?_|((first|refine dM rfl rfl rfl ⟨fun hc=>?_,fun hc=>?_⟩|refine dN rfl rfl rfl ⟨fun hc=>?_,fun hc=>?_⟩)<;>(fail_if_success (have q:(true=true):=hc))<;>(fail_if_success (have q:(false=false):=hc))<;>(repeat rw[V7]at hc)<;>(try exact ce hc))|refine aH rfl rfl (fun hc=>?_) ?_))
 (refine⟨(by first|exact .inl rfl|exact .inr rfl),Bo [(31,3000),(29,3001)] rfl rfl ?_ ?_ ?_⟩;(focus (repeat (first|exact eh.nil|(refine eh.cons rfl ?_ ?_;(focus first|rfl|skip))))))
 ·first|exact Wx (Blk.row _ 1) (xP _)|exact Wx (Blk.row _ 1) (xP _).symm
 ·exact eh.nil
 ·exact um rfl rfl
 ·exact bm rfl rfl
theorem Mm (r c:Int)(hr:bL r)(hc:bL c):Fn prog 357 [sD r c] (gz (j6 r c)):=by
 have h:=ju [] [r,c] au (Ua hr hc)
 rw[Wu,Gk]at h
 refine fi func357 ntmps357 ?_
 (refine aq h ?_)
 exact dw (cJ rfl rfl rfl rfl)
theorem Mn (bits probes seed:Int)(row l:List UInt8)(i:Nat)(hi:i≤1000)(h1:1≤bits)(h2:bits≤4096) :
 Fn prog 358 [.per (U3 bits probes seed row),.per (aK l),iC .i64 (i:Nat)] (.tup2 (el ((eV bits seed l i / 8:Nat):Int)) (.per (ak (.int .u8 ((2 ^ (eV bits seed l i % 8):Nat):Int))))):=by
 have hlt:=lS bits seed l i h1
 have hwi:IntKind.u64.wrap (i:Int)=(i:Int):=kz ab ab
 have hH:=Qd (IntKind.u64.wrap (seed+i)) l
 have hP:(gI (IntKind.u64.wrap (seed+i)) l).tmod bits=((eV bits seed l i:Nat):Int):=by
  have hnn:0≤gI (IntKind.u64.wrap (seed+i)) l:=by unfold gI rO;exact tC _ _
  unfold eV
  rw[hwi,Int.tmod_eq_emod_of_nonneg hnn,Xu (Int.emod_nonneg _ ab)]
 have hsh:=@Qf (eV bits seed l i)
 generalize gI (IntKind.u64.wrap (seed+i)) l=H at *
 generalize eV bits seed l i=m at *
 have hm8:((m / 8:Nat):Int)=(m:Int) / 8:=ab
 have hm9:((m % 8:Nat):Int)=(m:Int) % 8:=ab
 rw[hm9]at hsh
 rw[hm8]
 refine fi func358 ntmps358 ?_
 (repeat' (first|refine ck ?_|refine bi ?_|refine bA ?_|refine bB ?_|refine cn ?_|refine aU ?_|refine bV cI ?_|refine ci ?_|refine cj (by kernel_rfl) ?_|(refine dL rfl rfl ⟨fun hc=>?_,fun hc=>?_⟩<;>(repeat rw[V7]at hc)<;>(try exact ce hc))|((first|apply aB rfl|apply aC rfl|apply aD rfl|apply aF rfl);focus (first|((apply aZ 10;(focus rfl);exact d8 ⟨rfl,rfl,rfl⟩ rfl inferInstance inferInstance rfl (by with_reducible exact kz ab ab)))|(apply bI;(focus rfl);apply ag rfl rfl rfl rfl rfl;((apply aZ 10;(focus rfl);exact d8 ⟨rfl,rfl,rfl⟩ rfl inferInstance inferInstance rfl (by with_reducible exact kz ab ab))))|((apply aZ 8;(focus rfl);exact gC ⟨rfl,rfl,rfl⟩ rfl rfl rfl rfl ((cU ab ab).trans (by assumption))))|(apply bI;(focus rfl);apply ag rfl rfl rfl rfl rfl;((apply aZ 8;(focus rfl);exact gC ⟨rfl,rfl,rfl⟩ rfl rfl rfl rfl ((cU ab ab).trans (by assumption)))))|((exact rr ⟨rfl,rfl,rfl⟩ rfl rfl rfl ab hP))|(apply bI;(focus rfl);apply ag rfl rfl rfl rfl rfl;((exact rr ⟨rfl,rfl,rfl⟩ rfl rfl rfl ab hP)))|((exact zo ⟨rfl,rfl,rfl⟩ rfl rfl rfl ab hsh))|(apply bI;(focus rfl);apply ag rfl rfl rfl rfl rfl;((exact zo ⟨rfl,rfl,rfl⟩ rfl rfl rfl ab hsh)))|exact cz|exact nf (hH)|fail))|refine bD ?_|refine bF ?_|refine bG ?_|refine de ?_|refine dg ?_|refine bH ?_|refine bj rfl ?_|((first|refine dM rfl rfl rfl ⟨fun hc=>?_,fun hc=>?_⟩|refine dN rfl rfl rfl ⟨fun hc=>?_,fun hc=>?_⟩)<;>(fail_if_success (have q:(true=true):=hc))<;>(fail_if_success (have q:(false=false):=hc))<;>(repeat rw[V7]at hc)<;>(try exact ce hc))|refine aH rfl rfl (fun hc=>?_) ?_))
 exact d9 (al rfl rfl) (al rfl rfl)
theorem SE (bits probes seed:Int)(row:List UInt8)(hb:Uc bits probes row)(r c:Int):Fn prog 351 [.per (U3 bits probes seed row),sD r c] (dq (Cf row bits probes seed r c)):=by
 obtain⟨b1,b2,p1,p2,hlen⟩:=hb
 have h1:=oB r c
 cases hr:gm r c with
 | false=>
  rw[hr]at h1
  rw[show Cf row bits probes seed r c=false by unfold Cf;rw[hr];rfl]
  refine fi func351 ntmps351 ?_
  (refine aq h1 ?_;repeat' first|apply ah|refine ai fun hc=>?_)
  exact dp
 | true=>
  rw[hr]at h1
  obtain⟨o1,o2⟩:=Mf hr
  have h2:=(Mm r c o1 o2).frz
  rw[show Cf row bits probes seed r c=P7 row bits seed (j6 r c) probes.toNat by unfold Cf;rw[hr];rfl]
  generalize j6 r c=l at *
  refine fi func351 ntmps351 ?_
  (refine bg h1 h2 ?_;repeat' first|apply ah|refine ai fun hc=>?_)
  refine aj (X:=Nat) (fun k=>(k:Int)≤probes∧P7 row bits seed l k=true)
   (fun k=>ay [(0,.per (U3 bits probes seed row)),(5,.per (aK l)),(28,iC .i64 probes),(29,iC .i64 (k:Nat))] []) (fun k=>probes.toNat-k) 0 ⟨ab,rfl⟩ ?_
  rintro k ⟨hk,hP⟩
  by_cases hlt:(k:Int)<probes
  ·have h3:=Mn bits probes seed row l k ab b1 b2
   have hml:=lS bits seed l k b1
   have hs1:=Mh row bits seed l k
   have hs2:=@Mj row bits seed l k probes.toNat ab
   rw[hP,WP]at hs1
   generalize eV bits seed l k=m at *
   have hm8:m / 8<row.length:=ab
   have haz:=Mk hm8
   clear h1 h2 hP
   (repeat' (first|refine ck ?_|refine bi ?_|refine bA ?_|refine bB ?_|refine cn ?_|refine aU ?_|refine bV cI ?_|refine ci ?_|refine cj (by kernel_rfl) ?_|(refine dL rfl rfl ⟨fun hc=>?_,fun hc=>?_⟩<;>(repeat rw[V7]at hc)<;>(try exact ce hc))|((first|apply aB rfl|apply aC rfl|apply aD rfl|apply aF rfl);focus (first|((exact zn ⟨rfl,rfl,rfl⟩ rfl rfl rfl rfl))|(apply bI;(focus rfl);apply ag rfl rfl rfl rfl rfl;((exact zn ⟨rfl,rfl,rfl⟩ rfl rfl rfl rfl)))|exact cz|exact nf (h3)|fail))|refine bD ?_|refine bF ?_|refine bG ?_|refine de ?_|refine dg ?_|refine bH ?_|refine bj rfl ?_|((first|refine dM rfl rfl rfl ⟨fun hc=>?_,fun hc=>?_⟩|refine dN rfl rfl rfl ⟨fun hc=>?_,fun hc=>?_⟩)<;>(fail_if_success (have q:(true=true):=hc))<;>(fail_if_success (have q:(false=false):=hc))<;>(repeat rw[V7]at hc)<;>(try exact ce hc))|refine aH rfl rfl (fun hc=>?_) ?_))
   ·rw[hs2 (haz.1 hc)]
    exact dp
   ·have hm1:ei row m=true:=by
     cases hh:ei row m with
     | true=>rfl
     | false=>exact absurd (haz.2 hh) hc
    rw[hm1]at hs1
    refine⟨k+1,⟨ab,hs1⟩,ab,?_⟩
    exact ae
  ·have hkp:probes.toNat=k:=ab
   rw[hkp,hP]
   (refine w0 ?_;repeat' first|apply ah|refine ai fun hc=>?_)
   exact dp
def nb (b:List UInt8):(Int×Int×List UInt8)×Int:=
 let p:=af 1 4096 b 0
 let q:=af 1 8 p.2.1 p.2.2
 let s:=aW 281474976710656 q.2.1 q.2.2
 let e:=di s.2.1 s.2.2
 if e≠0 then((0,0,[]),e)else if s.1.length=(p.1.toNat+7) / 8∧¬nJ p.1 s.1 then((p.1,q.1,s.1),0)else((0,0,[]),11)
theorem qz {b:List UInt8}{p q:Int×List UInt8×Int}{s:List UInt8×List UInt8×Int}(h1:af 1 4096 b 0=p)(h2:af 1 8 p.2.1 p.2.2=q)(h3:aW 281474976710656 q.2.1 q.2.2=s)(h4:di s.2.1 s.2.2=0) :
 1≤p.1∧p.1≤4096∧1≤q.1∧q.1≤8∧s.1.length≤b.length:=by
 obtain⟨s1,s2,s3⟩:=s
 obtain⟨q1,q2,q3⟩:=q
 obtain⟨p1,p2,p3⟩:=p
 simp only at h1 h2 h3 h4 ⊢
 obtain⟨rfl,_⟩:=Cg h4
 obtain⟨x,l1,a1,a2,a3,a4,a5⟩:=xO h3
 obtain⟨rfl,_,_,_⟩:=gJ a1
 obtain⟨rfl,b1,b2,_⟩:=gJ h2
 obtain⟨_,c1,c2,_⟩:=gJ h1
 refine⟨c1,c2,b1,b2,?_⟩
 have e1:=(ao 1 4096 b 0).length_le
 have e2:=(ao 1 8 p2 0).length_le
 have e3:=(ao 0 281474976710656 q2 0).length_le
 rw[h1]at e1;rw[h2]at e2;rw[a1]at e3
 simp only at e1 e2 e3
 rw[a2,WA];omega
theorem qA (s:List UInt8):(ByteArray.mk s.toArray).size=s.length:=by simp[ByteArray.size]
theorem Gl {p:Int}{s:List UInt8}(h1:1≤p)(hl:s.length=(p.toNat+7) / 8):∃hk:(((ByteArray.mk s.toArray).size:Int)-1).toNat<(ByteArray.mk s.toArray).data.toList.length,
 (nJ p s↔(p % 8>0∧(((ByteArray.mk s.toArray).data.toList[(((ByteArray.mk s.toArray).size:Int)-1).toNat].toNat:Nat):Int) / 2 ^ min (p % 8).toNat IntKind.u8.bits>0)):=by
 obtain⟨n,rfl⟩:=Int.eq_ofNat_of_zero_le (show 0≤p by omega)
 have h0:0<s.length:=ab
 have e1:(((ByteArray.mk s.toArray).size:Int)-1).toNat=s.length-1:=by rw[qA];omega
 refine⟨by rw[e1];show s.length-1<s.length;omega,?_⟩
 have e2:((n:Int) % 8).toNat=n % 8:=ab
 have e3:min (n % 8) IntKind.u8.bits=n % 8:=by show min (n % 8) 8=_;omega
 have e4:∀hk,(ByteArray.mk s.toArray).data.toList[(((ByteArray.mk s.toArray).size:Int)-1).toNat]'hk=s.getD (s.length-1) 0:=by
  intro hk
  simp only[e1]
  rw[Xg,V4 ab];rfl
 rw[e4,e2,e3]
 unfold nJ
 rw[Int.toNat_natCast]
 rw[show((2:Int) ^ (n % 8))=((2 ^ (n % 8):Nat):Int)by simp,←Int.natCast_ediv]
 omega
theorem EG (b:List UInt8)(hb:b.length≤1000000)(seed:Int){x:Int×Int×List UInt8}{e:Int}(h:nb b=(x,e))(he:e≠0):Fn prog 119 [dS b,iC .u64 seed] (.tup2 (.per (ak (.pointer none))) (el e)):=by
 dsimp only [nb]at h
 have h1:=db b 0 1 4096
 generalize hp:af 1 4096 b 0=p at *
 have h2:=db p.2.1 p.2.2 1 8
 generalize hq:af 1 8 p.2.1 p.2.2=q at *
 have h3:=mM q.2.1 q.2.2 281474976710656
 generalize hs:aW 281474976710656 q.2.1 q.2.2=s at *
 have h4:=xB s.2.1 s.2.2
 generalize hE:di s.2.1 s.2.2=v at *
 by_cases hv:v=0
 ·subst hv
  obtain⟨a1,a2,a3,a4,a5⟩:=qz hp hq hs hE
  clear hp hq hs hE
  have h5:=Ml p.1 q.1 seed a1 a2 a3 a4
  have hSz:=qA s.1
  rw[V3 au]at h
  split at h
  ·exact absurd (Wx Prod.snd h).symm he
  ·rename_i hno
   obtain rfl:(11:Int)=e:=Wx Prod.snd h
   clear h
   by_cases hlen:s.1.length=(p.1.toNat+7) / 8
   ·obtain⟨hk,hT⟩:=Gl a1 hlen
    have hT:=hT.1 (Decidable.of_not_not fun q=>hno ⟨hlen,q⟩)
    generalize hZ:(((ByteArray.mk s.1.toArray).data.toList[(((ByteArray.mk s.1.toArray).size:Int)-1).toNat]'hk).toNat:Int) / 2 ^ min (p.1 % 8).toNat IntKind.u8.bits=Z at *
    clear hno
    refine fi func119 ntmps119 ?_
    (repeat' (first|refine ck ?_|refine bi ?_|refine bA ?_|refine bB ?_|refine cn ?_|refine aU ?_|refine bV cI ?_|refine ci ?_|refine cj (by kernel_rfl) ?_|(refine dL rfl rfl ⟨fun hc=>?_,fun hc=>?_⟩<;>(repeat rw[V7]at hc)<;>(try exact ce hc))|((first|apply aB rfl|apply aC rfl|apply aD rfl|apply aF rfl);focus (first|((apply aZ 13;(focus rfl);exact lJ ⟨rfl,rfl,rfl⟩ rfl inferInstance rfl rfl ab hk))|(apply bI;(focus rfl);apply ag rfl rfl rfl rfl rfl;((apply aZ 13;(focus rfl);exact lJ ⟨rfl,rfl,rfl⟩ rfl inferInstance rfl rfl ab hk)))|((exact jA ⟨rfl,rfl,rfl⟩ rfl rfl rfl ab hZ))|(apply bI;(focus rfl);apply ag rfl rfl rfl rfl rfl;((exact jA ⟨rfl,rfl,rfl⟩ rfl rfl rfl ab hZ)))|exact cz|exact Lk (lO b ab)|exact m9 (h1)|exact m9 (h2)|exact m9 (h3)|exact m9 (h4)|exact TX [(3000,650),(3001,651)] (h5)|fail))|refine bD ?_|refine bF ?_|refine bG ?_|refine de ?_|refine dg ?_|refine bH ?_|refine bj rfl ?_|((first|refine dM rfl rfl rfl ⟨fun hc=>?_,fun hc=>?_⟩|refine dN rfl rfl rfl ⟨fun hc=>?_,fun hc=>?_⟩)<;>(fail_if_success (have q:(true=true):=hc))<;>(fail_if_success (have q:(false=false):=hc))<;>(repeat rw[V7]at hc)<;>(try exact ce hc))|refine aH rfl rfl (fun hc=>?_) ?_))
    exact d9 (dA rfl) (al rfl rfl)
   ·clear hno
    refine fi func119 ntmps119 ?_
    (have kn1:=lO b ab;have kr1:=h1;have kr2:=h2;have kr3:=h3;have kr4:=h4;have km1:=(show kW [(3000,650),(3001,651)] _ _ _ _ _ _ from h5);refine w0 ?_;(repeat' first|apply ah|refine ai fun hc=>?_);all_goals clear km1 kr4 kr3 kr2 kr1 kn1)
    ·exact d9 (dA rfl) (al rfl rfl)
    all_goals (exfalso;simp only[List.length_replicate]at *;omega)
 ·rw[V6 hv]at h
  obtain rfl:v=e:=Wx Prod.snd h
  refine fi func119 ntmps119 ?_
  (refine uv h1 h2 h3 h4 (lO b ab) ?_;repeat' first|apply ah|refine ai fun hc=>?_)
  exact d9 (dA rfl) (al rfl rfl)
theorem va (b:List UInt8)(hb:b.length≤1000000)(seed:Int){bits probes:Int}(h:nb b=((bits,probes,row),0)) :
 Uc bits probes row∧Fn prog 119 [dS b,iC .u64 seed] (.tup2 (.per (U3 bits probes seed row)) (el 0)):=by
 dsimp only [nb]at h
 have h1:=db b 0 1 4096
 generalize hp:af 1 4096 b 0=p at *
 have h2:=db p.2.1 p.2.2 1 8
 generalize hq:af 1 8 p.2.1 p.2.2=q at *
 have h3:=mM q.2.1 q.2.2 281474976710656
 generalize hs:aW 281474976710656 q.2.1 q.2.2=s at *
 have h4:=xB s.2.1 s.2.2
 generalize hE:di s.2.1 s.2.2=v at *
 by_cases hv:v=0
 ·subst hv
  obtain⟨a1,a2,a3,a4,a5⟩:=qz hp hq hs hE
  clear hp hq hs hE
  rw[V3 au]at h
  split at h
  ·rename_i hok
   obtain⟨hlen,hnt⟩:=hok
   simp only[Prod.mk.injEq,and_true]at h
   obtain⟨rfl,rfl,rfl⟩:=h
   have h5:=Ml p.1 q.1 seed a1 a2 a3 a4
   have hSz:=qA s.1
   refine⟨⟨a1,a2,a3,a4,hlen⟩,?_⟩
   obtain⟨hk,hT⟩:=Gl a1 hlen
   rw[hT]at hnt
   have hlz:(ByteArray.mk s.1.toArray).size=((List.replicate ((p.1.toNat+7) / 8) (0:UInt8)).map byteP).length:=by simp[hSz,hlen]
   have hl0:0<((List.replicate ((p.1.toNat+7) / 8) (0:UInt8)).map byteP).length:=bn
   generalize hZ:(((ByteArray.mk s.1.toArray).data.toList[(((ByteArray.mk s.1.toArray).size:Int)-1).toNat]'hk).toNat:Int) / 2 ^ min (p.1 % 8).toNat IntKind.u8.bits=Z at *
   clear hT
   refine fi func119 ntmps119 ?_
   (repeat' (first|refine ck ?_|refine bi ?_|refine bA ?_|refine bB ?_|refine cn ?_|refine aU ?_|refine bV cI ?_|refine ci ?_|refine cj (by kernel_rfl) ?_|(refine dL rfl rfl ⟨fun hc=>?_,fun hc=>?_⟩<;>(repeat rw[V7]at hc)<;>(try exact ce hc))|((first|apply aB rfl|apply aC rfl|apply aD rfl|apply aF rfl);focus (first|((apply aZ 13;(focus rfl);exact lJ ⟨rfl,rfl,rfl⟩ rfl inferInstance rfl rfl ab hk))|(apply bI;(focus rfl);apply ag rfl rfl rfl rfl rfl;((apply aZ 13;(focus rfl);exact lJ ⟨rfl,rfl,rfl⟩ rfl inferInstance rfl rfl ab hk)))|((exact jA ⟨rfl,rfl,rfl⟩ rfl rfl rfl ab hZ))|(apply bI;(focus rfl);apply ag rfl rfl rfl rfl rfl;((exact jA ⟨rfl,rfl,rfl⟩ rfl rfl rfl ab hZ)))|((exact Gj ⟨rfl,rfl,rfl⟩ rfl inferInstance rfl rfl rfl rfl hlz hl0))|(apply bI;(focus rfl);apply ag rfl rfl rfl rfl rfl;((exact Gj ⟨rfl,rfl,rfl⟩ rfl inferInstance rfl rfl rfl rfl hlz hl0)))|exact cz|exact Lk (lO b ab)|exact m9 (h1)|exact m9 (h2)|exact m9 (h3)|exact m9 (h4)|exact TX [(3000,650),(3001,651)] (h5)|fail))|refine bD ?_|refine bF ?_|refine bG ?_|refine de ?_|refine dg ?_|refine bH ?_|refine bj rfl ?_|((first|refine dM rfl rfl rfl ⟨fun hc=>?_,fun hc=>?_⟩|refine dN rfl rfl rfl ⟨fun hc=>?_,fun hc=>?_⟩)<;>(fail_if_success (have q:(true=true):=hc))<;>(fail_if_success (have q:(false=false):=hc))<;>(repeat rw[V7]at hc)<;>(try exact ce hc))|refine aH rfl rfl (fun hc=>?_) ?_))
   all_goals
    refine⟨.inl rfl,mH (jj 651 _ 5 1 rfl rfl) (mH (rD 650 _ _ rfl rfl rfl) (AV rfl ?_ ?_))⟩
    ·exact dA rfl
    ·exact al rfl rfl
  ·exact absurd (Wx Prod.snd h) au
 ·rw[V6 hv]at h
  exact absurd (Wx Prod.snd h) hv
def boolP (b:Bool):List PV:=[ak (.bool b)]
abbrev pf (bs:List Bool)(probes seed:Int):PV:=cB [cA 1 (bs.map boolP),ak (.int .i64 probes),ak (.int .u64 seed)]
abbrev EH (bs:List Bool):Blk:=.row 4 1 (bs.map boolP)
theorem vb (n:Nat):List.replicate n [ak (.bool false)]=(List.replicate n false).map boolP:=by
 rw[List.map_replicate];rfl
theorem Qg {x:UInt8}{n:Nat}:(((x.toNat / 2 ^ (n % 8):Nat):Int) % 2=1)↔(x &&& lU n != 0)=true:=by
 have:∀k:Fin 8,∀x:Fin 256,((((UInt8.ofNat x.val).toNat / 2 ^ k.val:Nat):Int) % 2=1)↔(UInt8.ofNat x.val &&& UInt8.ofNat (2 ^ k.val) != 0)=true:=by decide +kernel
 have:=this ⟨n % 8,XG _ bz⟩ ⟨x.toNat,x.toNat_lt⟩
 simpa[lU]using this
theorem Qh (n:Nat)(hn:n≤4096)(probes seed:Int):dh prog 79 [iC .i64 (n:Nat),iC .i64 probes,iC .u64 seed] [] (qn [.row 3000 0,iC .i64 probes,iC .u64 seed]) [(3000,EH (List.replicate n false))]:=by
 refine dH func79 ntmps79 ?_
 (repeat' (first|refine ck ?_|refine bi ?_|refine bA ?_|refine bB ?_|refine cn ?_|refine aU ?_|refine bV cI ?_|refine ci ?_|refine cj (by kernel_rfl) ?_|(refine dL rfl rfl ⟨fun hc=>?_,fun hc=>?_⟩<;>(repeat rw[V7]at hc)<;>(try exact ce hc))|((first|apply aB rfl|apply aC rfl|apply aD rfl|apply aF rfl);focus (first|((exact Cc (m:=n) ⟨rfl,rfl,rfl⟩ rfl inferInstance inferInstance rfl rfl rfl rfl ab ab))|(apply bI;(focus rfl);apply ag rfl rfl rfl rfl rfl;((exact Cc (m:=n) ⟨rfl,rfl,rfl⟩ rfl inferInstance inferInstance rfl rfl rfl rfl ab ab)))|exact cz|fail))|refine bD ?_|refine bF ?_|refine bG ?_|refine de ?_|refine dg ?_|refine bH ?_|refine bj rfl ?_|((first|refine dM rfl rfl rfl ⟨fun hc=>?_,fun hc=>?_⟩|refine dN rfl rfl rfl ⟨fun hc=>?_,fun hc=>?_⟩)<;>(fail_if_success (have q:(true=true):=hc))<;>(fail_if_success (have q:(false=false):=hc))<;>(repeat rw[V7]at hc)<;>(try exact ce hc))|refine aH rfl rfl (fun hc=>?_) ?_))
 (refine⟨(by first|exact .inl rfl|exact .inr rfl),gq [(8,3000)] rfl rfl ?_ ?_⟩;(focus (repeat (first|exact eh.nil|(refine eh.cons rfl ?_ ?_;(focus first|rfl|skip))))))
 ·first|exact Wx (Blk.row _ 1) (vb _)|exact Wx (Blk.row _ 1) (vb _).symm
 ·exact eh.nil
 ·exact Ie rfl inferInstance inferInstance rfl rfl rfl rfl rfl rfl
theorem Mo (bs:List Bool)(probes seed r c:Int)(i:Nat)(hi:i≤1000)(h1:1≤bs.length)(h2:bs.length≤4096)(hr:bL r)(hc:bL c) :
 Fn prog 339 [.per (pf bs probes seed),sD r c,iC .i64 (i:Nat)] (el ((eV bs.length seed (j6 r c) i:Nat):Int)):=by
 have hlt:=lS bs.length seed (j6 r c) i ab
 have hwi:IntKind.u64.wrap (i:Int)=(i:Int):=kz ab ab
 have hp:=oA [r,c] au (Ua hr hc)
 rw[Gk]at hp
 have hH:=SD (IntKind.u64.wrap (seed+i)) (j6 r c)
 have hP:(gI (IntKind.u64.wrap (seed+i)) (j6 r c)).tmod bs.length=((eV bs.length seed (j6 r c) i:Nat):Int):=by
  have hnn:0≤gI (IntKind.u64.wrap (seed+i)) (j6 r c):=by unfold gI rO;exact tC _ _
  unfold eV
  rw[hwi,Int.tmod_eq_emod_of_nonneg hnn,Xu (Int.emod_nonneg _ ab)]
 generalize gI (IntKind.u64.wrap (seed+i)) (j6 r c)=H at *
 generalize eV bs.length seed (j6 r c) i=m at *
 generalize j6 r c=l at *
 have hmm:(m:Int)=(m:Int):=rfl
 refine fi func339 ntmps339 ?_
 (repeat' (first|refine ck ?_|refine bi ?_|refine bA ?_|refine bB ?_|refine cn ?_|refine aU ?_|refine bV cI ?_|refine ci ?_|refine cj (by kernel_rfl) ?_|(refine dL rfl rfl ⟨fun hc=>?_,fun hc=>?_⟩<;>(repeat rw[V7]at hc)<;>(try exact ce hc))|((first|apply aB rfl|apply aC rfl|apply aD rfl|apply aF rfl);focus (first|((apply aZ 10;(focus rfl);exact d8 ⟨rfl,rfl,rfl⟩ rfl inferInstance inferInstance rfl (by with_reducible exact kz ab ab)))|(apply bI;(focus rfl);apply ag rfl rfl rfl rfl rfl;((apply aZ 10;(focus rfl);exact d8 ⟨rfl,rfl,rfl⟩ rfl inferInstance inferInstance rfl (by with_reducible exact kz ab ab))))|((apply aZ 10;(focus rfl);exact d8 ⟨rfl,rfl,rfl⟩ rfl inferInstance inferInstance rfl (by with_reducible exact cU ab ab)))|(apply bI;(focus rfl);apply ag rfl rfl rfl rfl rfl;((apply aZ 10;(focus rfl);exact d8 ⟨rfl,rfl,rfl⟩ rfl inferInstance inferInstance rfl (by with_reducible exact cU ab ab))))|((exact rr ⟨rfl,rfl,rfl⟩ rfl rfl rfl ab hP))|(apply bI;(focus rfl);apply ag rfl rfl rfl rfl rfl;((exact rr ⟨rfl,rfl,rfl⟩ rfl rfl rfl ab hP)))|exact cz|exact nf (hp)|exact nf (hH)|fail))|refine bD ?_|refine bF ?_|refine bG ?_|refine de ?_|refine dg ?_|refine bH ?_|refine bj rfl ?_|((first|refine dM rfl rfl rfl ⟨fun hc=>?_,fun hc=>?_⟩|refine dN rfl rfl rfl ⟨fun hc=>?_,fun hc=>?_⟩)<;>(fail_if_success (have q:(true=true):=hc))<;>(fail_if_success (have q:(false=false):=hc))<;>(repeat rw[V7]at hc)<;>(try exact ce hc))|refine aH rfl rfl (fun hc=>?_) ?_))
 exact wo
theorem SF (bs:List Bool)(probes seed r c:Int)(h1:1≤bs.length)(h2:bs.length≤4096)(p1:0≤probes)(p2:probes≤8):Fn prog 320 [.per (pf bs probes seed),sD r c] (dq (u3 bs bs.length probes seed r c)):=by
 have hv:=pG r c
 cases hr:gm r c with
 | false=>
  rw[hr]at hv
  rw[show u3 bs bs.length probes seed r c=false by unfold u3;rw[hr];rfl]
  refine fi func320 ntmps320 ?_
  (refine aq hv ?_;repeat' first|apply ah|refine ai fun hc=>?_)
  exact dp
 | true=>
  rw[hr]at hv
  obtain⟨o1,o2⟩:=Mf hr
  rw[show u3 bs bs.length probes seed r c=qy bs bs.length seed (j6 r c) probes.toNat by unfold u3;rw[hr];rfl]
  refine fi func320 ntmps320 ?_
  (refine aq hv ?_;repeat' first|apply ah|refine ai fun hc=>?_)
  refine aj (X:=Nat) (fun k=>(k:Int)≤probes∧qy bs bs.length seed (j6 r c) k=true)
   (fun k=>ay [(2,.ptr 2 0 0),(3,.ptr 3 0 0),(5,iC .i64 (k:Nat))] [(2,.box 87 [.per (cA 1 (bs.map boolP)),iC .i64 probes,iC .u64 seed]),(3,.box 80 [iC .i64 r,iC .i64 c])]) (fun k=>probes.toNat-k) 0 ⟨ab,rfl⟩ ?_
  rintro k ⟨hk,hP⟩
  by_cases hlt:(k:Int)<probes
  ·have h3:=Mo bs probes seed r c k ab h1 h2 o1 o2
   have hml:=lS bs.length seed (j6 r c) k ab
   have hs1:=EE bs bs.length seed (j6 r c) k
   have hs2:=@EF bs bs.length seed (j6 r c) k probes.toNat ab
   rw[hP,WP]at hs1
   generalize eV bs.length seed (j6 r c) k=m at *
   have hm8:m<bs.length:=ab
   have hg:bs.getD m false=bs[m]:=by rw[Xg,V4 hm8];rfl
   rw[hg]at hs1 hs2
   clear hv hP hg
   (refine aq h3 ?_;repeat' first|apply ah|refine ai fun hc=>?_)
   ·rw[hs2 (by assumption)]
    exact dp
   ·rename_i hc
    refine⟨k+1,⟨ab,hs1.trans hc⟩,ab,?_⟩
    exact ae
  ·have hkp:probes.toNat=k:=ab
   rw[hkp,hP]
   (refine w0 ?_;repeat' first|apply ah|refine ai fun hc=>?_)
   exact dp
def iY (n:Nat)(row:List UInt8):List Bool:=(List.range n).map (ei row)
theorem mR (n:Nat)(row:List UInt8):(iY n row).length=n:=by simp[iY]
theorem Ch {m:Nat}(h:m<n):(iY n row).getD m false=ei row m:=by
 simp[iY,h]
def Gm (n:Nat)(row:List UInt8):Prop:=∀m,ei row m=true→m<n
theorem EI (h1:1≤n)(probes seed r c:Int):u3 (iY n row) n probes seed r c=Cf row n probes seed r c:=by
 unfold u3 Cf
 congr 1
 unfold qy P7
 rw[Wo,WJ,WJ]
 have:∀i:Nat,(iY n row).getD (eV n seed (j6 r c) i) false=ei row (eV n seed (j6 r c) i):=fun i=>Ch (by have:=lS n seed (j6 r c) i ab;omega)
 simp only[this]
theorem Mp {bits:Int}(_:1≤bits)(hl:row.length=(bits.toNat+7) / 8)(h:¬nJ bits row):Gm bits.toNat row:=fun m hm=>by
 rcases Wm m bits.toNat with q|q
 ·exact q
 exfalso
 apply h
 have hm8:m / 8<row.length:=by
  rcases Wm (m / 8) row.length with g|g
  ·exact g
  ·unfold ei at hm
   rw[Wq g]at hm
   simp at hm
 have e1:m / 8=row.length-1:=ab
 have e2:0<bits.toNat % 8:=ab
 have e3:bits.toNat % 8≤m % 8:=ab
 refine⟨e2,?_⟩
 unfold ei at hm
 rw[e1]at hm
 rw[Xg]
 generalize row[row.length-1]?.getD 0=x at *
 have:∀j k:Fin 8,∀x:Fin 256,j≤k→(UInt8.ofNat x.val &&& UInt8.ofNat (2 ^ k.val) != 0)=true→0<(UInt8.ofNat x.val).toNat / 2 ^ j.val:=by decide +kernel
 have:=this ⟨bits.toNat % 8,XG _ bz⟩ ⟨m % 8,XG _ bz⟩ ⟨x.toNat,x.toNat_lt⟩ e3
 simpa[lU]using this (by simpa[lU]using hm)
theorem SG {bits:Int}(h1:1≤bits)(hl:row.length=(bits.toNat+7) / 8)(h:Gm bits.toNat row):¬nJ bits row:=P9 h1 hl fun n hn=>by have:=h n hn;omega
theorem IG {b:List UInt8}{bits probes:Int}(h:nb b=((bits,probes,row),0)):Mi bits probes row=b∧row.length=(bits.toNat+7) / 8∧1≤bits∧bits≤4096∧1≤probes∧probes≤8∧Gm bits.toNat row:=by
 dsimp only [nb]at h
 generalize hp:af 1 4096 b 0=p at *
 generalize hq:af 1 8 p.2.1 p.2.2=q at *
 generalize hs:aW 281474976710656 q.2.1 q.2.2=s at *
 split at h
 ·rename_i hne;exact absurd (Wx Prod.snd h) hne
 ·rename_i he
  have he:=Decidable.of_not_not he
  obtain⟨a1,a2,a3,a4,a5⟩:=qz hp hq hs he
  split at h
  ·rename_i hok
   obtain⟨hl,hnt⟩:=hok
   simp only[Prod.mk.injEq,and_true]at h
   obtain⟨rfl,rfl,rfl⟩:=h
   refine⟨?_,hl,a1,a2,a3,a4,Mp a1 hl hnt⟩
   obtain⟨s1,s2,s3⟩:=s
   obtain⟨q1,q2,q3⟩:=q
   obtain⟨p1,p2,p3⟩:=p
   simp only at hp hq hs he ⊢
   obtain⟨rfl,rfl⟩:=Cg he
   obtain⟨x,l1,b1,b2,b3,b4,b5⟩:=xO hs
   obtain⟨rfl,_,_,b6⟩:=gJ b1
   obtain⟨rfl,_,_,c6⟩:=gJ hq
   obtain⟨_,_,_,d6⟩:=gJ hp
   have e1:=(eJ (l:=b) (e:=0) (by rw[d6])).2.2
   have e2:=(eJ (l:=p2) (e:=0) (by rw[c6])).2.2
   have e3:=(eJ (l:=q2) (e:=0) (by rw[b6])).2.2
   rw[d6]at e1;rw[c6]at e2;rw[b6]at e3
   simp only at e1 e2 e3
   have e4:x.toNat=l1.length:=by
    have:=Wx List.length b3
    rw[Xb,List.length_nil]at this
    omega
   have e5:s1=l1:=by rw[b2,e4,WX]
   subst e5
   have e6:x=(s1.length:Int):=ab
   rw[e1,e2,e3,e6]
   unfold Mi bu
   rw[qA]
   simp[aJ]
  ·exact absurd (Wx Prod.snd h) au
def j7 (n:Nat)(row:List UInt8)(i:Nat):List Bool:=(List.range n).map fun m=>decide (m<i)&&ei row m
theorem IH (n:Nat)(row:List UInt8):j7 n row 0=List.replicate n false:=by
 apply List.ext_getElem
 ·simp[j7]
 ·intro i h1 h2;simp[j7]
theorem lV (n:Nat)(row:List UInt8)(i:Nat):(j7 n row i).length=n:=by simp[j7]
theorem II {i:Nat}(h:ei row i=false):j7 n row (i+1)=j7 n row i:=by
 apply List.ext_getElem
 ·simp[j7]
 ·intro j h1 h2
  simp only[j7,List.getElem_map,List.getElem_range]
  by_cases e:j=i
  ·subst e;rw[h];simp
  ·congr 1
   rw[decide_eq_decide];omega
theorem Mq {i:Nat}(h:ei row i=true):(j7 n row i).set i true=j7 n row (i+1):=by
 apply List.ext_getElem
 ·simp[j7]
 ·intro j h1 h2
  rw[List.getElem_set]
  simp only[j7,List.getElem_map,List.getElem_range]
  by_cases e:i=j
  ·subst e;rw[h];simp
  ·rw[V3 e]
   congr 1
   rw[decide_eq_decide];omega
theorem Mr {i:Nat}(h:n≤i):j7 n row i=iY n row:=by
 apply List.ext_getElem
 ·simp[j7,iY]
 ·intro j h1 h2
  simp only[j7,iY,List.getElem_map,List.getElem_range]
  rw[lV]at h1
  rw[Wb ab,WP]
abbrev zblP:PV:=cB [ak (.slice none 0 0),ak (.int .i64 0),ak (.int .u64 0)]
def TD (x:(Int×Int×List UInt8)×Int)(seed:Int):PV:=if x.2=0 then pf (iY x.1.1.toNat x.1.2.2) x.1.2.1 seed else zblP
theorem Gn (b:List UInt8)(hb:b.length≤1000000)(seed:Int):Fn prog 35 [.per (aK b),iC .u64 seed] (.tup2 (.per (TD (nb b) seed)) (el (nb b).2)):=by
 have hs0:b <:+ b:=WM b
 have hb':b.length≤1000000000000:=ab
 generalize hX:nb b=X
 dsimp only [nb]at hX
 have h1:=bd b b 0 hs0 hb' 1 4096
 have hs1:=(ao 1 4096 b 0).trans hs0
 generalize hp:af 1 4096 b 0=p at *
 have h2:=bd b p.2.1 p.2.2 hs1 hb' 1 8
 have hs2:=(ao 1 8 p.2.1 p.2.2).trans hs1
 generalize hq:af 1 8 p.2.1 p.2.2=q at *
 have h3:=gr b q.2.1 q.2.2 hs2 hb' 281474976710656
 have hs3:=(bN 281474976710656 q.2.1 q.2.2).trans hs2
 generalize hs:aW 281474976710656 q.2.1 q.2.2=s at *
 have h4:=kK b s.2.1 s.2.2 hs3
 generalize hE:di s.2.1 s.2.2=v at *
 have e0:((b.length-b.length:Nat):Int)=0:=ab
 unfold dQ at h1
 rw[e0]at h1
 clear hs0 hs1 hs2 hs3
 by_cases hv:v=0
 ·subst hv
  obtain⟨a1,a2,a3,a4,a5⟩:=qz hp hq hs hE
  clear hp hq hs hE
  rw[V3 au]at hX
  obtain⟨n,hn⟩:=Int.eq_ofNat_of_zero_le (show 0≤p.1 by omega)
  have h5:=Qh n ab q.1 seed
  rw[←hn]at h5
  have hSz:=qA s.1
  by_cases hl:s.1.length=(p.1.toNat+7) / 8
  ·have hA:∀i,ei s.1 i=true→n≤i→X=((0,0,[]),11):=fun i hi hni=>by
    rw[←hX,V3]
    rintro⟨_,hnt⟩
    have:=Mp a1 hl hnt i hi
    omega
   have hB:Gm n s.1→X=((p.1,q.1,s.1),0):=fun ht=>by
    rw[←hX,V6]
    exact⟨hl,SG a1 hl (by rwa [show p.1.toNat=n by omega])⟩
   clear hX
   obtain⟨S,hS⟩:∃S:ByteArray,S=⟨s.1.toArray⟩:=⟨_,rfl⟩
   have hSl:S.data.toList=s.1:=by rw[hS]
   rw[←hS]at h3 hSz
   refine fi func35 ntmps35 ?_
   (refine uv h1 h2 h3 h4 h5 ?_;repeat' first|apply ah|refine ai fun hc=>?_)
   refine bZ (X:=Nat) (fun i=>i≤8*s.1.length∧∀m,m<i→ei s.1 m=true→m<n)
    (fun i=>ay [(4,.ptr 4 0 0),(7,iC .i64 p.1),(9,sC S),(10,.ptr 10 0 0),(11,iC .i64 (i:Nat))] [(4,.box 87 [.per (ak (.slice none 0 0)),iC .i64 0,iC .u64 0]),(10,.box 87 [.row 32 0,iC .i64 q.1,iC .u64 seed]),(32,EH (j7 n s.1 i))]) (fun i=>8*s.1.length-i) 0 ⟨Wa _,fun m hm=>ab⟩ ?_ ?_
   ·rw[IH]
    exact ae
   ·rintro i ⟨g1,g2⟩
    clear h1 h2 h3 h4 h5
    by_cases hi:i<8*s.1.length
    ·have hi8:i / 8<s.1.length:=ab
     have hcx:S.data.toList[i / 8]?=some s.1[i / 8]:=by rw[hSl];exact V4 hi8
     have hz:(i:Int) / 8=((i / 8:Nat):Int):=ab
     have hbd:=@Qg s.1[i / 8] i
     have hbit:ei s.1 i=(s.1[i / 8] &&& lU i != 0):=by unfold ei;rw[V4 hi8];rfl
     rw[←hbit]at hbd
     clear hbit
     have hx:=s.1[i / 8].toNat_lt
     generalize s.1[i / 8]=x at *
     (repeat' (first|refine ck ?_|refine bi ?_|refine bA ?_|refine bB ?_|refine cn ?_|refine aU ?_|refine bV cI ?_|refine ci ?_|refine cj (by kernel_rfl) ?_|(refine dL rfl rfl ⟨fun hc=>?_,fun hc=>?_⟩<;>(repeat rw[V7]at hc)<;>(try exact ce hc))|((first|apply aB rfl|apply aC rfl|apply aD rfl|apply aF rfl);focus (first|((apply aZ 13;(focus rfl);exact gZ ⟨rfl,rfl,rfl⟩ rfl inferInstance rfl rfl hz hcx))|(apply bI;(focus rfl);apply ag rfl rfl rfl rfl rfl;((apply aZ 13;(focus rfl);exact gZ ⟨rfl,rfl,rfl⟩ rfl inferInstance rfl rfl hz hcx)))|exact cz|fail))|refine bD ?_|refine bF ?_|refine bG ?_|refine de ?_|refine dg ?_|refine bH ?_|refine bj rfl ?_|((first|refine dM rfl rfl rfl ⟨fun hc=>?_,fun hc=>?_⟩|refine dN rfl rfl rfl ⟨fun hc=>?_,fun hc=>?_⟩)<;>(fail_if_success (have q:(true=true):=hc))<;>(fail_if_success (have q:(false=false):=hc))<;>(repeat rw[V7]at hc)<;>(try exact ce hc))|refine aH rfl rfl (fun hc=>?_) ?_))
     refine aj (X:=Nat×Nat) (fun t=>t.1≤i % 8∧t.2=x.toNat / 2 ^ t.1)
      (fun t=>ay [(4,.ptr 4 0 0),(7,iC .i64 p.1),(9,sC S),(10,.ptr 10 0 0),(11,iC .i64 (i:Nat)),(12,iC .i64 (t.2:Nat)),(13,iC .i64 (t.1:Nat))] [(4,.box 87 [.per (ak (.slice none 0 0)),iC .i64 0,iC .u64 0]),(10,.box 87 [.row 32 0,iC .i64 q.1,iC .u64 seed]),(32,EH (j7 n s.1 i))]) (fun t=>i % 8-t.1) (0,x.toNat) ⟨Wa _,au⟩ ?_
     rintro⟨k,y⟩ ⟨hk,hy0⟩
     simp only at hk hy0 ⊢
     by_cases hlt:k<i % 8
     ·obtain⟨z,hz2⟩:∃z,z=x.toNat / 2 ^ (k+1):=⟨_,rfl⟩
      have hdv:(y:Int) / 2=(z:Int):=by
       rw[hz2,hy0,Nat.pow_succ,←Nat.div_div_eq_div_mul];omega
      have hle:y≤x.toNat:=by rw[hy0];exact Nat.div_le_self _ _
      clear hy0
      (refine w0 ?_;repeat' first|apply ah|refine ai fun hc=>?_)
      refine⟨(k+1,z),⟨aA,hz2⟩,aA,?_⟩
      exact ae
     ·obtain rfl:k=i % 8:=ab
      have hle:y≤x.toNat:=by rw[hy0];exact Nat.div_le_self _ _
      have HJ:∀hin:i<n,((j7 n s.1 i).map boolP)[i]?=some (boolP ((j7 n s.1 i)[i]'(by rw[lV];exact hin))):=fun hin=>by rw[List.getElem?_map,V4 (by rw[lV];exact hin)];rfl
      have hul:=lV n s.1 i
      rw[←hy0]at hbd
      clear hy0
      by_cases hbt:ei s.1 i=true
      ·have hy:(y:Int) % 2=1:=hbd.2 hbt
       by_cases hin:i<n
       ·replace HJ:=HJ hin
        have HS:((j7 n s.1 i).map boolP).set i (cH (boolP ((j7 n s.1 i)[i]'(by rw[lV];exact hin))) 0 (boolP true))=(j7 n s.1 (i+1)).map boolP:=by
         rw[←Mq hbt,List.map_set];rfl
        generalize (j7 n s.1 i)[i]'(by rw[lV];exact hin)=bb at *
        generalize j7 n s.1 i=U at *
        (refine w0 ?_;repeat' first|apply ah|refine ai fun hc=>?_|((first|apply aB rfl|apply aC rfl|apply aD rfl|apply aF rfl);(focus ((try (apply bI;(focus rfl);apply ag rfl rfl rfl rfl rfl));first|((apply aZ 6;(focus rfl);exact aM ⟨rfl,rfl⟩ rfl inferInstance rfl rfl rfl rfl HJ rfl (aY rfl rfl rfl) rfl HS))));refine w0 ?_))
        refine⟨i+1,⟨ab,fun m hm hh=>?_⟩,ab,?_⟩
        ·rcases Wm m i with q|q
         ·exact g2 m q hh
         ·omega
        ·exact ae
       ·have hX:=hA i hbt ab
        subst hX
        (refine w0 ?_;repeat' first|apply ah|refine ai fun hc=>?_)
        refine⟨.inl rfl,AV rfl ?_ ?_⟩
        ·exact Sk
        ·exact al rfl rfl
      ·have hy:¬(y:Int) % 2=1:=fun q=>hbt (hbd.1 q)
       have hsk:=II (n:=n) (by simpa using hbt:ei s.1 i=false)
       rw[←hsk]
       clear HJ
       (refine w0 ?_;repeat' first|apply ah|refine ai fun hc=>?_)
       refine⟨i+1,⟨ab,fun m hm hh=>?_⟩,ab,?_⟩
       ·rcases Wm m i with q|q
        ·exact g2 m q hh
        ·obtain rfl:m=i:=ab
         exact absurd hh hbt
       ·exact ae
    ·have hi':i=8*s.1.length:=ab
     have hX:=hB fun m hm=>by
      rcases Wm m i with q|q
      ·exact g2 m q hm
      ·exfalso
       unfold ei at hm
       rw[Wq ab]at hm
       simp at hm
     subst hX
     rw[Mr ab]
     have hV:TD ((p.1,q.1,s.1),0) seed=pf (iY n s.1) q.1 seed:=by unfold TD;rw[V6 rfl,show p.1.toNat=n by omega]
     rw[hV]
     (refine w0 ?_;repeat' first|apply ah|refine ai fun hc=>?_)
     refine⟨.inl rfl,mH (jj 32 _ 4 1 rfl rfl) (AV rfl ?_ ?_)⟩
     ·exact Sk
     ·exact al rfl rfl
  ·rw[V3 (fun q=>hl q.1)]at hX
   subst hX
   refine fi func35 ntmps35 ?_
   (refine uv h1 h2 h3 h4 h5 ?_;repeat' first|apply ah|refine ai fun hc=>?_)
   refine⟨.inl rfl,AV rfl ?_ ?_⟩
   ·exact Sk
   ·exact al rfl rfl
 ·rw[V6 hv]at hX
  subst hX
  have hV:TD ((0,0,[]),v) seed=zblP:=by unfold TD;rw[V3 hv]
  rw[hV]
  refine fi func35 ntmps35 ?_
  (refine mZ h1 h2 h3 h4 ?_;repeat' first|apply ah|refine ai fun hc=>?_)
  refine⟨.inl rfl,AV rfl ?_ ?_⟩
  ·exact Sk
  ·exact al rfl rfl
end Go.Proofs.YtaclhhkblbacgaaGreat
