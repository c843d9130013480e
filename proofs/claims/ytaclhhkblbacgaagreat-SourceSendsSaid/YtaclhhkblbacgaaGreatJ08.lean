/- Texts joined: Adapt Byt Key Varint VarintRef Var It Base Ic. -/
import Derived.Test.YtaclhhkblbacgaaGreatJ07
import Derived.Test.YtaclhhkblbacgaaGreatRows
import Derived.Outline
set_option maxRecDepth 10000
set_option maxHeartbeats 8000000
namespace Go.Proofs.YtaclhhkblbacgaaGreat
open Go.RowKit Go.Proofs.Tryz
variable {w:World}
def fv {α:Type}(enc:α→List Value)(x:α):List PV:=(enc x).map ak
theorem za {α:Type}{top N:BP}{k:Nat}{enc:α→List Value}{l:List α}{v:Value}(h:eH top N k (l.map (fv enc)) w v):Sl k enc w v l:=by
 obtain⟨ad,c,b,of,h1,h2,h3,h4,h5,h6⟩:=h
 simp only[V7]at h1 h2 h5
 refine⟨ad,c,b,of,h1,h2,h3,fun h0=>(h5 h0).1,h4,fun i x hx j y hy=>?_⟩
 obtain⟨_,q⟩:=h6 i (fv enc x) (by rw[List.getElem?_map,hx];rfl)
 obtain⟨u,r1,_,r3⟩:=q j (ak y) (by unfold fv;rw[List.getElem?_map,hy];rfl)
 have r3:u=y:=r3
 subst r3;exact r1
theorem uw {α:Type}{e k:Nat}{enc:α→List Value}(hE:J7 k enc){N0:BP}{w':World}{v:Value}{l:List α}(h:kT e k enc w w' v l):(Ret.own e k (l.map (fv enc))).rep N0 w w' v:=by
 obtain⟨_,hl,h2⟩:=h
 rcases h2 with⟨h3,h4⟩|⟨q,cap,cs,h3,h4,h5,h6,h7,h8,h9⟩
 ·exact .inl ⟨h3,by rw[Wf h4];rfl⟩
 ·refine .inr ⟨q,cap,cs,by rw[V7];exact h3,h4,h5,by rw[V7];exact h6,h7,h8,fun i ps hi=>?_⟩
  rw[List.getElem?_map]at hi
  cases hx:l[i]? with
  | none=>rw[hx]at hi;cases hi
  | some x=>
   rw[hx]at hi;cases hi
   refine⟨by unfold fv;rw[V7,hE.len],fun j A hj=>?_⟩
   unfold fv at hj
   rw[List.getElem?_map]at hj
   cases hy:(enc x)[j]? with
   | none=>rw[hy]at hj;cases hj
   | some y=>
    rw[hy]at hj;cases hj
    have hf:=iy k enc hE.len l i x hx j y hy
    refine⟨y,?_,hE.one x y (WK hy),rfl⟩
    rw[←h9,WI]at hf
    split at hf
    ·simpa using hf
    ·cases hf
theorem Lw {N0:BP}{vs:List Value}{c:Cnt}(h:qa N0 w vs [c]):∃v,vs=[v]∧crep ⟨w,N0,fun _=>False,g0⟩ (fun _=>0) g0 w v c:=by
 obtain⟨h1,h2⟩:=h
 match vs,h1 with
 | [v],_=>exact⟨v,rfl,h2 0 v c rfl rfl⟩
theorem BH {N0:BP}{vs:List Value}{c d:Cnt}(h:qa N0 w vs [c,d]):∃v u,vs=[v,u]∧crep ⟨w,N0,fun _=>False,g0⟩ (fun _=>0) g0 w v c∧crep ⟨w,N0,fun _=>False,g0⟩ (fun _=>0) g0 w u d:=by
 obtain⟨h1,h2⟩:=h
 match vs,h1 with
 | [v,u],_=>exact⟨v,u,rfl,h2 0 v c rfl rfl,h2 1 u d rfl rfl⟩
abbrev dq (b:Bool):Ret:=.per (ak (.bool b))
abbrev el (n:Int):Ret:=.per (ak (.int .i64 n))
abbrev dS (l:List UInt8):Cnt:=.bor 1 (l.map byteP)
abbrev xt (l:List Int):Cnt:=.bor 1 (l.map TK)
abbrev sB (l:List ByteArray):Cnt:=.bor 1 (l.map strP)
def fh:List UInt8→List UInt8→Nat
 | x::a,y::b=>if x=y then fh a b+1 else 0
 | _,_=>0
def cR (s t:ByteArray):Nat:=fh s.data.toList t.data.toList
theorem Ii:∀(a b:List UInt8),fh a b≤a.length∧fh a b≤b.length:=by
 intro a
 induction a with
 | nil=>intro b;simp[fh]
 | cons x a ih=>
  intro b
  cases b with
  | nil=>simp[fh]
  | cons y b=>
   unfold fh
   have:=ih b
   split
   ·simp;omega
   ·simp
theorem g8 (s t:ByteArray):cR s t≤s.size∧cR s t≤t.size:=by
 have:=Ii s.data.toList t.data.toList
 simpa[cR]using this
theorem BI:∀(a b:List UInt8)(k:Nat)(h1:k<a.length)(h2:k<b.length),k≤fh a b→(a[k]=b[k]→k+1≤fh a b)∧(a[k]≠b[k]→fh a b=k):=by
 intro a
 induction a with
 | nil=>intro b k h1;simp at h1
 | cons x a ih=>
  intro b k h1 h2 hk
  cases b with
  | nil=>simp at h2
  | cons y b=>
   unfold fh at hk ⊢
   by_cases hxy:x=y
   ·rw[V6 hxy]at hk ⊢
    cases k with
    | zero=>exact⟨fun _=>ab,fun h=>absurd hxy h⟩
    | succ k=>
     have:=ih b k (by simpa using h1) (by simpa using h2) ab
     simp only[List.getElem_cons_succ]
     exact⟨fun h=>by have:=this.1 h;omega,fun h=>by have:=this.2 h;omega⟩
   ·rw[V3 hxy]at hk ⊢
    obtain rfl:k=0:=ab
    exact⟨fun h=>absurd h hxy,fun _=>rfl⟩
theorem D5:∀(a b:List UInt8)(n:Nat),n≤a.length→(a.take n <+: b↔n≤fh a b):=by
 intro a
 induction a with
 | nil=>intro b n hn;simp at hn;subst hn;simp
 | cons x a ih=>
  intro b n hn
  cases n with
  | zero=>simp
  | succ n=>
   cases b with
   | nil=>simp[fh]
   | cons y b=>
    rw[List.take_succ_cons,List.cons_prefix_cons]
    unfold fh
    rw[ih b n (by simpa using hn)]
    by_cases h:x=y
    ·simp[h]
    ·simp[h]
theorem D6 (a:ByteArray):cR a a=a.size:=by
 unfold cR
 have:∀l:List UInt8,fh l l=l.length:=by
  intro l
  induction l with
  | nil=>rfl
  | cons x l ih=>simp[fh,ih]
 rw[this,mq]
def D7 (s p:ByteArray):Bool:=decide (p.data.toList <+: s.data.toList)
theorem mI (s:ByteArray)(n:Nat):(s.extract 0 n).data.toList=s.data.toList.take n:=by
 rw[ByteArray.data_extract,Array.toList_extract]
 simp[List.extract]
theorem xu (a b:ByteArray)(n:Nat)(h:n≤a.size):D7 b (a.extract 0 n)=decide (n≤cR a b):=by
 unfold D7 cR
 rw[mI]
 exact decide_eq_decide.2 (D5 _ _ n (by simpa using h))
theorem Lx (s p:ByteArray):D7 s p=((s.extract 0 p.size).toList==p.toList):=by
 unfold D7
 rw[jr,jr,mI,Wo,Wn,beq_iff_eq,List.prefix_iff_eq_take]
 rw[mq]
 exact eq_comm
theorem ux (s p:ByteArray):Fn prog 276 [sC s,sC p] (dq (D7 s p)):=by
 refine fi func276 ntmps276 ?_
 (refine w0 ?_;repeat' first|apply ah|refine ai fun hc=>?_)
 all_goals refine dw ?_
 ·exact aL rfl (Lx s p).symm
 ·refine aL rfl ?_
  symm
  unfold D7
  rw[Wt]
  intro h
  have:=h.length_le
  simp at this
  omega
theorem pk (s p:ByteArray):Fn prog 248 [sC s,sC p] (dq (D7 s p)):=by
 refine fi func248 ntmps248 ?_
 (refine w0 ?_;repeat' ((first|apply aB rfl|apply aC rfl|apply aD rfl|apply aF rfl);(focus ((try (apply bI;(focus rfl);apply ag rfl rfl rfl rfl rfl));first|exact nf (ux _ _)));refine w0 ?_))
 exact dp
theorem xw (s t:ByteArray)(hb:s.size≤1000000000000):Fn prog 169 [sC s,sC t] (el (cR s t:Nat)):=by
 have hal:=g8 s t
 refine fi func169 ntmps169 ?_
 (refine w0 ?_)
 refine aj (fun k=>k≤cR s t) (fun k=>ay [(0,sC s),(1,sC t),(5,iC .i64 (k:Nat))] []) (fun k=>s.size-k) 0 (Wa _) ?_
 intro k hk
 have hst:=BI s.data.toList t.data.toList k
 simp only[mq]at hst
 by_cases h1:k<s.size∧k<t.size
 ·have hs2:=hst h1.1 h1.2 hk
  (refine w0 ?_;repeat' first|apply ah|refine ai fun hc=>?_)
  ·have e:=hs2.1 (Xj.1 ab)
   refine⟨k+1,e,ab,?_⟩
   exact ae
  ·have e:=hs2.2 (fun h=>hc (by rw[h]))
   refine dw ?_
   exact al rfl (by unfold cR;omega)
 ·by_cases h2:k<s.size
  ·(refine w0 ?_;repeat' first|apply ah|refine ai fun hc=>?_)
   refine dw ?_
   exact al rfl ab
  ·(refine w0 ?_;repeat' first|apply ah|refine ai fun hc=>?_)
   refine dw ?_
   exact al rfl ab
theorem uy (a b:ByteArray)(hb:a.size≤1000000000000):Fn prog 193 [sB [a,b]] (.per (ak (.string (a.extract 0 (cR a b))))):=by
 have hal:=g8 a b
 refine fi func193 ntmps193 ?_
 (refine w0 ?_;repeat' first|apply ah|refine ai fun hc=>?_)
 refine aj (fun k=>k≤2) (fun k=>ay [(0,sB [a,b]),(3,iC .i64 ((if k=2 then cR a b else a.size:Nat):Int)),(13,sB [a,b]),(14,iC .i64 2),(15,iC .i64 (k:Nat))] []) (fun k=>2-k) 0 (Wa _) ?_
 intro k hk
 have hk3:k=0∨k=1∨k=2:=ab
 rcases hk3 with h0|h1|h2
 ·subst h0
  (refine w0 ?_;repeat' first|apply ah|refine ai fun hc=>?_)
  refine aj (fun n=>cR a a≤n∧n≤a.size) (fun n=>ay [(0,sB [a,b]),(3,iC .i64 (n:Nat)),(5,sC a),(13,sB [a,b]),(14,iC .i64 2),(15,iC .i64 (0:Nat))] []) (fun n=>n) a.size ⟨(g8 a a).1,V8 _⟩ ?_
  rintro n ⟨hn1,hn2⟩
  have hp:=pk a (a.extract 0 n)
  rw[xu a a n hn2]at hp
  (refine aq hp ?_;repeat' first|apply ah|refine ai fun hc=>?_)
  ·have hn:cR a a≤n-1:=ab
   refine⟨n-1,⟨hn,ab⟩,ab,?_⟩
   exact ae
  ·have hn:n=cR a a:=ab
   subst hn
   refine⟨1,ab,ab,?_⟩
   rw[D6]
   exact ae
 ·subst h1
  (refine w0 ?_;repeat' first|apply ah|refine ai fun hc=>?_)
  refine aj (fun n=>cR a b≤n∧n≤a.size) (fun n=>ay [(0,sB [a,b]),(3,iC .i64 (n:Nat)),(5,sC b),(13,sB [a,b]),(14,iC .i64 2),(15,iC .i64 (1:Nat))] []) (fun n=>n) a.size ⟨(g8 a b).1,V8 _⟩ ?_
  rintro n ⟨hn1,hn2⟩
  have hp:=pk b (a.extract 0 n)
  rw[xu a b n hn2]at hp
  (refine aq hp ?_;repeat' first|apply ah|refine ai fun hc=>?_)
  ·have hn:cR a b≤n-1:=ab
   refine⟨n-1,⟨hn,ab⟩,ab,?_⟩
   exact ae
  ·have hn:n=cR a b:=ab
   subst hn
   refine⟨2,ab,ab,?_⟩
   skip
   exact ae
 ·subst h2
  (refine w0 ?_;repeat' first|apply ah|refine ai fun hc=>?_)
  refine dw ?_
  exact R9 rfl au
def gy (n:Nat):List UInt8:=if n<128 then [UInt8.ofNat n]else UInt8.ofNat (128+n % 128)::gy (n / 128)
theorem fV {n:Nat}(h:n<128):gy n=[UInt8.ofNat n]:=by rw[gy,V6 h]
theorem oy {n:Nat}(h:¬n<128):gy n=UInt8.ofNat (128+n % 128)::gy (n / 128):=by rw[gy,V3 h]
theorem BJ (k:Nat):∀n,n<128 ^ (k+1)→(gy n).length≤k+1:=by
 induction k with
 | zero=>intro n hn;rw[fV (by simpa using hn)];simp
 | succ k ih=>
  intro n hn
  by_cases h:n<128
  ·rw[fV h];simp
  ·rw[oy h]
   have:=ih (n / 128) (by rw[Nat.div_lt_iff_lt_mul bz];rw[←Nat.pow_succ];exact hn)
   simp;omega
theorem oz (n:Nat)(h:n≤9223372036854775807):(gy n).length≤9:=BJ 8 n ab
theorem RA:TI prog 27 5 1 1:=TI.mk' underlying27 (by kernel_rfl)
theorem zB:(prog.info? 5).bind (·.zero)=some (.int .u8 0):=by kernel_rfl
theorem zb (m:Nat)(h:m<128):encB (UInt8.ofNat m)=[.int .u8 (m:Int)]:=by
 unfold encB;rw[Xd];congr 2;omega
theorem BK (m:Nat):encB (UInt8.ofNat (128+m % 128))=[.int .u8 ((m:Int) % 128+128)]:=by
 unfold encB;rw[Xd];congr 2;omega
theorem F9 (n0:Int)(v:Value)(l:List UInt8)(wB w:World)(h0:0≤n0)(hn:n0≤9223372036854775807)(hl:l.length≤70368744177664)(hv:kT 5 1 encB wB w v l) :
 Calls prog 113 #[v,.int .i64 n0] w (tW 5 1 encB wB (l++gy n0.toNat)):=by
 obtain⟨n,rfl⟩:=Int.eq_ofNat_of_zero_le h0
 have hlen9:=oz n ab
 have e0:((n:Int)).toNat=n:=ab
 rw[e0]
 clear e0
 go_enter func113,ntmps113
 go_wp2
 go_loopw [0,1] (fun v' i wr=>∃(m:Nat)(done:List UInt8),i=.int .i64 m∧m≤n∧kT 5 1 encB wB wr v' (l++done)∧done.length≤9∧Hid (done++gy m=gy n)) (fun _ i _=>(intOf i).toNat)
 case atStart=>exact⟨n,[],rfl,V8 _,by simpa using hv,au,Lib.hid rfl⟩
 case round=>
  obtain⟨m,done,rfl,hm,hown,hd,HD⟩:=hrel
  by_cases hlt:m<128
  ·go_wp2_with (at_builtin;refine io rfl _ _ 27 rfl RA dz wB _ [UInt8.ofNat m] _ _ rfl rfl (hown.alloc _) (Sl.new1 (enc:=encB) dz.len _ _ _ _ (zb m hlt)) ?_ ?_ ?_)
   ·(first|omega|(simp;omega)|(unfold maxLen;omega)|(unfold maxLen;simp;omega))
   ·(first|omega|(simp;omega)|(unfold maxLen;omega)|(unfold maxLen;simp;omega))
   ·intro v' w2 r HR hown2 _ _
    go_wp2
    go_ret
    have h1:=HD.out
    rw[fV hlt]at h1
    have e:l++gy n=r:=by rw[←h1];simp[HR.out]
    rw[e]
    exact⟨_,rfl,hown2⟩
  ·have hg:128≤m:=ab
   go_wp2_with (at_builtin;refine io rfl _ _ 27 rfl RA dz wB _ [UInt8.ofNat (128+m % 128)] _ _ rfl rfl (hown.alloc _) (Sl.new1 (enc:=encB) dz.len _ _ _ _ (BK m)) ?_ ?_ ?_)
   ·(first|omega|(simp;omega)|(unfold maxLen;omega)|(unfold maxLen;simp;omega))
   ·(first|omega|(simp;omega)|(unfold maxLen;omega)|(unfold maxLen;simp;omega))
   ·intro v' w2 r HR hown2 _ _
    have h1:=HD.out
    rw[oy hlt]at h1
    have h2:(done++[UInt8.ofNat (128+m % 128)]).length≤9:=by
     have:=Wx List.length h1
     simp at this ⊢;omega
    clear hown
    go_wp2
    go_roundw
    case rel=>exact⟨m / 128,done++[UInt8.ofNat (128+m % 128)],by go_num,ab,by rw[show l++(done++[UInt8.ofNat (128+m % 128)])=r by simp[HR.out]];exact hown2,h2,Lib.hid (by simpa using h1)⟩
    case measure=>simp[intOf];omega
def aJ (n:Int):List UInt8:=gy n.toNat
def bL (n:Int):Prop:=0≤n∧n≤281474976710656
theorem bf (n:Int)(h:n≤9223372036854775807):(aJ n).length≤9:=oz _ ab
theorem lL (ns:List Int)(h:∀n∈ns,bL n):(ns.flatMap aJ).length≤9*ns.length:=by
 induction ns with
 | nil=>simp
 | cons n ns ih=>
  have h1:=bf n (by have:=(h n au).2;omega)
  have h2:=ih (fun m hm=>h m (by simp[hm]))
  simp only[List.flatMap_cons,V5,Wh];omega
theorem Ss (v vl:Value)(l:List UInt8)(ns:List Int)(w:World)(hv:Bs w v l)(hl:Sl 1 O1 w vl ns)(hb:l.length+9*ns.length≤70368744177664)
 (hok:∀n∈ns,bL n):Calls prog 59 #[v,vl] w (O2 5 1 encB w (l++ns.flatMap aJ) (.int .i64 0)):=by
 obtain⟨a,c,b,o,rfl,h1,h2,h3,h4⟩:=hl.openI
 have h5:=ro h1 h2
 clear h1 h2 hl
 go_enter func59,ntmps59
 go_wp2
 go_loop [13] (fun i=>∃k:Nat,k≤ns.length∧i=.int .i64 k) (fun i=>ns.length-(intOf i).toNat)
 case atStart=>exact⟨0,Wa _,rfl⟩
 case round=>
  obtain⟨k,hk,rfl⟩:=hrel
  by_cases hlt:k<ns.length
  ·obtain rfl:=h3 ab
   have hc:=h4 k hlt
   obtain⟨g1,g2⟩:=hok ns[k] au
   clear h3 h4 hok
   go_wp2
   go_round
   case rel=>exact⟨k+1,ab,by go_num⟩
   case measure=>simp[intOf];omega
  ·go_wp2_with (at_builtin;refine io rfl _ _ 27 rfl RA dz w [] l _ _ rfl rfl (kT.empty (eX.refl _)) (hv.ext ((eX.refl _).alloc _)) ?_ ?_ ?_)
   ·(first|omega|(simp;omega)|(unfold maxLen;omega)|(unfold maxLen;simp;omega))
   ·(first|omega|(simp;omega)|(unfold maxLen;omega)|(unfold maxLen;simp;omega))
   ·intro v1 w1 r HR hown _ _
    have HR':Hid (r=l):=Lib.hid (by simpa using HR.out)
    clear HR
    go_wp2
    go_loopw [8,29] (fun v i wr=>∃k:Nat,k≤ns.length∧i=.int .i64 k∧kT 5 1 encB w wr v (l++(ns.take k).flatMap aJ)) (fun _ i _=>ns.length-(intOf i).toNat)
    case atStart=>exact⟨0,Wa _,rfl,by rw[←HR'.out];simpa using hown⟩
    case round=>
     obtain⟨j,hj,rfl,hown⟩:=hrel
     by_cases hjt:j<ns.length
     ·obtain rfl:=h3 ab
      have hc:=hown.ext.cell (h4 j hjt)
      obtain⟨g1,g2⟩:=hok ns[j] au
      have hs:=Lib.hid (jq ns j hjt)
      have hlen:=lL (ns.take j) (fun n hn=>hok n (Xt hn))
      have hlj:(ns.take j).length≤j:=List.length_take_le _ _
      have hlen2:(l++(ns.take j).flatMap aJ).length≤70368744177664:=by rw[V5];omega
      clear h3 h4 hlen hlj
      go_wp2_with fail
      refine(F9 _ _ _ w _ g1 ab hlen2 hown).mono ?_
      rintro e w2 ⟨v2,rfl,hown2⟩
      have HO:=Lib.hid hown2
      clear hown hown2
      go_wp2
      go_roundw
      case rel=>exact⟨j+1,ab,by go_num,by rw[hs.out,List.flatMap_append,←V9];simpa[aJ]using HO.out⟩
      case measure=>simp[intOf];omega
     ·have HT:=Lib.hid (show ns.take j=ns from Wd ab)
      go_wp2
      go_ret2
      rw[HT.out]at hown
      exact⟨_,rfl,hown⟩
theorem PO (v vl:Value)(ns:List Int)(w:World)(hl:Sl 1 O1 w vl ns)
 (hbad:¬∀n∈ns,bL n):Calls prog 59 #[v,vl] w fun e w'=>e=.returned (.tuple #[.slice none 0 0,.int .i64 2])∧w=w':=by
 obtain⟨a,c,b,o,rfl,h1,h2,h3,h4⟩:=hl.openI
 have h5:=ro h1 h2
 clear h1 h2 hl
 have HB:=Lib.hid hbad
 clear hbad
 go_enter func59,ntmps59
 go_wp2
 go_loop [7,13] (fun _ i=>∃k:Nat,k≤ns.length∧i=.int .i64 k∧Hid (∀n∈ns.take k,bL n)) (fun _ i=>ns.length-(intOf i).toNat)
 case atStart=>exact⟨0,Wa _,rfl,Lib.hid au⟩
 case round=>
  obtain⟨k,hk,rfl,HK⟩:=hrel
  by_cases hlt:k<ns.length
  ·obtain rfl:=h3 ab
   have hc:=h4 k hlt
   have HS:=Lib.hid (jq ns k hlt)
   clear h3 h4
   by_cases g1:ns[k]<0
   ·go_wp2
    go_ret2
    exact⟨rfl,rfl⟩
   ·by_cases g2:281474976710656<ns[k]
    ·go_wp2
     go_ret2
     exact⟨rfl,rfl⟩
    ·go_wp2
     go_round
     case rel=>
      refine⟨k+1,ab,by go_num,Lib.hid ?_⟩
      rw[HS.out]
      intro n hn
      rcases Wz.1 hn with h|h
      ·exact HK.out n h
      ·simp at h;subst h;exact⟨ab,ab⟩
     case measure=>simp[intOf];omega
  ·exact absurd (fun n hn=>HK.out n (by rw[Wd ab];exact hn)) HB.out
def bu (s:ByteArray):List UInt8:=gy s.size++s.data.toList
theorem mJ (k:Nat):∀(n:Nat)(w:World),n≤k→n≤9223372036854775807 →
 Calls prog 98 #[.int .i64 n] w (tW 5 1 encB w (gy n)):=by
 induction k with
 | zero=>
  intro n w hk hn
  obtain rfl:n=0:=ab
  go_enter func98,ntmps98
  go_wp2_with fail
  go_ret
  exact⟨_,rfl,by rw[fV bz];exact kT.lit dz.len (eX.refl _) _ _ (by simpa using zb 0 bz) _ rfl (by simp[maxLen])⟩
 | succ k ih=>
  intro n w hk hn
  by_cases hlt:n<128
  ·go_enter func98,ntmps98
   go_wp2_with fail
   go_ret
   exact⟨_,rfl,by rw[fV hlt];exact kT.lit dz.len (eX.refl _) _ _ (by simpa using zb n hlt) _ rfl (by simp[maxLen])⟩
  ·have hg:128≤n:=ab
   have HI:=Lib.hid (fun w=>ih (n / 128) w ab ab)
   have hlen9:=oz (n / 128) ab
   clear ih
   go_enter func98,ntmps98
   go_wp2_with fail
   have e1:((n:Int) / 128)=((n / 128:Nat):Int):=ab
   rw[e1]
   clear e1
   refine(HI.out _).mono ?_
   rintro e w2 ⟨v2,rfl,hown2⟩
   have hown:kT 5 1 encB w w2 (.slice (some ⟨w.heap.size,0,none⟩) 1 1) [UInt8.ofNat (128+n % 128)]:=
    (kT.lit dz.len (eX.refl w) _ _ (by simp only[List.flatMap_cons,WC,Wg];rw[BK,Int.add_comm]) _ rfl (by simp[maxLen])).extend hown2.ext
   have hs2:=hown2.sl dz
   clear hown2 HI
   go_wp2_with (at_builtin;refine io rfl _ _ 27 rfl RA dz w _ (gy (n / 128)) _ _ rfl rfl hown hs2 ?_ ?_ ?_)
   ·(first|omega|(simp;omega)|(unfold maxLen;omega)|(unfold maxLen;simp;omega))
   ·(first|omega|(simp;omega)|(unfold maxLen;omega)|(unfold maxLen;simp;omega))
   ·intro v3 w3 r HR hown3 _ _
    have HR':Hid (r=gy n):=Lib.hid (by rw[oy hlt];simpa using HR.out)
    go_wp2
    go_ret
    exact⟨_,rfl,by rw[←HR'.out];exact hown3⟩
theorem D8 (vl:Value)(ns:List Int)(w:World)(hl:Sl 1 O1 w vl ns)(hb:ns.length≤7036874417766)
 (hok:∀n∈ns,bL n):Calls prog 93 #[vl] w (tW 5 1 encB w (ns.flatMap aJ)):=by
 obtain⟨a,c,b,o,rfl,h1,h2,h3,h4⟩:=hl.openI
 clear h1 h2 hl
 go_enter func93,ntmps93
 go_wp2
 go_loopw [3,4] (fun v i wr=>∃k:Nat,k≤ns.length∧i=.int .i64 k∧kT 5 1 encB w wr v ((ns.take k).flatMap aJ)) (fun _ i _=>ns.length-(intOf i).toNat)
 case atStart=>exact⟨0,Wa _,rfl,kT.nil (eX.refl _)⟩
 case round=>
  obtain⟨j,hj,rfl,hown⟩:=hrel
  by_cases hjt:j<ns.length
  ·obtain rfl:=h3 ab
   have hc:=hown.ext.cell (h4 j hjt)
   obtain⟨g1,g2⟩:=hok ns[j] au
   have hs:=Lib.hid (jq ns j hjt)
   have hlen:=lL (ns.take j) (fun n hn=>hok n (Xt hn))
   have hlj:(ns.take j).length≤j:=List.length_take_le _ _
   have hl9:=bf ns[j] ab
   generalize hx:ns[j]=x at *
   have HX:=Lib.hid hx
   obtain⟨m,rfl⟩:=Int.eq_ofNat_of_zero_le g1
   clear h3 h4 hx
   go_wp2_with fail
   refine(mJ _ _ _ (V8 _) ab).mono ?_
   rintro e w2 ⟨v2,rfl,hown2⟩
   have hown1:=hown.extend hown2.ext
   have hs2:=hown2.sl dz
   clear hown hown2 hc
   generalize hL:(ns.take j).flatMap aJ=L at *
   have HL:=Lib.hid hL
   clear hL
   have hl9':(gy m).length≤9:=hl9
   clear hl9
   go_wp2_with (at_builtin;refine io rfl _ _ 27 rfl RA dz w _ _ _ _ rfl rfl hown1 hs2 ?_ ?_ ?_)
   ·(first|omega|(simp;omega)|(unfold maxLen;omega)|(unfold maxLen;simp;omega))
   ·(first|omega|(simp;omega)|(unfold maxLen;omega)|(unfold maxLen;simp;omega))
   ·intro v3 w3 r HR hown3 _ _
    clear hown1
    go_wp2
    go_roundw
    case rel=>exact⟨j+1,ab,by go_num,by rw[hs.out,List.flatMap_append,HL.out,show L++List.flatMap aJ [(m:Int)]=r by simp[HR.out,aJ]];exact hown3⟩
    case measure=>simp[intOf];omega
  ·have HT:=Lib.hid (show ns.take j=ns from Wd ab)
   go_wp2
   go_ret
   rw[HT.out]at hown
   exact⟨_,rfl,hown⟩
theorem BL (s:ByteArray)(w:World)(hb:s.size≤70368744177664):Calls prog 167 #[.string s] w (tW 5 1 encB w (bu s)):=by
 have hlen9:=oz s.size ab
 go_enter func167,ntmps167
 go_wp2_with fail
 refine(mJ _ _ _ (V8 _) ab).mono ?_
 rintro e w1 ⟨v1,rfl,hown1⟩
 go_wp2
 go_loopw [3,4] (fun v i wr=>∃k:Nat,k≤s.size∧i=.int .i64 k∧kT 5 1 encB w wr v (gy s.size++s.data.toList.take k)) (fun _ i _=>s.size-(intOf i).toNat)
 case atStart=>exact⟨0,Wa _,rfl,by simpa using hown1⟩
 case round=>
  obtain⟨j,hj,rfl,hown⟩:=hrel
  by_cases hjt:j<s.size
  ·have hs:=Lib.hid (Kd s j hjt)
   have hlj:(s.data.toList.take j).length≤j:=List.length_take_le _ _
   have hL:(gy s.size++s.data.toList.take j).length≤9+j:=by rw[V5];omega
   generalize hx:gy s.size++s.data.toList.take j=L at *
   have HX:=Lib.hid hx
   clear hx hlj hown1
   go_wp2_with (at_builtin;refine io rfl _ _ 27 rfl RA dz w _ [s[j]] _ _ rfl rfl (hown.alloc _) (Sl.new1 (enc:=encB) dz.len _ _ _ _ rfl) ?_ ?_ ?_)
   ·(first|omega|(simp;omega)|(unfold maxLen;omega)|(unfold maxLen;simp;omega))
   ·(first|omega|(simp;omega)|(unfold maxLen;omega)|(unfold maxLen;simp;omega))
   ·intro v3 w3 r HR hown3 _ _
    clear hown
    go_wp2
    go_roundw
    case rel=>exact⟨j+1,ab,by go_num,by rw[hs.out,←V9,HX.out,show L++[s[j]]=r by rw[HR.out]];exact hown3⟩
    case measure=>simp[intOf];omega
  ·have HT:=Lib.hid (O3 s j ab)
   go_wp2
   go_ret
   rw[HT.out]at hown
   exact⟨_,rfl,hown⟩
theorem Ly (v vl:Value)(l:List UInt8)(ss:List ByteArray)(w:World)(hv:Bs w v l)(hl:Sl 1 TJ w vl ss)(hb:l.length+(ss.flatMap bu).length≤7036874417766) :
 Calls prog 124 #[v,vl] w (tW 5 1 encB w (l++ss.flatMap bu)):=by
 obtain⟨a,c,b,o,rfl,h1,h2,h3,h4⟩:=hl.openS
 have h5:=ro h1 h2
 clear h1 h2 hl
 go_enter func124,ntmps124
 go_wp2_with (at_builtin;refine io rfl _ _ 27 rfl RA dz w [] l _ _ rfl rfl (kT.empty (eX.refl _)) (hv.ext ((eX.refl _).alloc _)) ?_ ?_ ?_)
 ·(first|omega|(simp;omega)|(unfold maxLen;omega)|(unfold maxLen;simp;omega))
 ·(first|omega|(simp;omega)|(unfold maxLen;omega)|(unfold maxLen;simp;omega))
 ·intro v1 w1 r HR hown _ _
  have HR':Hid (r=l):=Lib.hid (by simpa using HR.out)
  clear HR
  go_wp2
  go_loopw [5,13] (fun v i wr=>∃k:Nat,k≤ss.length∧i=.int .i64 k∧kT 5 1 encB w wr v (l++(ss.take k).flatMap bu)) (fun _ i _=>ss.length-(intOf i).toNat)
  case atStart=>exact⟨0,Wa _,rfl,by rw[←HR'.out];simpa using hown⟩
  case round=>
   obtain⟨j,hj,rfl,hown⟩:=hrel
   by_cases hjt:j<ss.length
   ·obtain rfl:=h3 ab
    have hc:=hown.ext.cell (h4 j hjt)
    have hs:=Lib.hid (jq ss j hjt)
    have hlen:(l++(ss.take j).flatMap bu).length+(bu ss[j]).length≤7036874417766:=by
     have h:(ss.take (j+1)++ss.drop (j+1))=ss:=WL _ _
     rw[←h,hs.out,List.flatMap_append,List.flatMap_append]at hb
     simp at hb ⊢;omega
    have hsz:(bu ss[j]).length=(gy ss[j].size).length+ss[j].size:=by simp[bu]
    generalize ss[j]=s at *
    have HS:=Lib.hid hsz
    have hsz1:(l++(ss.take j).flatMap bu).length+((gy s.size).length+s.size)≤7036874417766:=ab
    clear h3 h4 hlen hsz hv hb
    generalize hx:l++(ss.take j).flatMap bu=L at *
    have HX:=Lib.hid hx
    clear hx
    go_wp2_with fail
    refine(F9 _ _ _ w _ ab ab ab hown).mono ?_
    rintro e w2 ⟨v2,rfl,hown2⟩
    have ht:Hid (((s.size:Int)).toNat=s.size):=Lib.hid ab
    rw[ht.out]at hown2
    clear hown hc
    go_wp2_with (at_builtin;refine Au rfl _ _ 27 9 rfl RA zB underlying9 w _ s _ rfl rfl hown2 ?_ ?_)
    ·(first|omega|(simp;omega)|(unfold maxLen;omega)|(unfold maxLen;simp;omega))
    ·intro v3 w3 r HR hown3 _
     clear hown2
     go_wp2
     go_roundw
     case rel=>exact⟨j+1,ab,by go_num,by rw[hs.out,List.flatMap_append,←V9,HX.out,show L++List.flatMap bu [s]=r by simp[HR.out,bu]];exact hown3⟩
     case measure=>simp[intOf];omega
   ·have HT:=Lib.hid (show ss.take j=ss from Wd ab)
    go_wp2
    go_ret
    rw[HT.out]at hown
    exact⟨_,rfl,hown⟩
abbrev gz (l:List UInt8):Ret:=.own 5 1 (l.map byteP)
theorem ju (l:List UInt8)(ns:List Int)(hb:l.length+9*ns.length≤1000000000000)(hok:∀n∈ns,bL n) :
 Fn prog 59 [dS l,xt ns] (.tup2 (gz (l++ns.flatMap aJ)) (.per (ak (.int .i64 0)))):=by
 refine⟨⟨_,func59,by kernel_rfl,by kernel_rfl⟩,fun N0 w vs _ ha=>?_⟩
 obtain⟨v,u,rfl,h1,h2⟩:=BH ha
 refine Calls.mono (Ss v u l ns w (uf h1) (za h2) ab hok) ?_
 rintro e w' ⟨v',rfl,h⟩
 exact⟨_,rfl,h.ext,_,_,rfl,uw dz h,rfl⟩
theorem fb (l:List UInt8)(ss:List ByteArray)(hb:l.length+(ss.flatMap bu).length≤1000000000000) :
 Fn prog 124 [dS l,sB ss] (gz (l++ss.flatMap bu)):=by
 refine⟨⟨_,func124,by kernel_rfl,by kernel_rfl⟩,fun N0 w vs _ ha=>?_⟩
 obtain⟨v,u,rfl,h1,h2⟩:=BH ha
 refine Calls.mono (Ly v u l ss w (uf h1) (za h2) ab) ?_
 rintro e w' ⟨v',rfl,h⟩
 exact⟨_,rfl,h.ext,uw dz h⟩
theorem oA (ns:List Int)(hb:ns.length≤1000000000)(hok:∀n∈ns,bL n):Fn prog 93 [xt ns] (gz (ns.flatMap aJ)):=by
 refine⟨⟨_,func93,by kernel_rfl,by kernel_rfl⟩,fun N0 w vs _ ha=>?_⟩
 obtain⟨v,rfl,h1⟩:=Lw ha
 refine Calls.mono (D8 v ns w (za h1) ab hok) ?_
 rintro e w' ⟨v',rfl,h⟩
 exact⟨_,rfl,h.ext,uw dz h⟩
theorem iR (s:ByteArray)(hb:s.size≤70368744177664):Fn prog 167 [sC s] (gz (bu s)):=by
 refine⟨⟨_,func167,by kernel_rfl,by kernel_rfl⟩,fun N0 w vs _ ha=>?_⟩
 obtain⟨v,rfl,h1⟩:=Lw ha
 obtain rfl:v=.string s:=h1
 refine Calls.mono (BL s w hb) ?_
 rintro e w' ⟨v',rfl,h⟩
 exact⟨_,rfl,h.ext,uw dz h⟩
structure It where
 key:ByteArray
 rep:Int
 cnt:Int
 rank:Int
 prio:Int
 dead:Bool
 body:ByteArray
deriving DecidableEq
def encIt (x:It):List Value:=[.string x.key,.int .i64 x.rep,.int .i64 x.cnt,.int .i64 x.rank,.int .i64 x.prio,.bool x.dead,.string x.body]
def pd (s:ByteArray):Bool:=decide (1≤s.size∧s.size≤16)
def gm (r c:Int):Bool:=decide (1≤r∧r≤16∧1≤c∧c≤1099511627776)
def eC (x:It):Bool:=pd x.key&&gm x.rep x.cnt&&decide (1≤x.rank∧x.rank≤1099511627776∧0≤x.prio∧x.prio≤255∧x.body.size≤64∧(x.dead=true→x.body.size=0))
theorem BM:J7 7 encIt:=⟨bz,fun _=>rfl,fun x u hu=>by
 simp only[encIt,Wp,Xh,or_false]at hu
 rcases hu with rfl|rfl|rfl|rfl|rfl|rfl|rfl<;>rfl⟩
abbrev Vd (w:World)(v:Value)(l:List It):Prop:=Sl 7 encIt w v l
abbrev itP (x:It):List PV:=[ak (.string x.key),ak (.int .i64 x.rep),ak (.int .i64 x.cnt),ak (.int .i64 x.rank),ak (.int .i64 x.prio),ak (.bool x.dead),ak (.string x.body)]
abbrev uz (x:It):Cnt:=.per (cB (itP x))
abbrev Vz (r c:Int):List PV:=[ak (.int .i64 r),ak (.int .i64 c)]
abbrev sD (r c:Int):Cnt:=.per (cB (Vz r c))
theorem kH {a b:Bool}(h:a=b):Cnt.per (ak (.bool a))=.per (ak (.bool b)):=by rw[h]
theorem D9:(⟨#[]⟩:ByteArray).toList=[]:=by rw[jr]
theorem Su (s:ByteArray):s.toList=[]↔s.size=0:=by
 rw[jr,←List.length_eq_zero_iff,mq]
theorem xx (s:ByteArray):Fn prog 197 [sC s] (dq (pd s)):=by
 refine fi func197 ntmps197 ?_
 (refine wH ?_)
 refine dw ?_
 refine dA (kH ?_)
 rw[pd,Wo];simp;omega
theorem Ea (s:ByteArray):Fn prog 135 [sC s] (dq (pd s)):=by
 refine fi func135 ntmps135 ?_
 (refine wH ?_)
 refine dw ?_
 refine dA (kH ?_)
 rw[pd,Wo];simp;omega
theorem oB (r c:Int):Fn prog 198 [sD r c] (dq (gm r c)):=by
 refine fi func198 ntmps198 ?_
 (refine wH ?_)
 refine dw ?_
 refine dA (kH ?_)
 rw[gm,Wo];simp;omega
theorem pG (r c:Int):Fn prog 136 [sD r c] (dq (gm r c)):=by
 refine fi func136 ntmps136 ?_
 (refine wH ?_)
 refine dw ?_
 refine dA (kH ?_)
 rw[gm,Wo];simp;omega
theorem dU (x:It):Fn prog 120 [uz x] (dq (eC x)):=by
 have h1:=xx x.key
 have h2:=oB x.rep x.cnt
 refine fi func120 ntmps120 ?_
 (refine bg h1 h2 ?_;repeat' first|apply ah|refine ai fun hc=>?_)
 all_goals refine dw ?_
 all_goals refine aL rfl ?_
 all_goals have hs:x.body.toList=[]↔x.body.size=0:=Su x.body
 all_goals have hn:=D9
 all_goals grind[eC]
theorem fc (x:It):Fn prog 72 [uz x] (dq (eC x)):=by
 have h1:=Ea x.key
 have h2:=pG x.rep x.cnt
 refine fi func72 ntmps72 ?_
 (refine bg h1 h2 ?_;repeat' first|apply ah|refine ai fun hc=>?_)
 all_goals refine dw ?_
 all_goals refine aL rfl ?_
 all_goals grind[eC]
def fE (x:It):List Int:=[x.rep,x.cnt,x.rank,x.prio,if x.dead then 1 else 0]
def iU (x:It):List UInt8:=(fE x).flatMap aJ++bu x.body
def xy (x:It):List UInt8:=if eC x then bu x.key++iU x else []
theorem fF {x:It}(h:eC x=true):(∀n∈fE x,bL n)∧x.body.size≤64∧1≤x.key.size∧x.key.size≤16:=by
 simp only[eC,pd,gm,Wi,Wn]at h
 obtain⟨⟨h1,h2⟩,h3⟩:=h
 refine⟨?_,ab,ab,ab⟩
 intro n hn
 simp only[fE,Wp,Xh,or_false]at hn
 unfold bL
 rcases hn with rfl|rfl|rfl|rfl|rfl
 ·omega
 ·omega
 ·omega
 ·omega
 ·split<;>omega
theorem cv (s:ByteArray)(h:s.size≤127):(bu s).length=1+s.size:=by
 unfold bu;rw[fV ab];simp;omega
theorem oC (l:List UInt8)(ns:List Int)(hb:l.length+9*ns.length≤1000000000000)(hok:∀n∈ns,bL n) :
 Fn prog 192 [dS l,xt ns] (gz (l++ns.flatMap aJ)):=by
 refine fi func192 ntmps192 ?_
 (refine kf (ju l ns hb hok) ?_)
 exact nx
theorem uA (l:List UInt8)(x:It)(hr:eC x=true)(hb:l.length≤1000000) :
 Fn prog 194 [dS l,uz x] (gz (l++iU x)):=by
 obtain⟨hnums,hbody,_,_⟩:=fF hr
 have hlen:=lL _ hnums
 have htl:=cv x.body ab
 obtain⟨key,rep,cnt,rank,prio,dead,body⟩:=x
 cases dead
 all_goals
  simp only[fE,WH,Xq,XC]at hnums hlen hbody htl
 ·have p2:=fb (l++([rep,cnt,rank,prio,0]:List Int).flatMap aJ) [body] (by rw[V5];simp at *;omega)
  refine fi func194 ntmps194 ?_
  (refine kf p2 ?_;repeat' first|apply ah|refine ai fun hc=>?_|((first|apply aB rfl|apply aC rfl|apply aD rfl|apply aF rfl);(focus ((try (apply bI;(focus rfl);apply ag rfl rfl rfl rfl rfl));first|exact nf (oC l _ bn hnums)));refine kf p2 ?_))
  refine dw ?_
  exact cJ rfl rfl rfl (by simp[iU,fE])
 ·have p2:=fb (l++([rep,cnt,rank,prio,1]:List Int).flatMap aJ) [body] (by rw[V5];simp at *;omega)
  refine fi func194 ntmps194 ?_
  (refine kf p2 ?_;repeat' first|apply ah|refine ai fun hc=>?_|((first|apply aB rfl|apply aC rfl|apply aD rfl|apply aF rfl);(focus ((try (apply bI;(focus rfl);apply ag rfl rfl rfl rfl rfl));first|exact nf (oC l _ bn hnums)));refine kf p2 ?_))
  refine dw ?_
  exact cJ rfl rfl rfl (by simp[iU,fE])
theorem Eb (x:It):Fn prog 265 [uz x] (.tup2 (gz (xy x)) (.per (ak (.int .i64 (if eC x then 0 else 2))))):=by
 by_cases hr:eC x=true
 ·have hk:=(fF hr).2.2.2
  have htl:=cv x.key ab
  refine fi func265 ntmps265 ?_
  (have kc1:=dU x;have kc2:=fb [] [x.key] bn;have kc3:=uA ([]++[x.key].flatMap bu) x hr bn;refine wH ?_;(repeat' first|apply ah|refine ai fun hc=>?_);all_goals clear kc3 kc2 kc1)
  all_goals refine d9 ?_ ?_
  ·exact cJ rfl rfl rfl (by simp[xy,hr])
  ·exact al rfl (by simp[hr])
 ·rw[xy,V3 hr,V3 hr]
  refine fi func265 ntmps265 ?_
  (refine kf (dU x) ?_;repeat' first|apply ah|refine ai fun hc=>?_)
  all_goals refine d9 ?_ ?_
  ·exact dv rfl
  ·exact al rfl rfl
theorem eI (x:It):Fn prog 334 [uz x] (.per (ak (.int .i64 ((xy x).length:Nat)))):=by
 refine fi func334 ntmps334 ?_
 (refine kf (Eb x) ?_)
 refine dw ?_
 exact al rfl au
theorem bc {α:Type}(l:List α)(k:Nat)(h:k<l.length):l.take (k+1)=l.take k++[l[k]]:=by rw[List.take_succ_eq_append_getElem h]
abbrev dP (l:List It):PV:=cA 7 (l.map itP)
abbrev fj (l:List It):Cnt:=.bor 7 (l.map itP)
theorem zc (x:It):(xy x).length≤200:=by
 unfold xy
 split
 ·rename_i h
  obtain⟨h1,h2,h3,h4⟩:=fF h
  have h5:=lL _ h1
  have h6:=cv x.body ab
  have h7:=cv x.key ab
  have h8:(fE x).length=5:=rfl
  simp only[iU,V5];omega
 ·simp
end Go.Proofs.YtaclhhkblbacgaaGreat
