/- Lemmas, walks. -/
import Derived.Test.YtecdgdoledkdfaaGreatJ05
import Derived.Test.YtecdgdoledkdfaaGreatRows
import Derived.Outline
set_option maxRecDepth 10000
set_option maxHeartbeats 8000000
namespace Go.Proofs.YtecdgdoledkdfaaGreat
open Go.RowKit Go.Proofs.Tryz
variable {α:Type} {w:World}
def fH {α:Type}(enc:α->List Value)(x:α):List PV:=(enc x).map ai
theorem wP {top N:BP}{k:Nat}{enc:α->List Value}{l:List α}{v:Value}(h:eW top N k (l.map (fH enc)) w v):Sl k enc w v l:=by
 obtain⟨ad,c,b,of,h1,h2,h3,h4,h5,h6⟩:=h
 simp only[aad]at h1 h2 h5
 refine⟨ad,c,b,of,h1,h2,h3,λh0=>(h5 h0).1,h4,λi x hx j y hy=>?_⟩
 obtain⟨_,q⟩:=h6 i (fH enc x) (by rw[List.getElem?_map,hx];rfl)
 obtain⟨u,r1,_,r3⟩:=q j (ai y) (by unfold fH;rw[List.getElem?_map,hy];rfl)
 have r3:u=y:=r3
 subst r3;exact r1
theorem wQ {e k:Nat}{enc:α->List Value}(hE:Jj k enc){N0:BP}{w':World}{v:Value}{l:List α}(h:lG e k enc w w' v l):(Ret.own e k (l.map (fH enc))).rep N0 w w' v:=by
 obtain⟨_,hl,h2⟩:=h
 rcases h2 with⟨h3,h4⟩|⟨q,cap,cs,h3,h4,h5,h6,h7,h8,h9⟩
 ·exact .inl ⟨h3,by rw[aax h4];rfl⟩
 ·refine .inr ⟨q,cap,cs,by rw[aad];exact h3,h4,h5,by rw[aad];exact h6,h7,h8,λi ps hi=>?_⟩
  rw[List.getElem?_map]at hi
  cases hx:l[i]? with
  | none=>rw[hx]at hi;cases hi
  | some x=>
   rw[hx]at hi;cases hi
   refine⟨by unfold fH;rw[aad,hE.len],λj A hj=>?_⟩
   unfold fH at hj
   rw[List.getElem?_map]at hj
   cases hy:(enc x)[j]? with
   | none=>rw[hy]at hj;cases hj
   | some y=>
    rw[hy]at hj;cases hj
    have hf:=iV k enc hE.len l i x hx j y hy
    refine⟨y,?_,hE.one x y (aa3 hy),rfl⟩
    rw[<-h9,aaW]at hf
    split at hf
    ·simpa using hf
    ·cases hf
theorem OS {N0:BP}{vs:List Value}{c:Cnt}(h:rJ N0 w vs [c]):∃v,vs=[v]/\crep ⟨w,N0,λ_=>False,g0⟩ (λ_=>0) g0 w v c:=by
 obtain⟨h1,h2⟩:=h
 match vs,h1 with
 | [v],_=>exact⟨v,rfl,h2 0 v c rfl rfl⟩
theorem sa {N0:BP}{vs:List Value}{c d:Cnt}(h:rJ N0 w vs [c,d]):∃v u,vs=[v,u]/\crep ⟨w,N0,λ_=>False,g0⟩ (λ_=>0) g0 w v c/\crep ⟨w,N0,λ_=>False,g0⟩ (λ_=>0) g0 w u d:=by
 obtain⟨h1,h2⟩:=h
 match vs,h1 with
 | [v,u],_=>exact⟨v,u,rfl,h2 0 v c rfl rfl,h2 1 u d rfl rfl⟩
abbrev dE (b:Bool):Ret:=.per (ai (.bool b))
abbrev eA (n:Int):Ret:=.per (ai (.int .i64 n))
abbrev dw (l:List UInt8):Cnt:=.bor 1 (l.map byteP)
abbrev zX (l:List Int):Cnt:=.bor 1 (l.map YN)
abbrev va (l:List ByteArray):Cnt:=.bor 1 (l.map strP)
theorem OT (l:List α)(k:Nat)(h:k<l.length):l.take (k+1)=l.take k++[l[k]]:=by rw[List.take_succ_eq_append_getElem h]
theorem D4 (l m:List UInt8)(hb:l.length<=1000000000000):Fn prog 14 [dw l,dw m] (dE (decide (l=m))):=by
 generalize hQ:decide (l=m)=Q
 refine fi func14 ntmps14 ?_
 (refine w0 ?_;repeat' first|apply aw|refine ah λhc=>?_)
 ·rw[aap (λh=>by subst h;omega)]at hQ
  subst hQ
  exact dz
 have hlm:l.length=m.length:=ae
 refine aj (λk=>k<=l.length/\l.take k=m.take k) (λk=>aF [(0,dw l),(1,dw m),(5,iC .i64 (k:Nat))] []) (λk=>l.length-k) 0 ⟨aag _,rfl⟩ ?_
 rintro k ⟨hk,hpre⟩
 by_cases hlt:k<l.length
 ·have hltm:k<m.length:=ae
  have h1:=OT l k hlt
  have h2:=OT m k hltm
  (refine w0 ?_;repeat' first|apply aw|refine ah λhc=>?_)
  ·rw[aap (λh=>by subst h;omega)]at hQ
   subst hQ
   exact dz
  ·refine⟨k+1,⟨ae,?_⟩,ae,?_⟩
   ·rw[h1,h2,hpre,show l[k]=m[k]from abg.1 ae]
   ·exact ab
 ·rw[aaj ae,aaj ae]at hpre
  rw[aao hpre]at hQ
  subst hQ
  (refine w0 ?_;refine ah λhc=>?_)
  exact dz
def gH:List UInt8->List UInt8->Nat
 | x::a,y::b=>if x=y then gH a b+1 else 0
 | _,_=>0
def cT (s t:ByteArray):Nat:=gH s.data.toList t.data.toList
theorem Ld:∀(a b:List UInt8),gH a b<=a.length/\gH a b<=b.length:=by
 intro a
 induction a with
 | nil=>intro b;simp[gH]
 | cons x a ih=>
  intro b
  cases b<;>grind[gH]
theorem iv (s t:ByteArray):cT s t<=s.size/\cT s t<=t.size:=by
 have:=Ld s.data.toList t.data.toList
 simp_all[cT]
theorem D5:∀(a b:List UInt8)(k:Nat)(h1:k<a.length)(h2:k<b.length),k<=gH a b->(a[k]=b[k]->k+1<=gH a b)/\(a[k]≠b[k]->gH a b=k):=by
 intro a
 induction a with
 | nil=>grind
 | cons x a ih=>
  intro b k h1 h2 hk
  cases b with
  | nil=>simp at h2
  | cons y b=>
   unfold gH at hk ⊢
   by_cases hxy:x=y
   all_goals grind
theorem GR:∀(a b:List UInt8)(n:Nat),n<=a.length->(a.take n <+: b↔n<=gH a b):=by
 intro a
 induction a with
 | nil=>grind
 | cons x a ih=>
  intro b n hn
  cases n with
  | zero=>simp
  | succ n=>
   cases b<;>grind[gH]
theorem GU (a:ByteArray):cT a a=a.size:=by
 unfold cT
 have:∀l:List UInt8,gH l l=l.length:=by
  intro l
  induction l<;>grind[gH]
 rw[this,nf]
def GV (s p:ByteArray):Bool:=decide (p.data.toList <+: s.data.toList)
theorem nv (s:ByteArray)(n:Nat):(s.extract 0 n).data.toList=s.data.toList.take n:=by
 rw[ByteArray.data_extract,Array.toList_extract]
 simp[List.extract]
theorem zY (a b:ByteArray)(n:Nat)(h:n<=a.size):GV b (a.extract 0 n)=decide (n<=cT a b):=by
 unfold GV cT
 rw[nv]
 simp_all[GR]
theorem OU (s p:ByteArray):GV s p=((s.extract 0 p.size).toList==p.toList):=by grind[GV,jJ,nv,List.prefix_iff_eq_take,nf]
theorem wR (s p:ByteArray):Fn prog 275 [sC s,sC p] (dE (GV s p)):=by
 refine fi func275 ntmps275 ?_
 (refine w0 ?_;repeat' first|apply aw|refine ah λhc=>?_)
 all_goals refine dr ?_
 ·exact aP rfl (OU s p).symm
 ·refine aP rfl ?_
  symm
  unfold GV
  rw[abb]
  intro h
  have:=h.length_le
  simp at this
  omega
theorem qE (s p:ByteArray):Fn prog 247 [sC s,sC p] (dE (GV s p)):=by
 refine fi func247 ntmps247 ?_
 (refine w0 ?_;repeat' ((first|apply aH rfl|apply aJ rfl);(focus (try apply ag rfl rfl rfl rfl rfl);exact nS (wR _ _));refine w0 ?_))
 exact dz
theorem zZ (s t:ByteArray)(hb:s.size<=1000000000000):Fn prog 237 [sC s,sC t] (eA (cT s t:Nat)):=by
 have hal:=iv s t
 refine fi func237 ntmps237 ?_
 (refine w0 ?_)
 refine aj (λk=>k<=cT s t) (λk=>aF [(0,sC s),(1,sC t),(5,iC .i64 (k:Nat))] []) (λk=>s.size-k) 0 (aag _) ?_
 intro k hk
 have hst:=D5 s.data.toList t.data.toList k
 simp only[nf]at hst
 by_cases h1:k<s.size/\k<t.size
 ·have hs2:=hst h1.1 h1.2 hk
  (refine w0 ?_;repeat' first|apply aw|refine ah λhc=>?_)
  ·have e:=hs2.1 (abg.1 ae)
   refine⟨k+1,e,ae,?_⟩
   exact ab
  ·have e:=hs2.2 (λh=>hc (by rw[h]))
   refine dr ?_
   exact aq rfl (by unfold cT;omega)
 ·by_cases h2:k<s.size
  ·(refine w0 ?_;repeat' first|apply aw|refine ah λhc=>?_)
   refine dr ?_
   exact aq rfl ae
  ·(refine w0 ?_;repeat' first|apply aw|refine ah λhc=>?_)
   refine dr ?_
   exact aq rfl ae
theorem wT (a b:ByteArray)(hb:a.size<=1000000000000):Fn prog 185 [va [a,b]] (.per (ai (.string (a.extract 0 (cT a b))))):=by
 have hal:=iv a b
 refine fi func185 ntmps185 ?_
 (refine w0 ?_;refine ah λhc=>?_)
 refine aj (λk=>k<=2) (λk=>aF [(0,va [a,b]),(3,iC .i64 ((if k=2 then cT a b else a.size:Nat):Int)),(13,va [a,b]),(14,iC .i64 2),(15,iC .i64 (k:Nat))] []) (λk=>2-k) 0 (aag _) ?_
 intro k hk
 have hk3:k=0\/k=1\/k=2:=ae
 rcases hk3 with h0|h1|h2
 ·subst h0
  (refine w0 ?_;refine ah λhc=>?_)
  refine aj (λn=>cT a a<=n/\n<=a.size) (λn=>aF [(0,va [a,b]),(3,iC .i64 (n:Nat)),(5,sC a),(13,va [a,b]),(14,iC .i64 2),(15,iC .i64 (0:Nat))] []) (λn=>n) a.size ⟨(iv a a).1,aaf _⟩ ?_
  rintro n ⟨hn1,hn2⟩
  have hp:=qE a (a.extract 0 n)
  rw[zY a a n hn2]at hp
  (refine au hp ?_;repeat' first|apply aw|refine ah λhc=>?_)
  ·have hn:cT a a<=n-1:=ae
   refine⟨n-1,⟨hn,ae⟩,ae,?_⟩
   exact ab
  ·have hn:n=cT a a:=ae
   subst hn
   refine⟨1,ae,ae,?_⟩
   rw[GU]
   exact ab
 ·subst h1
  (refine w0 ?_;refine ah λhc=>?_)
  refine aj (λn=>cT a b<=n/\n<=a.size) (λn=>aF [(0,va [a,b]),(3,iC .i64 (n:Nat)),(5,sC b),(13,va [a,b]),(14,iC .i64 2),(15,iC .i64 (1:Nat))] []) (λn=>n) a.size ⟨(iv a b).1,aaf _⟩ ?_
  rintro n ⟨hn1,hn2⟩
  have hp:=qE b (a.extract 0 n)
  rw[zY a b n hn2]at hp
  (refine au hp ?_;repeat' first|apply aw|refine ah λhc=>?_)
  ·have hn:cT a b<=n-1:=ae
   refine⟨n-1,⟨hn,ae⟩,ae,?_⟩
   exact ab
  ·have hn:n=cT a b:=ae
   subst hn
   refine⟨2,ae,ae,?_⟩
   skip
   exact ab
 ·subst h2
  (refine w0 ?_;refine ah λhc=>?_)
  refine dr ?_
  exact W4 rfl aA
def gr (n:Nat):List UInt8:=if n<128 then [UInt8.ofNat n]else UInt8.ofNat (128+n % 128)::gr (n / 128)
theorem gb {n:Nat}(h:n<128):gr n=[UInt8.ofNat n]:=by rw[gr,aae h]
theorem p0 {n:Nat}(h:¬n<128):gr n=UInt8.ofNat (128+n % 128)::gr (n / 128):=by rw[gr,aab h]
theorem D6 (k:Nat):∀n,n<128 ^ (k+1)->(gr n).length<=k+1:=by induction k<;>grind[gb,p0]
theorem p6 (n:Nat)(h:n<=9223372036854775807):(gr n).length<=9:=D6 8 n ae
theorem OX (n:Nat):0<(gr n).length:=by rw[gr];split<;>simp
theorem OY:TI prog 35 5 1 1:=TI.mk' underlying35 (by kernel_rfl)
theorem zB:(prog.info? 5).bind (·.zero)=some (.int .u8 0):=by kernel_rfl
theorem BN (m:Nat)(h:m<128):encB (UInt8.ofNat m)=[.int .u8 (m:Int)]:=by grind[encB,abh]
theorem D7 (m:Nat):encB (UInt8.ofNat (128+m % 128))=[.int .u8 ((m:Int) % 128+128)]:=by grind[encB,abh]
theorem JA (n0:Int)(v:Value)(l:List UInt8)(wB w:World)(h0:0<=n0)(hn:n0<=9223372036854775807)(hl:l.length<=70368744177664)(hv:lG 5 1 encB wB w v l) :
 Calls prog 96 #[v,.int .i64 n0] w (jI 5 1 encB wB (l++gr n0.toNat)):=by
 obtain⟨n,rfl⟩:=Int.eq_ofNat_of_zero_le h0
 have hlen9:=p6 n ae
 have e0:((n:Int)).toNat=n:=ae
 rw[e0]
 clear e0
 go_enter func96,ntmps96
 go_wp2
 go_loopw [0,1] (λv' i wr=>∃(m:Nat)(done:List UInt8),i=.int .i64 m/\m<=n/\lG 5 1 encB wB wr v' (l++done)/\done.length<=9/\Hid (done++gr m=gr n)) (λ_ i _=>(intOf i).toNat)
 case atStart=>exact⟨n,[],rfl,aaf _,by simpa using hv,aA,Lib.hid rfl⟩
 case round=>
  obtain⟨m,done,rfl,hm,hown,hd,HD⟩:=hrel
  by_cases hlt:m<128
  ·go_wp2_with (at_builtin;refine fC rfl _ _ 35 rfl OY cb wB _ [UInt8.ofNat m] _ _ rfl rfl (hown.alloc _) (Sl.new1 (enc:=encB) cb.len _ _ _ _ (BN m hlt)) ?_ ?_ ?_)
   ·(first|omega|(simp;omega)|(unfold maxLen;omega)|(unfold maxLen;simp;omega))
   ·(first|omega|(simp;omega)|(unfold maxLen;omega)|(unfold maxLen;simp;omega))
   ·intro v' w2 r HR hown2 _ _
    go_wp2
    go_ret
    have h1:=HD.out
    rw[gb hlt]at h1
    have e:l++gr n=r:=by rw[<-h1];simp[HR.out]
    rw[e]
    exact⟨_,rfl,hown2⟩
  ·have hg:128<=m:=ae
   go_wp2_with (at_builtin;refine fC rfl _ _ 35 rfl OY cb wB _ [UInt8.ofNat (128+m % 128)] _ _ rfl rfl (hown.alloc _) (Sl.new1 (enc:=encB) cb.len _ _ _ _ (D7 m)) ?_ ?_ ?_)
   ·(first|omega|(simp;omega)|(unfold maxLen;omega)|(unfold maxLen;simp;omega))
   ·(first|omega|(simp;omega)|(unfold maxLen;omega)|(unfold maxLen;simp;omega))
   ·intro v' w2 r HR hown2 _ _
    have h1:=HD.out
    rw[p0 hlt]at h1
    have h2:(done++[UInt8.ofNat (128+m % 128)]).length<=9:=by
     have:=aaA List.length h1
     simp at this ⊢;omega
    clear hown
    go_wp2
    go_roundw
    case rel=>exact⟨m / 128,done++[UInt8.ofNat (128+m % 128)],by go_num,ae,by rw[show l++(done++[UInt8.ofNat (128+m % 128)])=r by simp[HR.out]];exact hown2,h2,Lib.hid (by simpa using h1)⟩
    case measure=>simp[intOf];omega
def aO (n:Int):List UInt8:=gr n.toNat
def bF (n:Int):Prop:=0<=n/\n<=281474976710656
theorem bv (n:Int)(h:n<=9223372036854775807):(aO n).length<=9:=p6 _ ae
theorem gV (ns:List Int)(h:∀n∈ns,bF n):(ns.flatMap aO).length<=9*ns.length:=by
 induction ns with
 | nil=>simp
 | cons n ns ih=>
  have h1:=bv n (by have:=(h n aA).2;omega)
  have h2:=ih (λm hm=>h m (by simp[hm]))
  grind
theorem OZ (v vl:Value)(l:List UInt8)(ns:List Int)(w:World)(hv:Bs w v l)(hl:Sl 1 encI w vl ns)(hb:l.length+9*ns.length<=70368744177664)
 (hok:∀n∈ns,bF n):Calls prog 43 #[v,vl] w (Jk 5 1 encB w (l++ns.flatMap aO) (.int .i64 0)):=by
 obtain⟨a,c,b,o,rfl,h1,h2,h3,h4⟩:=hl.openI
 have h5:=qQ h1 h2
 clear h1 h2 hl
 go_enter func43,ntmps43
 go_wp2
 go_loop [13] (λi=>∃k:Nat,k<=ns.length/\i=.int .i64 k) (λi=>ns.length-(intOf i).toNat)
 case atStart=>exact⟨0,aag _,rfl⟩
 case round=>
  obtain⟨k,hk,rfl⟩:=hrel
  by_cases hlt:k<ns.length
  ·obtain rfl:=h3 ae
   have hc:=h4 k hlt
   obtain⟨g1,g2⟩:=hok ns[k] aA
   clear h3 h4 hok
   go_wp2
   go_round
   case rel=>exact⟨k+1,ae,by go_num⟩
   case measure=>simp[intOf];omega
  ·go_wp2_with (at_builtin;refine fC rfl _ _ 35 rfl OY cb w [] l _ _ rfl rfl (lG.empty (bQ.refl _)) (hv.ext ((bQ.refl _).alloc _)) ?_ ?_ ?_)
   ·(first|omega|(simp;omega)|(unfold maxLen;omega)|(unfold maxLen;simp;omega))
   ·(first|omega|(simp;omega)|(unfold maxLen;omega)|(unfold maxLen;simp;omega))
   ·intro v1 w1 r HR hown _ _
    have HR':Hid (r=l):=Lib.hid (by simpa using HR.out)
    clear HR
    go_wp2
    go_loopw [8,29] (λv i wr=>∃k:Nat,k<=ns.length/\i=.int .i64 k/\lG 5 1 encB w wr v (l++(ns.take k).flatMap aO)) (λ_ i _=>ns.length-(intOf i).toNat)
    case atStart=>exact⟨0,aag _,rfl,by rw[<-HR'.out];simpa using hown⟩
    case round=>
     obtain⟨j,hj,rfl,hown⟩:=hrel
     by_cases hjt:j<ns.length
     ·obtain rfl:=h3 ae
      have hc:=hown.ext.cell (h4 j hjt)
      obtain⟨g1,g2⟩:=hok ns[j] aA
      have hs:=Lib.hid (iU ns j hjt)
      have hlen:=gV (ns.take j) (λn hn=>hok n (abC hn))
      have hlj:(ns.take j).length<=j:=List.length_take_le _ _
      have hlen2:(l++(ns.take j).flatMap aO).length<=70368744177664:=by rw[aai];omega
      clear h3 h4 hlen hlj
      go_wp2_with fail
      refine(JA _ _ _ w _ g1 ae hlen2 hown).mono ?_
      rintro e w2 ⟨v2,rfl,hown2⟩
      have HO:=Lib.hid hown2
      clear hown hown2
      go_wp2
      go_roundw
      case rel=>exact⟨j+1,ae,by go_num,by rw[hs.out,List.flatMap_append,<-aal];simpa[aO]using HO.out⟩
      case measure=>simp[intOf];omega
     ·have HT:=Lib.hid (show ns.take j=ns from aaj ae)
      go_wp2
      go_ret2
      rw[HT.out]at hown
      exact⟨_,rfl,hown⟩
theorem Ua (v vl:Value)(ns:List Int)(w:World)(hl:Sl 1 encI w vl ns)
 (hbad:¬∀n∈ns,bF n):Calls prog 43 #[v,vl] w λe w'=>e=.returned (.tuple #[.slice none 0 0,.int .i64 2])/\w=w':=by
 obtain⟨a,c,b,o,rfl,h1,h2,h3,h4⟩:=hl.openI
 have h5:=qQ h1 h2
 clear h1 h2 hl
 have HB:=Lib.hid hbad
 clear hbad
 go_enter func43,ntmps43
 go_wp2
 go_loop [7,13] (λ_ i=>∃k:Nat,k<=ns.length/\i=.int .i64 k/\Hid (∀n∈ns.take k,bF n)) (λ_ i=>ns.length-(intOf i).toNat)
 case atStart=>exact⟨0,aag _,rfl,Lib.hid aA⟩
 case round=>
  obtain⟨k,hk,rfl,HK⟩:=hrel
  by_cases hlt:k<ns.length
  ·obtain rfl:=h3 ae
   have hc:=h4 k hlt
   have HS:=Lib.hid (iU ns k hlt)
   clear h3 h4
   by_cases g1:ns[k]<0
   ·go_wp2
    go_ret2
    exact⟨rfl,rfl⟩
   ·by_cases g2:281474976710656<ns[k]
    ·go_wp2
     go_ret2
     exact⟨rfl,rfl⟩
    ·go_wp2
     go_round
     case rel=>
      refine⟨k+1,ae,by go_num,Lib.hid ?_⟩
      rw[HS.out]
      intro n hn
      rcases aaS.1 hn with h|h
      ·exact HK.out n h
      ·simp at h;subst h;exact⟨ae,ae⟩
     case measure=>simp[intOf];omega
  ·exact absurd (λn hn=>HK.out n (by rw[aaj ae];exact hn)) HB.out
def bi (s:ByteArray):List UInt8:=gr s.size++s.data.toList
theorem nw (k:Nat):∀(n:Nat)(w:World),n<=k->n<=9223372036854775807 ->
 Calls prog 165 #[.int .i64 n] w (jI 5 1 encB w (gr n)):=by
 induction k with
 | zero=>
  intro n w hk hn
  obtain rfl:n=0:=ae
  go_enter func165,ntmps165
  go_wp2_with fail
  go_ret
  exact⟨_,rfl,by rw[gb bP];exact lG.lit cb.len (bQ.refl _) _ _ (by simpa using BN 0 bP) _ rfl (by simp[maxLen])⟩
 | succ k ih=>
  intro n w hk hn
  by_cases hlt:n<128
  ·go_enter func165,ntmps165
   go_wp2_with fail
   go_ret
   exact⟨_,rfl,by rw[gb hlt];exact lG.lit cb.len (bQ.refl _) _ _ (by simpa using BN n hlt) _ rfl (by simp[maxLen])⟩
  ·have hg:128<=n:=ae
   have HI:=Lib.hid (λw=>ih (n / 128) w ae ae)
   have hlen9:=p6 (n / 128) ae
   clear ih
   go_enter func165,ntmps165
   go_wp2_with fail
   have e1:((n:Int) / 128)=((n / 128:Nat):Int):=ae
   rw[e1]
   clear e1
   refine(HI.out _).mono ?_
   rintro e w2 ⟨v2,rfl,hown2⟩
   have hown:lG 5 1 encB w w2 (.slice (some ⟨w.heap.size,0,none⟩) 1 1) [UInt8.ofNat (128+n % 128)]:=
    (lG.lit cb.len (bQ.refl w) _ _ (by simp only[List.flatMap_cons,aaZ,aan];rw[D7,Int.add_comm]) _ rfl (by simp[maxLen])).extend hown2.ext
   have hs2:=hown2.sl cb
   clear hown2 HI
   go_wp2_with (at_builtin;refine fC rfl _ _ 35 rfl OY cb w _ (gr (n / 128)) _ _ rfl rfl hown hs2 ?_ ?_ ?_)
   ·(first|omega|(simp;omega)|(unfold maxLen;omega)|(unfold maxLen;simp;omega))
   ·(first|omega|(simp;omega)|(unfold maxLen;omega)|(unfold maxLen;simp;omega))
   ·intro v3 w3 r HR hown3 _ _
    have HR':Hid (r=gr n):=Lib.hid (by rw[p0 hlt];simpa using HR.out)
    go_wp2
    go_ret
    exact⟨_,rfl,by rw[<-HR'.out];exact hown3⟩
theorem qV (vl:Value)(ns:List Int)(w:World)(hl:Sl 1 encI w vl ns)(hb:ns.length<=7036874417766)
 (hok:∀n∈ns,bF n):Calls prog 160 #[vl] w (jI 5 1 encB w (ns.flatMap aO)):=by
 obtain⟨a,c,b,o,rfl,h1,h2,h3,h4⟩:=hl.openI
 clear h1 h2 hl
 go_enter func160,ntmps160
 go_wp2
 go_loopw [3,4] (λv i wr=>∃k:Nat,k<=ns.length/\i=.int .i64 k/\lG 5 1 encB w wr v ((ns.take k).flatMap aO)) (λ_ i _=>ns.length-(intOf i).toNat)
 case atStart=>exact⟨0,aag _,rfl,lG.nil (bQ.refl _)⟩
 case round=>
  obtain⟨j,hj,rfl,hown⟩:=hrel
  by_cases hjt:j<ns.length
  ·obtain rfl:=h3 ae
   have hc:=hown.ext.cell (h4 j hjt)
   obtain⟨g1,g2⟩:=hok ns[j] aA
   have hs:=Lib.hid (iU ns j hjt)
   have hlen:=gV (ns.take j) (λn hn=>hok n (abC hn))
   have hlj:(ns.take j).length<=j:=List.length_take_le _ _
   have hl9:=bv ns[j] ae
   generalize hx:ns[j]=x at *
   have HX:=Lib.hid hx
   obtain⟨m,rfl⟩:=Int.eq_ofNat_of_zero_le g1
   clear h3 h4 hx
   go_wp2_with fail
   refine(nw _ _ _ (aaf _) ae).mono ?_
   rintro e w2 ⟨v2,rfl,hown2⟩
   have hown1:=hown.extend hown2.ext
   have hs2:=hown2.sl cb
   clear hown hown2 hc
   generalize hL:(ns.take j).flatMap aO=L at *
   have HL:=Lib.hid hL
   clear hL
   have hl9':(gr m).length<=9:=hl9
   clear hl9
   go_wp2_with (at_builtin;refine fC rfl _ _ 35 rfl OY cb w _ _ _ _ rfl rfl hown1 hs2 ?_ ?_ ?_)
   ·(first|omega|(simp;omega)|(unfold maxLen;omega)|(unfold maxLen;simp;omega))
   ·(first|omega|(simp;omega)|(unfold maxLen;omega)|(unfold maxLen;simp;omega))
   ·intro v3 w3 r HR hown3 _ _
    clear hown1
    go_wp2
    go_roundw
    case rel=>exact⟨j+1,ae,by go_num,by rw[hs.out,List.flatMap_append,HL.out,show L++List.flatMap aO [(m:Int)]=r by simp[HR.out,aO]];exact hown3⟩
    case measure=>simp[intOf];omega
  ·have HT:=Lib.hid (show ns.take j=ns from aaj ae)
   go_wp2
   go_ret
   rw[HT.out]at hown
   exact⟨_,rfl,hown⟩
theorem lR (s:ByteArray)(w:World)(hb:s.size<=70368744177664):Calls prog 235 #[.string s] w (jI 5 1 encB w (bi s)):=by
 have hlen9:=p6 s.size ae
 go_enter func235,ntmps235
 go_wp2_with fail
 refine(nw _ _ _ (aaf _) ae).mono ?_
 rintro e w1 ⟨v1,rfl,hown1⟩
 go_wp2
 go_loopw [3,4] (λv i wr=>∃k:Nat,k<=s.size/\i=.int .i64 k/\lG 5 1 encB w wr v (gr s.size++s.data.toList.take k)) (λ_ i _=>s.size-(intOf i).toNat)
 case atStart=>exact⟨0,aag _,rfl,by simpa using hown1⟩
 case round=>
  obtain⟨j,hj,rfl,hown⟩:=hrel
  by_cases hjt:j<s.size
  ·have hs:=Lib.hid (Nm s j hjt)
   have hlj:(s.data.toList.take j).length<=j:=List.length_take_le _ _
   have hL:(gr s.size++s.data.toList.take j).length<=9+j:=by rw[aai];omega
   generalize hx:gr s.size++s.data.toList.take j=L at *
   have HX:=Lib.hid hx
   clear hx hlj hown1
   go_wp2_with (at_builtin;refine fC rfl _ _ 35 rfl OY cb w _ [s[j]] _ _ rfl rfl (hown.alloc _) (Sl.new1 (enc:=encB) cb.len _ _ _ _ rfl) ?_ ?_ ?_)
   ·(first|omega|(simp;omega)|(unfold maxLen;omega)|(unfold maxLen;simp;omega))
   ·(first|omega|(simp;omega)|(unfold maxLen;omega)|(unfold maxLen;simp;omega))
   ·intro v3 w3 r HR hown3 _ _
    clear hown
    go_wp2
    go_roundw
    case rel=>exact⟨j+1,ae,by go_num,by rw[hs.out,<-aal,HX.out,show L++[s[j]]=r by rw[HR.out]];exact hown3⟩
    case measure=>simp[intOf];omega
  ·have HT:=Lib.hid (Ti s j ae)
   go_wp2
   go_ret
   rw[HT.out]at hown
   exact⟨_,rfl,hown⟩
theorem sb (v vl:Value)(l:List UInt8)(ss:List ByteArray)(w:World)(hv:Bs w v l)(hl:Sl 1 encS w vl ss)(hb:l.length+(ss.flatMap bi).length<=7036874417766) :
 Calls prog 107 #[v,vl] w (jI 5 1 encB w (l++ss.flatMap bi)):=by
 obtain⟨a,c,b,o,rfl,h1,h2,h3,h4⟩:=hl.openS
 have h5:=qQ h1 h2
 clear h1 h2 hl
 go_enter func107,ntmps107
 go_wp2_with (at_builtin;refine fC rfl _ _ 35 rfl OY cb w [] l _ _ rfl rfl (lG.empty (bQ.refl _)) (hv.ext ((bQ.refl _).alloc _)) ?_ ?_ ?_)
 ·(first|omega|(simp;omega)|(unfold maxLen;omega)|(unfold maxLen;simp;omega))
 ·(first|omega|(simp;omega)|(unfold maxLen;omega)|(unfold maxLen;simp;omega))
 ·intro v1 w1 r HR hown _ _
  have HR':Hid (r=l):=Lib.hid (by simpa using HR.out)
  clear HR
  go_wp2
  go_loopw [5,13] (λv i wr=>∃k:Nat,k<=ss.length/\i=.int .i64 k/\lG 5 1 encB w wr v (l++(ss.take k).flatMap bi)) (λ_ i _=>ss.length-(intOf i).toNat)
  case atStart=>exact⟨0,aag _,rfl,by rw[<-HR'.out];simpa using hown⟩
  case round=>
   obtain⟨j,hj,rfl,hown⟩:=hrel
   by_cases hjt:j<ss.length
   ·obtain rfl:=h3 ae
    have hc:=hown.ext.cell (h4 j hjt)
    have hs:=Lib.hid (iU ss j hjt)
    have hlen:(l++(ss.take j).flatMap bi).length+(bi ss[j]).length<=7036874417766:=by
     have h:(ss.take (j+1)++ss.drop (j+1))=ss:=aa0 _ _
     rw[<-h,hs.out,List.flatMap_append,List.flatMap_append]at hb
     simp at hb ⊢;omega
    have hsz:(bi ss[j]).length=(gr ss[j].size).length+ss[j].size:=by simp[bi]
    generalize ss[j]=s at *
    have HS:=Lib.hid hsz
    have hsz1:(l++(ss.take j).flatMap bi).length+((gr s.size).length+s.size)<=7036874417766:=ae
    clear h3 h4 hlen hsz hv hb
    generalize hx:l++(ss.take j).flatMap bi=L at *
    have HX:=Lib.hid hx
    clear hx
    go_wp2_with fail
    refine(JA _ _ _ w _ ae ae ae hown).mono ?_
    rintro e w2 ⟨v2,rfl,hown2⟩
    have ht:Hid (((s.size:Int)).toNat=s.size):=Lib.hid ae
    rw[ht.out]at hown2
    clear hown hc
    go_wp2_with (at_builtin;refine C4 rfl _ _ 35 9 rfl OY zB underlying9 w _ s _ rfl rfl hown2 ?_ ?_)
    ·(first|omega|(simp;omega)|(unfold maxLen;omega)|(unfold maxLen;simp;omega))
    ·intro v3 w3 r HR hown3 _
     clear hown2
     go_wp2
     go_roundw
     case rel=>exact⟨j+1,ae,by go_num,by rw[hs.out,List.flatMap_append,<-aal,HX.out,show L++List.flatMap bi [s]=r by simp[HR.out,bi]];exact hown3⟩
     case measure=>simp[intOf];omega
   ·have HT:=Lib.hid (show ss.take j=ss from aaj ae)
    go_wp2
    go_ret
    rw[HT.out]at hown
    exact⟨_,rfl,hown⟩
abbrev gN (l:List UInt8):Ret:=.own 5 1 (l.map byteP)
theorem jL (l:List UInt8)(ns:List Int)(hb:l.length+9*ns.length<=1000000000000)(hok:∀n∈ns,bF n) :
 Fn prog 43 [dw l,zX ns] (.tup2 (gN (l++ns.flatMap aO)) (.per (ai (.int .i64 0)))):=by
 refine⟨⟨_,func43,by kernel_rfl,by kernel_rfl⟩,λN0 w vs _ ha=>?_⟩
 obtain⟨v,u,rfl,h1,h2⟩:=sa ha
 refine Calls.mono (OZ v u l ns w (wy h1) (wP h2) ae hok) ?_
 rintro e w' ⟨v',rfl,h⟩
 exact⟨_,rfl,h.ext,_,_,rfl,wQ cb h,rfl⟩
theorem fx (l:List UInt8)(ss:List ByteArray)(hb:l.length+(ss.flatMap bi).length<=1000000000000) :
 Fn prog 107 [dw l,va ss] (gN (l++ss.flatMap bi)):=by
 refine⟨⟨_,func107,by kernel_rfl,by kernel_rfl⟩,λN0 w vs _ ha=>?_⟩
 obtain⟨v,u,rfl,h1,h2⟩:=sa ha
 refine Calls.mono (sb v u l ss w (wy h1) (wP h2) ae) ?_
 rintro e w' ⟨v',rfl,h⟩
 exact⟨_,rfl,h.ext,wQ cb h⟩
theorem p7 (ns:List Int)(hb:ns.length<=1000000000)(hok:∀n∈ns,bF n):Fn prog 160 [zX ns] (gN (ns.flatMap aO)):=by
 refine⟨⟨_,func160,by kernel_rfl,by kernel_rfl⟩,λN0 w vs _ ha=>?_⟩
 obtain⟨v,rfl,h1⟩:=OS ha
 refine Calls.mono (qV v ns w (wP h1) ae hok) ?_
 rintro e w' ⟨v',rfl,h⟩
 exact⟨_,rfl,h.ext,wQ cb h⟩
theorem jj (s:ByteArray)(hb:s.size<=70368744177664):Fn prog 235 [sC s] (gN (bi s)):=by
 refine⟨⟨_,func235,by kernel_rfl,by kernel_rfl⟩,λN0 w vs _ ha=>?_⟩
 obtain⟨v,rfl,h1⟩:=OS ha
 obtain rfl:v=.string s:=h1
 refine Calls.mono (lR s w hb) ?_
 rintro e w' ⟨v',rfl,h⟩
 exact⟨_,rfl,h.ext,wQ cb h⟩
structure It where
 key:ByteArray
 rep:Int
 cnt:Int
 rank:Int
 prio:Int
 dead:Bool
 body:ByteArray
deriving DecidableEq
def encIt (x:It):List Value:=[.string x.key,.int .i64 x.rep,.int .i64 x.cnt,.int .i64 x.rank,.int .i64 x.prio,.bool x.dead,.string x.body]
def tC (x:It):Value:=.agg #[.string x.key,.int .i64 x.rep,.int .i64 x.cnt,.int .i64 x.rank,.int .i64 x.prio,.bool x.dead,.string x.body]
def mj (s:ByteArray):Bool:=decide (1<=s.size/\s.size<=16)
def gc (r c:Int):Bool:=decide (1<=r/\r<=16/\1<=c/\c<=1099511627776)
def dA (x:It):Bool:=mj x.key&&gc x.rep x.cnt&&decide (1<=x.rank/\x.rank<=1099511627776/\0<=x.prio/\x.prio<=255/\x.body.size<=64/\(x.dead=true->x.body.size=0))
theorem D8:Jj 7 encIt:=⟨bP,λ_=>rfl,λx u hu=>by
 simp only[encIt,aaU,abr,or_false]at hu
 rcases hu with rfl|rfl|rfl|rfl|rfl|rfl|rfl<;>rfl⟩
abbrev YZ (w:World)(v:Value)(l:List It):Prop:=Sl 7 encIt w v l
abbrev itP (x:It):List PV:=[ai (.string x.key),ai (.int .i64 x.rep),ai (.int .i64 x.cnt),ai (.int .i64 x.rank),ai (.int .i64 x.prio),ai (.bool x.dead),ai (.string x.body)]
abbrev vq (x:It):Cnt:=.per (cu (itP x))
abbrev vrP (r c:Int):List PV:=[ai (.int .i64 r),ai (.int .i64 c)]
abbrev vb (r c:Int):Cnt:=.per (cu (vrP r c))
theorem lf {a b:Bool}(h:a=b):Cnt.per (ai (.bool a))=.per (ai (.bool b)):=by rw[h]
theorem GW:(⟨#[]⟩:ByteArray).toList=[]:=by rw[jJ]
theorem Xl (s:ByteArray):s.toList=[]↔s.size=0:=by rw[jJ,<-List.length_eq_zero_iff,nf]
theorem z6 (s:ByteArray):Fn prog 189 [sC s] (dE (mj s)):=by
 refine fi func189 ntmps189 ?_
 (refine wH ?_)
 refine dr ?_
 refine cS (lf ?_)
 rw[mj,aav];simp;omega
theorem GX (s:ByteArray):Fn prog 140 [sC s] (dE (mj s)):=by
 refine fi func140 ntmps140 ?_
 (refine wH ?_)
 refine dr ?_
 refine cS (lf ?_)
 rw[mj,aav];simp;omega
theorem p8 (r c:Int):Fn prog 190 [vb r c] (dE (gc r c)):=by
 refine fi func190 ntmps190 ?_
 (refine wH ?_)
 refine dr ?_
 refine cS (lf ?_)
 rw[gc,aav];simp;omega
theorem qW (r c:Int):Fn prog 141 [vb r c] (dE (gc r c)):=by
 refine fi func141 ntmps141 ?_
 (refine wH ?_)
 refine dr ?_
 refine cS (lf ?_)
 rw[gc,aav];simp;omega
theorem dL (x:It):Fn prog 103 [vq x] (dE (dA x)):=by
 have h1:=z6 x.key
 have h2:=p8 x.rep x.cnt
 refine fi func103 ntmps103 ?_
 (refine bt h1 h2 ?_;repeat' first|apply aw|refine ah λhc=>?_)
 all_goals refine dr ?_
 all_goals refine aP rfl ?_
 all_goals have hs:x.body.toList=[]↔x.body.size=0:=Xl x.body
 all_goals have hn:=GW
 all_goals grind[dA]
theorem fy (x:It):Fn prog 70 [vq x] (dE (dA x)):=by
 have h1:=GX x.key
 have h2:=qW x.rep x.cnt
 refine fi func70 ntmps70 ?_
 (refine bt h1 h2 ?_;repeat' first|apply aw|refine ah λhc=>?_)
 all_goals refine dr ?_
 all_goals refine aP rfl ?_
 all_goals grind[dA]
def fP (x:It):List Int:=[x.rep,x.cnt,x.rank,x.prio,if x.dead then 1 else 0]
def jk (x:It):List UInt8:=(fP x).flatMap aO++bi x.body
def z8 (x:It):List UInt8:=if dA x then bi x.key++jk x else []
theorem fQ {x:It}(h:dA x=true):(∀n∈fP x,bF n)/\x.body.size<=64/\1<=x.key.size/\x.key.size<=16:=by
 simp only[dA,mj,gc,aaC,aaI]at h
 obtain⟨⟨h1,h2⟩,h3⟩:=h
 refine⟨?_,ae,ae,ae⟩
 intro n hn
 simp only[fP,aaU,abr,or_false]at hn
 unfold bF
 rcases hn with rfl|rfl|rfl|rfl|rfl
 ·omega
 ·omega
 ·omega
 ·omega
 ·split<;>omega
theorem cM (s:ByteArray)(h:s.size<=127):(bi s).length=1+s.size:=by unfold bi;rw[gb ae];simp;omega
theorem p9 (l:List UInt8)(ns:List Int)(hb:l.length+9*ns.length<=1000000000000)(hok:∀n∈ns,bF n) :
 Fn prog 184 [dw l,zX ns] (gN (l++ns.flatMap aO)):=by
 refine fi func184 ntmps184 ?_
 (refine kD (jL l ns hb hok) ?_)
 exact oo
theorem wU (l:List UInt8)(x:It)(hr:dA x=true)(hb:l.length<=1000000) :
 Fn prog 186 [dw l,vq x] (gN (l++jk x)):=by
 obtain⟨hnums,hbody,_,_⟩:=fQ hr
 have hlen:=gV _ hnums
 have htl:=cM x.body ae
 obtain⟨key,rep,cnt,rank,prio,dead,body⟩:=x
 cases dead
 all_goals
  simp only[fP,aaL,if_true,if_false]at hnums hlen hbody htl
 ·have p2:=fx (l++([rep,cnt,rank,prio,0]:List Int).flatMap aO) [body] (by rw[aai];simp at *;omega)
  refine fi func186 ntmps186 ?_
  (refine kD p2 ?_;repeat' first|apply aw|refine ah λhc=>?_|((first|apply aH rfl|apply aJ rfl);(focus (try apply ag rfl rfl rfl rfl rfl);exact nS (p9 l _ bD hnums));refine kD p2 ?_))
  refine dr ?_
  exact cJ rfl rfl rfl (by simp[jk,fP])
 ·have p2:=fx (l++([rep,cnt,rank,prio,1]:List Int).flatMap aO) [body] (by rw[aai];simp at *;omega)
  refine fi func186 ntmps186 ?_
  (refine kD p2 ?_;repeat' first|apply aw|refine ah λhc=>?_|((first|apply aH rfl|apply aJ rfl);(focus (try apply ag rfl rfl rfl rfl rfl);exact nS (p9 l _ bD hnums));refine kD p2 ?_))
  refine dr ?_
  exact cJ rfl rfl rfl (by simp[jk,fP])
theorem GY (x:It):Fn prog 264 [vq x] (.tup2 (gN (z8 x)) (.per (ai (.int .i64 (if dA x then 0 else 2))))):=by
 by_cases hr:dA x=true
 ·have hk:=(fQ hr).2.2.2
  have htl:=cM x.key ae
  refine fi func264 ntmps264 ?_
  (have kc1:=dL x;have kc2:=fx [] [x.key] bD;have kc3:=wU ([]++[x.key].flatMap bi) x hr bD;refine wH ?_;(refine ah λhc=>?_);all_goals clear kc3 kc2 kc1)
  all_goals refine dV ?_ ?_
  ·exact cJ rfl rfl rfl (by simp[z8,hr])
  ·exact aq rfl (by simp[hr])
 ·rw[z8,aab hr,aab hr]
  refine fi func264 ntmps264 ?_
  (refine kD (dL x) ?_;refine ah λhc=>?_)
  all_goals refine dV ?_ ?_
  ·exact dG rfl
  ·exact aq rfl rfl
theorem eX (x:It):Fn prog 333 [vq x] (.per (ai (.int .i64 ((z8 x).length:Nat)))):=by
 refine fi func333 ntmps333 ?_
 (refine kD (GY x) ?_)
 refine dr ?_
 exact aq rfl aA
theorem bp (l:List α)(k:Nat)(h:k<l.length):l.take (k+1)=l.take k++[l[k]]:=by rw[List.take_succ_eq_append_getElem h]
abbrev cX (l:List It):PV:=cn 7 (l.map itP)
abbrev eS (l:List It):Cnt:=.bor 7 (l.map itP)
theorem BO (x:It):(z8 x).length<=200:=by
 unfold z8
 split
 ·rename_i h
  obtain⟨h1,h2,h3,h4⟩:=fQ h
  have h5:=gV _ h1
  have h6:=cM x.body ae
  have h7:=cM x.key ae
  have h8:(fP x).length=5:=rfl
  simp only[jk,aai];omega
 ·simp
theorem D9 (s u:ByteArray):(s==u)=true↔s=u:=by
 rw[beq_toListBytes,beq_iff_eq,jJ,jJ,Array.toList_inj]
 exact⟨λh=>by cases s;cases u;simp_all,λh=>by rw[h]⟩
def Wm (x:It):Bool:=decide (x.key.size>60)||decide (x.body.size>200)
def oZ (l:List It)(most:Int):Bool:=decide ((l.length:Int)>most)||l.any Wm
theorem O0 (l:List It)(k:Nat)(h:k<l.length):(l.take (k+1)).any Wm=((l.take k).any Wm||Wm l[k]):=by rw[bp l k h,List.any_append];simp
theorem Aa (l:List It)(most:Int)(hl:most<=1000000000000):Fn prog 18 [eS l,iC .i64 most] (dE (oZ l most)):=by
 refine fi func18 ntmps18 ?_
 (refine wH ?_;repeat' first|apply aw|refine ah λhc=>?_)
 ·refine dr ?_
  exact aP rfl (by unfold oZ;rw[aao hc];rfl)
 refine aj (λk=>k<=l.length/\(l.take k).any Wm=false) (λk=>aF [(0,eS l),(1,iC .i64 most),(4,bC false),(5,iC .i64 (k:Nat))] []) (λk=>l.length-k) 0 ⟨aag _,rfl⟩ ?_
 rintro k ⟨hk,hpre⟩
 by_cases hlt:k<l.length
 ·have hsn:=O0 l k hlt
  (refine wH ?_;repeat' first|apply aw|refine ah λhc=>?_)
  ·refine dr ?_
   exact aP rfl (by symm;unfold oZ;rw[abm,List.any_eq_true];refine .inr ⟨l[k],aar hlt,?_⟩;grind[Wm])
  ·refine⟨k+1,⟨ae,?_⟩,ae,?_⟩
   ·rw[hsn,hpre];grind[Wm]
   ·exact ab
 ·(refine wH ?_;refine ah λhc=>?_)
  refine dr ?_
  have e:l.take k=l:=aaj ae
  rw[e]at hpre
  exact aP rfl (by symm;unfold oZ;rw[hpre,Bool.or_false,abb];assumption)
theorem Ea (x:It)(hr:dA x=true):Fn prog 238 [vq x] (gN (jk x)):=by
 obtain⟨hnums,hbody,_,_⟩:=fQ hr
 have hlen:=gV _ hnums
 have htl:=cM x.body ae
 obtain⟨key,rep,cnt,rank,prio,dead,body⟩:=x
 cases dead
 all_goals
  simp only[fP,aaL,if_true,if_false]at hnums hlen hbody htl
  simp at hlen
  refine fi func238 ntmps238 ?_
  (refine kD (jj body ae) ?_;repeat' first|apply aw|refine ah λhc=>?_|((first|apply aH rfl|apply aJ rfl);(focus (try apply ag rfl rfl rfl rfl rfl);exact nS (p7 _ aA hnums));refine kD (jj body ae) ?_))
  refine dr ?_
  exact f9 rfl rfl (nq (by rw[<-List.map_append];simp[jk,fP]))
theorem O1 (x:It)(hr:dA x=true):Fn prog 273 [vq x] (gN (z8 x)):=by
 have hk:=(fQ hr).2.2.2
 have htl:=cM x.key ae
 have hrl:=BO x
 have hib:z8 x=bi x.key++jk x:=by rw[z8,aae hr]
 rw[hib]at hrl ⊢
 rw[aai]at hrl
 refine fi func273 ntmps273 ?_
 (refine u3 (jj x.key ae) (Ea x hr) ?_)
 refine dr ?_
 exact f9 rfl rfl (nq (by rw[<-List.map_append]))
def dZ:List UInt8->List UInt8->Int
 | [],[]=>0
 | [],_::_=>-1
 | _::_,[]=>1
 | x::a,y::b=>if x.toNat<y.toNat then -1 else if y.toNat<x.toNat then 1 else dZ a b
def cG (s t:ByteArray):Int:=dZ s.data.toList t.data.toList
theorem uc (a b:List UInt8)(k:Nat)(h1:k<a.length)(h2:k<b.length):dZ (a.drop k) (b.drop k)=if a[k].toNat<b[k].toNat then -1 else if b[k].toNat<a[k].toNat then 1 else dZ (a.drop (k+1)) (b.drop (k+1)):=by rw[List.drop_eq_getElem_cons h1,List.drop_eq_getElem_cons h2,dZ]
theorem wV (a b:List UInt8)(k:Nat)(h:a.length<=k\/b.length<=k)(h1:k<=a.length)(h2:k<=b.length):dZ (a.drop k) (b.drop k)=if a.length<b.length then -1 else if a.length>b.length then 1 else 0:=by
 by_cases e1:a.length<=k
 all_goals grind[dZ,List.drop_eq_getElem_cons]
def GZ (r c r' c':Int):Int:=if r=r'/\c=c' then 0 else if r<r'\/r=r'/\c<c' then -1 else 1
def Lf (x y:It):Int:=if x.rank>y.rank then 1 else if x.rank<y.rank then -1 else GZ x.rep x.cnt y.rep y.cnt
theorem hY (s t:ByteArray)(hs:s.size<=1000000000000):Fn prog 119 [sC s,sC t] (eA (cG s t)):=by
 generalize hR:cG s t=R
 refine fi func119 ntmps119 ?_
 (refine w0 ?_)
 refine aj (λk=>k<=s.size/\k<=t.size/\dZ (s.data.toList.drop k) (t.data.toList.drop k)=R) (λk=>aF [(0,sC s),(1,sC t),(10,iC .i64 (min (s.size:Int) (t.size:Int))),(11,iC .i64 (k:Nat))] []) (λk=>s.size-k) 0 ⟨aag _,aag _,hR⟩ ?_
 rintro k ⟨h1,h2,h3⟩
 have hst:=uc s.data.toList t.data.toList k
 have hen:=wV s.data.toList t.data.toList k
 simp only[nf]at hst hen
 rw[h3]at hst hen
 by_cases hk:k<s.size/\k<t.size
 ·have hst:=hst hk.1 hk.2
  have hm:(k:Int)<min (s.size:Int) (t.size:Int):=ae
  (refine w0 ?_;repeat' first|apply aw|refine ah λhc=>?_)
  ·rw[aae ae]at hst
   refine dr ?_
   exact aq rfl hst.symm
  ·rw[aab ae,aae ae]at hst
   refine dr ?_
   exact aq rfl hst.symm
  ·rw[aab ae,aab ae]at hst
   refine⟨k+1,⟨ae,ae,hst.symm⟩,ae,?_⟩
   exact ab
 ·have hen:=hen ae h1 h2
  have hm:¬(k:Int)<min (s.size:Int) (t.size:Int):=ae
  (refine w0 ?_;repeat' first|apply aw|refine ah λhc=>?_)
  all_goals refine dr ?_
  ·rw[aae ae]at hen
   exact aq rfl hen.symm
  ·rw[aab ae,aae ae]at hen
   exact aq rfl hen.symm
  ·rw[aab ae,aab ae]at hen
   exact aq rfl hen.symm
theorem kf (s t:ByteArray)(hs:s.size<=1000000000000):Fn prog 69 [sC s,sC t] (dE (decide (cG s t<0))):=by
 generalize hR:cG s t=R
 refine fi func69 ntmps69 ?_
 (refine w0 ?_)
 refine aj (λk=>k<=s.size/\k<=t.size/\dZ (s.data.toList.drop k) (t.data.toList.drop k)=R) (λk=>aF [(0,sC s),(1,sC t),(5,iC .i64 (k:Nat))] []) (λk=>s.size-k) 0 ⟨aag _,aag _,hR⟩ ?_
 rintro k ⟨h1,h2,h3⟩
 have hst:=uc s.data.toList t.data.toList k
 have hen:=wV s.data.toList t.data.toList k
 simp only[nf]at hst hen
 rw[h3]at hst hen
 by_cases hk:k<s.size/\k<t.size
 ·have hst:=hst hk.1 hk.2
  (refine w0 ?_;repeat' first|apply aw|refine ah λhc=>?_)
  ·refine dr ?_
   refine aP rfl ?_
   rw[hst]
   grind
  ·rw[aab ae,aab ae]at hst
   refine⟨k+1,⟨ae,ae,hst.symm⟩,ae,?_⟩
   exact ab
 ·have hen:=hen ae h1 h2
  (refine w0 ?_;repeat' first|apply aw|refine ah λhc=>?_)
  all_goals refine dr ?_
  all_goals refine aP rfl ?_
  all_goals grind
theorem BQ (r c r' c':Int):Jt prog 10000 77 [.int .i64 r,.int .i64 c] [.int .i64 r',.int .i64 c']=some (decide (r=r')&&(decide (c=c')&&true)):=by kernel_rfl
theorem G1:prog.eqGuardType prog.depth 77=false:=by kernel_rfl
theorem Ub (r c r' c':Int):Fn prog 220 [vb r c,vb r' c'] (eA (GZ r c r' c')):=by
 have hE:=BQ r c r' c'
 refine fi func220 ntmps220 ?_
 (refine w0 ?_;repeat' first|apply aw|refine ah λhc=>?_|((first|apply aH rfl|apply aJ rfl);(focus (try apply ag rfl rfl rfl rfl rfl);(exact ga (us:=[.int .i64 r,.int .i64 c]) (vs:=[.int .i64 r',.int .i64 c']) ⟨rfl,rfl,rfl⟩ rfl rfl rfl (by first|exact .inl ⟨rfl,rfl⟩|exact .inr ⟨rfl,rfl⟩) G1 rfl hE));refine w0 ?_))
 all_goals refine dr ?_
 all_goals refine aq rfl ?_
 all_goals grind[GZ]
theorem O2 (x y:It):Fn prog 139 [vq x,vq y] (eA (Lf x y)):=by
 have h1:=Ub x.rep x.cnt y.rep y.cnt
 refine fi func139 ntmps139 ?_
 (refine au h1 ?_;repeat' first|apply aw|refine ah λhc=>?_)
 all_goals refine dr ?_
 all_goals refine aq rfl ?_
 all_goals grind[Lf]
structure Rg where
 lo:ByteArray
 hi:ByteArray
 op:Bool
deriving DecidableEq
def encRg (r:Rg):List Value:=[.string r.lo,.string r.hi,.bool r.op]
theorem Eb:Jj 3 encRg:=⟨bP,λ_=>rfl,λx u hu=>by
 simp only[encRg,aaU,abr,or_false]at hu
 rcases hu with rfl|rfl|rfl<;>rfl⟩
abbrev rgP (r:Rg):List PV:=[ai (.string r.lo),ai (.string r.hi),ai (.bool r.op)]
abbrev Ab (r:Rg):Cnt:=.per (cu (rgP r))
abbrev gd (l:List Rg):PV:=cn 3 (l.map rgP)
abbrev cU (l:List Rg):Cnt:=.bor 3 (l.map rgP)
def YF (x y:Rg):Bool:=(x.lo==y.lo)&&((x.hi==y.hi)&&((x.op==y.op)&&true))
theorem sc (x y:Rg):YF x y=true↔x=y:=by
 obtain⟨a,b,c⟩:=x
 obtain⟨a',b',c'⟩:=y
 grind[YF,D9]
theorem O3 (x y:Rg):Jt prog 10000 40 (encRg x) (encRg y)=some (YF x y):=by kernel_rfl
theorem Xm:prog.eqGuardType prog.depth 40=false:=by kernel_rfl
theorem iw (s u:ByteArray):s.toList=u.toList↔s=u:=by rw[<-D9,beq_toListBytes,beq_iff_eq]
def e0:ByteArray:=⟨#[]⟩
def gg (r:Rg):Bool:=decide (r.lo.size<=17/\r.hi.size<=17/\(if r.op=true then r.hi=e0 else cG r.lo r.hi<0))
theorem cg (r:Rg):gg r=true↔r.lo.size<=17/\r.hi.size<=17/\(if r.op=true then r.hi=e0 else cG r.lo r.hi<0):=by grind[gg]
def zk (l:List Rg)(i:Nat):Prop:=∀h:i<l.length,gg l[i]=true/\∀h0:0<i,l[i-1].op=false/\cG l[i-1].hi l[i].lo<0
def bT (l:List Rg):Prop:=∀i,zk l i
theorem Ec (s:ByteArray):Fn prog 203 [sC s] (dE (decide (s.size<=17))):=by
 refine fi func203 ntmps203 ?_
 (refine w0 ?_)
 refine dr ?_
 exact aP rfl bD
theorem gW (r:Rg):Fn prog 118 [Ab r] (dE (gg r)):=by
 obtain⟨lo,hi,op⟩:=r
 have h1:=Ec lo
 have h2:=Ec hi
 have hR:=cg ⟨lo,hi,op⟩
 generalize gg ⟨lo,hi,op⟩=b at *
 simp only at hR
 show Fn prog _ [.per (cu [ai (.string lo),ai (.string hi),ai (.bool op)])] (dE b)
 by_cases hl:lo.size<=17
 ·by_cases hh:hi.size<=17
  ·rw[aao hl]at h1
   rw[aao hh]at h2
   cases op with
   | true=>
    have hE:=O3 ⟨lo,hi,true⟩ ⟨lo,e0,true⟩
    have hI:=sc ⟨lo,hi,true⟩ ⟨lo,e0,true⟩
    generalize YF ⟨lo,hi,true⟩ ⟨lo,e0,true⟩=q at *
    refine fi func118 ntmps118 ?_
    (refine bt h1 h2 ?_;repeat' first|apply aw|refine ah λhc=>?_|((first|apply aH rfl|apply aJ rfl);(focus (try apply ag rfl rfl rfl rfl rfl);(exact ga (us:=encRg ⟨lo,hi,true⟩) (vs:=encRg ⟨lo,e0,true⟩) ⟨rfl,rfl,rfl⟩ rfl rfl rfl (by first|exact .inl ⟨rfl,rfl⟩|exact .inr ⟨rfl,rfl⟩) Xm rfl hE));refine bt h1 h2 ?_))
    refine dr ?_
    refine aP rfl ?_
    rw[show(q != false)=q by cases q<;>rfl,aav,hI,hR]
    simp[hl,hh]
   | false=>
    have h3:=hY lo hi ae
    refine fi func118 ntmps118 ?_
    (refine fF h1 h2 h3 ?_;repeat' first|apply aw|refine ah λhc=>?_)
    refine dr ?_
    refine aP rfl ?_
    rw[aav,hR]
    simp[hl,hh]
  ·rw[aao hl]at h1
   rw[aap hh]at h2
   have hr:b=false:=by rw[<-aaB,hR];exact λh=>hh h.2.1
   rw[hr]
   clear hR
   refine fi func118 ntmps118 ?_
   (refine bt h1 h2 ?_;refine ah λhc=>?_)
   exact dz
 ·rw[aap hl]at h1
  have hr:b=false:=by rw[<-aaB,hR];exact λh=>hl h.1
  rw[hr]
  clear hR
  refine fi func118 ntmps118 ?_
  (refine au h1 ?_;refine ah λhc=>?_)
  exact dz
theorem kg (r:Rg):Fn prog 68 [Ab r] (dE (gg r)):=by
 obtain⟨lo,hi,op⟩:=r
 have hR:=cg ⟨lo,hi,op⟩
 generalize gg ⟨lo,hi,op⟩=b at *
 simp only at hR
 show Fn prog _ [.per (cu [ai (.string lo),ai (.string hi),ai (.bool op)])] (dE b)
 by_cases hl:lo.size<=17
 ·by_cases hh:hi.size<=17
  ·cases op with
   | true=>
    refine fi func68 ntmps68 ?_
    (refine w0 ?_;repeat' first|apply aw|refine ah λhc=>?_)
    refine dr ?_
    refine aP rfl ?_
    rw[aav,hR,beq_iff_eq,iw]
    simp[hl,hh,e0]
   | false=>
    have h3:=kf lo hi ae
    refine fi func68 ntmps68 ?_
    (refine au h3 ?_;repeat' first|apply aw|refine ah λhc=>?_)
    refine dr ?_
    refine aP rfl ?_
    rw[aav,hR]
    simp[hl,hh]
  ·have hr:b=false:=by rw[<-aaB,hR];exact λh=>hh h.2.1
   rw[hr]
   clear hR
   refine fi func68 ntmps68 ?_
   (refine w0 ?_;repeat' first|apply aw|refine ah λhc=>?_)
   exact dz
 ·have hr:b=false:=by rw[<-aaB,hR];exact λh=>hl h.1
  rw[hr]
  clear hR
  refine fi func68 ntmps68 ?_
  (refine w0 ?_;repeat' first|apply aw|refine ah λhc=>?_)
  exact dz
theorem mN (l:List Rg)(hl:l.length<=1000000000)(b:Bool)(hb:b=true↔bT l):Fn prog 55 [cU l] (dE b):=by
 refine fi func55 ntmps55 ?_
 (refine w0 ?_)
 refine aj (X:=Nat) (λz=>z<=l.length/\∀i,i<z->zk l i)
  (λz=>aF [(0,cU l),(5,cU l),(6,iC .i64 (l.length:Nat)),(7,iC .i64 (z:Nat))] []) (λz=>l.length-z) 0 ⟨aag _,λi h=>absurd h (abc _)⟩ ?_
 rintro z ⟨h1,h2⟩
 by_cases hz:z<l.length
 ·have hir:=gW l[z]
  have hno:¬zk l z->b=false:=λh=>by rw[<-aaB,hb];exact λq=>h (q z)
  cases hr:gg l[z]with
  | false=>
   have hb0:=hno (λh=>by have:=(h hz).1;rw[hr]at this;cases this)
   subst hb0
   clear hb hno h2
   rw[hr]at hir
   (refine au hir ?_;repeat' first|apply aw|refine ah λhc=>?_)
   exact dz
  | true=>
   rw[hr]at hir
   by_cases h0:0<z
   ·obtain⟨q,rfl⟩:∃q,z=q+1:=⟨z-1,ae⟩
    have hqE:((q+1:Nat):Int)-1=(q:Nat):=ae
    have hrq:=(cg _).1 ((h2 q ae) ae).1
    have hcm:=hY l[q].hi l[q+1].lo ae
    cases ho:l[q].op with
    | true=>
     have hb0:=hno (λh=>by have:=((h hz).2 h0).1;rw[show l[q+1-1]=l[q]from rfl,ho]at this;cases this)
     subst hb0
     clear hb hno h2 hrq
     (refine bz hqE hir hcm ?_;repeat' first|apply aw|refine ah λhc=>?_)
     all_goals first|(exfalso;simp_all;done)|skip
     exact dz
    | false=>
     by_cases hlt:cG l[q].hi l[q+1].lo<0
     ·have hok:zk l (q+1):=λ_=>⟨hr,λ_=>⟨ho,hlt⟩⟩
      clear hb hno hrq
      (refine bz hqE hir hcm ?_;repeat' first|apply aw|refine ah λhc=>?_)
      all_goals first|(exfalso;simp_all;done)|skip
      refine⟨q+1+1,⟨ae,λi hi=>?_⟩,ae,?_⟩
      ·grind
      ·exact ab
     ·have hb0:=hno (λh=>hlt ((h hz).2 h0).2)
      subst hb0
      clear hb hno h2 hrq
      (refine bz hqE hir hcm ?_;repeat' first|apply aw|refine ah λhc=>?_)
      all_goals first|(exfalso;simp_all;done)|skip
      exact dz
   ·have hok:zk l z:=λ_=>⟨hr,λh=>absurd h h0⟩
    clear hb hno
    (refine au hir ?_;repeat' first|apply aw|refine ah λhc=>?_)
    refine⟨z+1,⟨ae,λi hi=>?_⟩,ae,?_⟩
    ·grind
    ·exact ab
 ·have hb1:b=true:=hb.2 (λi=>by
   rcases aaF i z with q|q
   ·exact h2 i q
   ·exact λh=>ae)
  subst hb1
  clear hb h2
  (refine w0 ?_;refine ah λhc=>?_)
  exact dz
theorem nx (l:List Rg)(hl:l.length<=1000000000)(b:Bool)(hb:b=true↔bT l):Fn prog 23 [cU l] (dE b):=by
 refine fi func23 ntmps23 ?_
 (refine w0 ?_)
 refine aj (X:=Nat) (λz=>z<=l.length/\∀i,i<z->zk l i)
  (λz=>aF [(0,cU l),(3,iC .i64 (z:Nat))] []) (λz=>l.length-z) 0 ⟨aag _,λi h=>absurd h (abc _)⟩ ?_
 rintro z ⟨h1,h2⟩
 by_cases hz:z<l.length
 ·have hir:=kg l[z]
  have hno:¬zk l z->b=false:=λh=>by rw[<-aaB,hb];exact λq=>h (q z)
  cases hr:gg l[z]with
  | false=>
   have hb0:=hno (λh=>by have:=(h hz).1;rw[hr]at this;cases this)
   subst hb0
   clear hb hno h2
   rw[hr]at hir
   (refine au hir ?_;repeat' first|apply aw|refine ah λhc=>?_)
   exact dz
  | true=>
   rw[hr]at hir
   by_cases h0:0<z
   ·obtain⟨q,rfl⟩:∃q,z=q+1:=⟨z-1,ae⟩
    have hqE:((q+1:Nat):Int)-1=(q:Nat):=ae
    have hrq:=(cg _).1 ((h2 q ae) ae).1
    have hcm:=kf l[q].hi l[q+1].lo ae
    cases ho:l[q].op with
    | true=>
     have hb0:=hno (λh=>by have:=((h hz).2 h0).1;rw[show l[q+1-1]=l[q]from rfl,ho]at this;cases this)
     subst hb0
     clear hb hno h2 hrq
     (refine bz hqE hir hcm ?_;repeat' first|apply aw|refine ah λhc=>?_)
     all_goals first|(exfalso;simp_all;done)|skip
     exact dz
    | false=>
     by_cases hlt:cG l[q].hi l[q+1].lo<0
     ·have hok:zk l (q+1):=λ_=>⟨hr,λ_=>⟨ho,hlt⟩⟩
      rw[aao hlt]at hcm
      clear hb hno hrq
      (refine bz hqE hir hcm ?_;repeat' first|apply aw|refine ah λhc=>?_)
      all_goals first|(exfalso;simp_all;done)|skip
      refine⟨q+1+1,⟨ae,λi hi=>?_⟩,ae,?_⟩
      ·grind
      ·exact ab
     ·have hb0:=hno (λh=>hlt ((h hz).2 h0).2)
      rw[aap hlt]at hcm
      subst hb0
      clear hb hno h2 hrq
      (refine bz hqE hir hcm ?_;repeat' first|apply aw|refine ah λhc=>?_)
      all_goals first|(exfalso;simp_all;done)|skip
      exact dz
   ·have hok:zk l z:=λ_=>⟨hr,λh=>absurd h h0⟩
    clear hb hno
    (refine au hir ?_;repeat' first|apply aw|refine ah λhc=>?_)
    refine⟨z+1,⟨ae,λi hi=>?_⟩,ae,?_⟩
    ·grind
    ·exact ab
 ·have hb1:b=true:=hb.2 (λi=>by
   rcases aaF i z with q|q
   ·exact h2 i q
   ·exact λh=>ae)
  subst hb1
  clear hb h2
  (refine w0 ?_;refine ah λhc=>?_)
  exact dz
structure DPt where
 fr:Nat
 to:Nat
 r:Rg
def ml (k:ByteArray)(p:DPt):DPt:=⟨p.fr,p.fr+(p.to-p.fr) / 2,⟨p.r.lo,k,false⟩⟩
def mO (k:ByteArray)(p:DPt):DPt:=⟨p.fr+(p.to-p.fr) / 2,p.to,⟨k,p.r.hi,p.r.op⟩⟩
def jl (L:List It)(p:DPt):ByteArray:=match L[p.fr+(p.to-p.fr) / 2]? with|some x=>x.key|none=>⟨#[]⟩
def lh (L:List It)(a:Bool)(p:DPt):List DPt:=if a then []else if p.to-p.fr<2 then []else [ml (jl L p) p,mO (jl L p) p]
def o0 (a:Bool)(p:DPt):List Rg:=if a then []else if p.to-p.fr<2 then [p.r]else []
def vN (L:List It):List Bool->List DPt->List DPt
 | [],st=>st
 | _::_,[]=>[]
 | a::A,p::st=>vN L A (lh L a p++st)
def vO (L:List It):List Bool->List DPt->List Rg
 | [],_=>[]
 | _::_,[]=>[]
 | a::A,p::st=>o0 a p++vO L A (lh L a p++st)
def Wn (L:List It):List Bool->List DPt->List Rg
 | _,[]=>[]
 | [],p::_=>[p.r]
 | a::A,p::st=>p.r::Wn L A (lh L a p++st)
def se (L:List It):Nat->DPt->List Bool->List Rg×List Rg×Option (List Bool)
 | 0,_,A=>([],[],some A)
 | _+1,p,[]=>([p.r],[],none)
 | f+1,p,a::A=>
  if a then([p.r],[],some A)
  else if p.to-p.fr<2 then([p.r],[p.r],some A)
  else match se L f (ml (jl L p) p) A with
   | (q,g,none)=>(p.r::q,g,none)
   | (q,g,some A1)=>match se L f (mO (jl L p) p) A1 with
    | (q2,g2,o)=>(p.r::(q++q2),g++g2,o)
theorem Xn (L:List It):∀(f:Nat)(p:DPt)(A:List Bool)(st:List DPt),p.to-p.fr<f ->
 match se L f p A with
 | (q,g,none)=>Wn L A (p::st)=q/\vO L A (p::st)=g/\vN L A (p::st)≠[]
 | (q,g,some A1)=>Wn L A (p::st)=q++Wn L A1 st/\vO L A (p::st)=g++vO L A1 st/\vN L A (p::st)=vN L A1 st:=by
 intro f
 induction f with
 | zero=>intro p A st h;omega
 | succ f ih=>
  intro p A st h
  cases A with
  | nil=>rw[se];exact⟨rfl,rfl,by rw[vN];simp⟩
  | cons a A=>
   rw[se,Wn,vO,vN]
   cases a with
   | true=>rw[aae rfl];grind[lh,o0]
   | false=>
    rw[aab aA]
    by_cases c:p.to-p.fr<2
    ·rw[aae c]
     grind[lh,o0]
    ·rw[aab c]
     have e1:lh L false p=[ml (jl L p) p,mO (jl L p) p]:=by grind[lh]
     have e2:o0 false p=[]:=by grind[o0]
     rw[e1,e2]
     have h1:=ih (ml (jl L p) p) A (mO (jl L p) p::st) (by grind[ml])
     generalize se L f (ml (jl L p) p) A=x at h1 ⊢
     obtain⟨q,g,o⟩:=x
     cases o with
     | none=>
      grind
     | some A1=>
      obtain⟨a1,a2,a3⟩:=h1
      have h2:=ih (mO (jl L p) p) A1 st (by grind[mO])
      grind
theorem O4 (L:List It):∀(A:List Bool)(a:Bool)(p:DPt)(st s:List DPt),vN L A s=p::st->vN L (A++[a]) s=lh L a p++st/\vO L (A++[a]) s=vO L A s++o0 a p:=by
 intro A
 induction A with
 | nil=>
  grind[vN,vO]
 | cons b A ih=>
  intro a p st s h
  cases s<;>grind[vN,vO]
theorem Uc (L:List It):∀(A:List Bool)(s:List DPt),vN L A s≠[]->(Wn L A s).length=A.length+1/\∃p st,vN L A s=p::st/\(Wn L A s)[A.length]?=some p.r:=by
 intro A
 induction A with
 | nil=>
  intro s h
  cases s with
  | nil=>exact absurd rfl h
  | cons p st=>exact⟨rfl,p,st,rfl,rfl⟩
 | cons a A ih=>
  intro s h
  cases s<;>grind[vN,Wn]
theorem Ed {P:List α->Prop}(h0:P [])(h1:∀l x,P l->P (l++[x])):∀l,P l:=by
 intro l
 have:∀r:List α,P r.reverse:=by
  intro r
  induction r<;>grind
 simpa using this l.reverse
