/- Lemmas, walks. -/
import Derived.Test.YtecdgdoledkdfaaGreatJ06
set_option maxRecDepth 10000
set_option maxHeartbeats 8000000
namespace Go.Proofs.YtecdgdoledkdfaaGreat
open Go.RowKit Go.Proofs.Tryz
variable {n:Int}
def G2 (x:Rg):Bool:=decide (x.lo.size>40)||decide (x.hi.size>40)
def iG (l:List Rg)(most:Int):Bool:=decide ((l.length:Int)>most)||l.any G2
theorem Ee (l:List Rg)(most:Int)(hl:most<=1000000000000):Fn prog 17 [cU l,iC .i64 most] (dE (iG l most)):=by
 refine fi func17 ntmps17 ?_
 (refine wH ?_;repeat' first|apply aw|refine ah λhc=>?_)
 ·refine dr ?_
  exact aP rfl (by grind[iG])
 refine aj (λk=>k<=l.length/\(l.take k).any G2=false) (λk=>aF [(0,cU l),(1,iC .i64 most),(4,bC false),(5,iC .i64 (k:Nat))] []) (λk=>l.length-k) 0 ⟨aag _,aA⟩ ?_
 rintro k ⟨hk,hpre⟩
 by_cases hlt:k<l.length
 ·have hsn:(l.take (k+1)).any G2=((l.take k).any G2||G2 l[k]):=by rw[bp l k hlt,List.any_append];simp
  (refine wH ?_;repeat' first|apply aw|refine ah λhc=>?_)
  ·refine dr ?_
   exact aP rfl (by grind[iG,G2])
  ·refine⟨k+1,⟨ae,?_⟩,ae,?_⟩
   ·rw[hsn,hpre];grind[G2]
   ·exact ab
 ·(refine wH ?_;refine ah λhc=>?_)
  refine dr ?_
  have e:l.take k=l:=aaj ae
  rw[e]at hpre
  exact aP rfl (by grind[iG])
def s0:ByteArray:=⟨#[]⟩
def ny (s:ByteArray)(n:Nat):ByteArray:=s.extract n s.size
def gi (was:ByteArray):List It->List UInt8
 | []=>[]
 | x::r=>aO (cT was x.key:Nat)++(bi (ny x.key (cT was x.key))++(jk x++gi x.key r))
def fR (l:List It):List UInt8:=aO (l.length:Nat)++gi s0 l
theorem eT (s:ByteArray)(n:Nat):(ny s n).size=s.size-n:=by unfold ny;simp
theorem ud {x:It}(h:dA x=true):(jk x).length<=110:=by grind[fQ,gV,cM,fP,jk]
theorem Ac {α:Type}(l:List α)(k:Nat)(h:k<l.length):l.drop k=l[k]::l.drop (k+1):=List.drop_eq_getElem_cons h
theorem Ef (l:List It)(hl:l.length<=4096):Fn prog 101 [eS l] (.tup2 (gN (if l.all dA then fR l else [])) (eA (if l.all dA then 0 else 2))):=by
 have hp0:=p9 [] [(l.length:Int)] aA (λn hn=>by grind[bF])
 refine fi func101 ntmps101 ?_
 (refine au hp0 ?_;refine ah λhc=>?_)
 refine bw (aU 15 600) ?_
 refine ci (X:=Nat×List UInt8×ByteArray) (λx=>x.1<=l.length/\(l.take x.1).all dA=true/\x.2.2.size<=16/\x.2.1.length<=10+200*x.1/\x.2.1++gi x.2.2 (l.drop x.1)=fR l)
  (λx=>aF [(4,.row 600 0),(5,sC x.2.2),(16,eS l),(17,iC .i64 (l.length:Nat)),(18,iC .i64 (x.1:Nat))] [(600,.row 5 1 (x.2.1.map byteP))]) (λx=>l.length-x.1) (0,[(l.length:Int)].flatMap aO,s0) ⟨aag _,rfl,(by decide:s0.size<=16),?_,?_⟩ ?_ ?_
 ·have:=bv (l.length:Int) ae
  simp;omega
 ·simp[fR]
 ·exact ab
 ·rintro⟨k,acc,was⟩ ⟨hk,hall,hws,hlen,hR⟩
  simp only at hk hall hws hlen hR ⊢
  by_cases hlt:k<l.length
  ·cases hr:dA l[k]with
   | false=>
    have hno:l.all dA=false:=by
     rw[<-aaB]
     grind
    rw[hno]
    have h1:=dL l[k]
    rw[hr]at h1
    (refine au h1 ?_;repeat' first|apply aw|refine ah λhc=>?_)
    refine dV ?_ ?_
    ·exact dG rfl
    ·exact aq rfl rfl
   | true=>
    have h1:=dL l[k]
    rw[hr]at h1
    have hks:=fQ hr
    have hal:=iv was l[k].key
    have h2:=wT was l[k].key ae
    have hnn:(was.extract 0 (cT was l[k].key)).size=cT was l[k].key:=bD
    generalize hcm:was.extract 0 (cT was l[k].key)=cm at *
    have h3:=p9 acc [(cm.size:Int)] bD (λn hn=>by grind[bF])
    have h4:=fx (acc++[(cm.size:Int)].flatMap aO) [ny l[k].key cm.size] (by
     have:=bv (cm.size:Int) ae
     have:=cM (ny l[k].key cm.size) (by rw[eT];omega)
     rw[eT]at this
     simp;omega)
    have h5:=wU (acc++[(cm.size:Int)].flatMap aO++[ny l[k].key cm.size].flatMap bi) l[k] hr (by
     have:=bv (cm.size:Int) ae
     have:=cM (ny l[k].key cm.size) (by rw[eT];omega)
     rw[eT]at this
     simp;omega)
    (refine zT h1 h2 h3 h4 h5 ?_;repeat' first|apply aw|refine ah λhc=>?_)
    refine⟨(k+1,acc++[(cm.size:Int)].flatMap aO++[ny l[k].key cm.size].flatMap bi++jk l[k],l[k].key),⟨aL,?_,aL,?_,?_⟩,aL,az (aU 42 600) ?_⟩
    ·grind[bp]
    ·have q1:=bv (cm.size:Int) ae
     have q2:=cM (ny l[k].key cm.size) (by rw[eT];omega)
     have q3:=ud hr
     rw[eT]at q2
     simp;omega
    ·grind[Ac,gi]
    ·exact ab
  ·have hkl:k=l.length:=ae
   subst hkl
   rw[aba,gi,aan]at hR
   rw[aa9]at hall
   rw[hall]
   (refine w0 ?_;refine ah λhc=>?_)
   refine dV ?_ ?_
   ·exact cJ rfl rfl rfl hR
   ·exact aq rfl rfl
theorem iZ (n:Int)(h:bF n):Fn prog 165 [iC .i64 n] (gN (aO n)):=by
 refine⟨⟨_,func165,by kernel_rfl,by kernel_rfl⟩,λN0 w vs _ ha=>?_⟩
 obtain⟨v,rfl,h1⟩:=OS ha
 obtain rfl:v=.int .i64 n:=h1
 obtain⟨h0,h2⟩:=h
 obtain⟨m,rfl⟩:=Int.eq_ofNat_of_zero_le h0
 refine Calls.mono (nw m m w (aaf _) ae) ?_
 rintro e w' ⟨v',rfl,h⟩
 exact⟨_,rfl,h.ext,wQ cb h⟩
theorem O5 {n:Nat}(h:n<128):[[ai (.int .u8 (IntKind.u8.wrap (n:Int)))]]=(aO (n:Int)).map byteP:=by
 have e:IntKind.u8.wrap (n:Int)=n:=by grind[IntKind.wrap,IntKind.bits]
 unfold aO
 rw[Int.toNat_natCast,gb h,e]
 show [[ai (.int .u8 (n:Int))]]=[[ai (.int .u8 ((UInt8.ofNat n).toNat:Int))]]
 rw[abh,Nat.mod_eq_of_lt ae]
theorem Lg (l:List It)(hl:l.length<=4096)(hall:l.all dA=true):Fn prog 166 [eS l] (gN (fR l)):=by
 have hp0:=iZ (l.length:Int) (by unfold bF;omega)
 rw[aaH]at hall
 refine fi func166 ntmps166 ?_
 (refine au hp0 ?_)
 refine bw (aU 9 600) ?_
 refine ci (X:=Nat×List UInt8×ByteArray) (λx=>x.1<=l.length/\x.2.2.size<=16/\x.2.1.length<=10+200*x.1/\x.2.1++gi x.2.2 (l.drop x.1)=fR l)
  (λx=>aF [(0,eS l),(3,.row 600 0),(4,sC x.2.2),(5,iC .i64 (x.1:Nat))] [(600,.row 5 1 (x.2.1.map byteP))]) (λx=>l.length-x.1) (0,aO (l.length:Nat),s0) ⟨aag _,(by decide:s0.size<=16),?_,?_⟩ ?_ ?_
 ·have:=bv (l.length:Int) ae
  simp only;omega
 ·simp[fR]
 ·exact ab
 ·rintro⟨k,acc,was⟩ ⟨hk,hws,hlen,hR⟩
  simp only at hk hws hlen hR ⊢
  by_cases hlt:k<l.length
  ·have hr:=hall _ (aar hlt)
   have hks:=fQ hr
   have hal:=iv was l[k].key
   have h2:=zZ was l[k].key ae
   have h3:=jj (ny l[k].key (cT was l[k].key)) (by rw[eT];omega)
   have h4:=Ea l[k] hr
   have q2:=cM (ny l[k].key (cT was l[k].key)) (by rw[eT];omega)
   have q3:=ud hr
   rw[eT]at q2
   (refine fF h2 h3 h4 ?_;refine ah λhc=>?_)
   have hb1:=O5 (n:=cT was l[k].key) ae
   have q1:=bv ((cT was l[k].key:Nat):Int) ae
   refine⟨(k+1,acc++aO (cT was l[k].key:Nat)++bi (ny l[k].key (cT was l[k].key))++jk l[k],l[k].key),⟨aL,aL,bD,?_⟩,aL,?_⟩
   ·grind[Ac,gi]
   ·(refine kA ?_ ?_;(focus ((repeat (first|exact gp.nil|(refine gp.cons ?_ ?_;rotate_left)));(all_goals try (first|rfl|(refine Gj ?_;first|omega|(simp;done)|(simp;omega))|(refine qw ?_;first|(simp;done)|(simp[*];done))))));(focus ((repeat (first|exact gq.nil|(refine gq.cons ?_ ?_;rotate_left)));(all_goals try (first|rfl|(refine nq ?_;(rw[List.map_append]<;>rfl);done)|(refine kB ?_;(rw[List.map_append]<;>rfl);done))))))
    ·show Blk.row _ _ (((acc.map byteP++[[ai (.int .u8 (IntKind.u8.wrap ((cT was l[k].key:Nat):Int)))]])++_)++_)=_
     rw[hb1,<-List.map_append,<-List.map_append,<-List.map_append]
  ·have hkl:k=l.length:=ae
   subst hkl
   rw[aba,gi,aan]at hR
   (refine w0 ?_;refine ah λhc=>?_)
   refine dr ?_
   exact cJ rfl rfl rfl hR
def ue (r:Rg):List UInt8:=bi r.lo++(if r.op=true then aO 1 else aO 0++bi r.hi)
def fc (l:List Rg):List UInt8:=aO (l.length:Nat)++l.flatMap ue
theorem mP (_h0:0<=n)(h:n<128):(aO n).length=1:=by grind[aO,gb]
theorem nz {r:Rg}(h:gg r=true):(ue r).length<=40:=by grind[cg,cM,mP,ue]
theorem vP {l:List Rg}(h:bT l){i:Nat}(hi:i<l.length):gg l[i]=true:=(h i hi).1
theorem uf (l:List UInt8)(ns:List Int)(hb:l.length+9*ns.length<=1000000000000)(hok:∀n∈ns,bF n):Fn prog 180 [dw l,zX ns] (gN (l++ns.flatMap aO)):=by
 have h:=jL l ns hb hok
 refine fi func180 ntmps180 ?_
 (refine au h ?_)
 exact oo
theorem G3:(aO 0).map byteP=[[ai (.int .u8 0)]]:=by unfold aO;rw[gb bP];rfl
theorem G4:(aO 1).map byteP=[[ai (.int .u8 1)]]:=by unfold aO;rw[gb bP];rfl
theorem li (h0:0<=n)(h:n<=1000000):∀m∈[n],bF m:=λm hm=>by grind[bF]
theorem sf (l:List Rg)(hl:l.length<=4096)(b:Bool)(hb:b=true↔bT l):Fn prog 98 [cU l] (.tup2 (gN (if b then fc l else [])) (eA (if b then 0 else 2))):=by
 have h0:=mN l ae b hb
 cases b with
 | false=>
  show Fn _ _ _ (.tup2 (gN []) (eA 2))
  clear hb
  refine fi func98 ntmps98 ?_
  (refine au h0 ?_;repeat' first|apply aw|refine ah λhc=>?_)
  all_goals refine dV ?_ ?_
  all_goals first|exact dG rfl|exact aq rfl rfl
 | true=>
  show Fn _ _ _ (.tup2 (gN (fc l)) (eA 0))
  have hok:=hb.1 rfl
  clear hb
  have hp0:=uf [] [(l.length:Int)] aA (li ae ae)
  have hn0:=bv (l.length:Int) ae
  refine fi func98 ntmps98 ?_
  (refine bt h0 hp0 ?_;repeat' first|apply aw|refine ah λhc=>?_)
  refine bw (aU 18 600) ?_
  refine aj (X:=Nat×List UInt8) (λx=>x.1<=l.length/\x.2.length<=10+40*x.1/\x.2++(l.drop x.1).flatMap ue=fc l)
   (λx=>aF [(4,.row 600 0),(19,cU l),(20,iC .i64 (l.length:Nat)),(21,iC .i64 (x.1:Nat))] [(600,.row 5 1 (x.2.map byteP))]) (λx=>l.length-x.1) (0,[(l.length:Int)].flatMap aO) ⟨aag _,bD,by simp[fc]⟩ ?_
  rintro⟨k,acc⟩ ⟨h1,h2,h3⟩
  simp only at h1 h2 h3 ⊢
  by_cases hlt:k<l.length
  ·have hr:=vP hok hlt
   have hbl:=nz hr
   have hsz:=(cg _).1 hr
   have t1:=cM l[k].lo ae
   have t2:=cM l[k].hi ae
   have n0:=mP (n:=0) ae ae
   rw[List.drop_eq_getElem_cons hlt,List.flatMap_cons]at h3
   have c1:=fx acc [l[k].lo] bD
   have c2:=uf (acc++[l[k].lo].flatMap bi) [1] bD (li ae ae)
   have c3:=uf (acc++[l[k].lo].flatMap bi) [0] bD (li ae ae)
   have c4:=fx (acc++[l[k].lo].flatMap bi++[(0:Int)].flatMap aO) [l[k].hi] bD
   clear hok h0
   (refine u0 c1 c2 c3 c4 ?_;repeat' first|apply aw|refine ah λhc=>?_)
   ·have e:ue l[k]=bi l[k].lo++aO 1:=by grind[ue]
    rw[e]at h3 hbl
    refine⟨(k+1,acc++[l[k].lo].flatMap bi++[(1:Int)].flatMap aO),⟨aL,by simp at hbl ⊢;omega,by rw[<-h3];simp⟩,aL,az (aU 34 600) ?_⟩
    exact ab
   ·have e:ue l[k]=bi l[k].lo++(aO 0++bi l[k].hi):=by grind[ue]
    rw[e]at h3 hbl
    refine⟨(k+1,acc++[l[k].lo].flatMap bi++[(0:Int)].flatMap aO++[l[k].hi].flatMap bi),⟨aL,by simp at hbl ⊢;omega,by rw[<-h3];simp⟩,aL,az (aU 41 600) ?_⟩
    exact ab
  ·rw[aay ae,aaZ,aan]at h3
   (refine w0 ?_;refine ah λhc=>?_)
   refine dV ?_ ?_
   ·exact cJ rfl rfl rfl h3
   ·exact aq rfl rfl
theorem wW (l:List Rg)(hl:l.length<=4096)(hok:bT l):Fn prog 163 [cU l] (gN (fc l)):=by
 have hp0:=iZ (l.length:Int) (by unfold bF;omega)
 have hn0:=bv (l.length:Int) ae
 refine fi func163 ntmps163 ?_
 (refine au hp0 ?_)
 refine bw (aU 7 600) ?_
 refine aj (X:=Nat×List UInt8) (λx=>x.1<=l.length/\x.2.length<=10+40*x.1/\x.2++(l.drop x.1).flatMap ue=fc l)
  (λx=>aF [(0,cU l),(3,.row 600 0),(4,iC .i64 (x.1:Nat))] [(600,.row 5 1 (x.2.map byteP))]) (λx=>l.length-x.1) (0,aO (l.length:Nat)) ⟨aag _,aL,by simp[fc]⟩ ?_
 rintro⟨k,acc⟩ ⟨h1,h2,h3⟩
 simp only at h1 h2 h3 ⊢
 by_cases hlt:k<l.length
 ·have hr:=vP hok hlt
  have hbl:=nz hr
  have hsz:=(cg _).1 hr
  have t1:=cM l[k].lo ae
  have t2:=cM l[k].hi ae
  rw[List.drop_eq_getElem_cons hlt,List.flatMap_cons]at h3
  have c1:=jj l[k].lo ae
  have c2:=jj l[k].hi ae
  clear hok
  (refine bt c1 c2 ?_;repeat' first|apply aw|refine ah λhc=>?_)
  ·have e:ue l[k]=bi l[k].lo++aO 1:=by grind[ue]
   rw[e]at h3 hbl
   refine⟨(k+1,acc++bi l[k].lo++aO 1),⟨aL,by simp at hbl ⊢;omega,by rw[<-h3];simp⟩,aL,?_⟩
   (refine kA ?_ ?_;(focus ((repeat (first|exact gp.nil|(refine gp.cons ?_ ?_;rotate_left)));(all_goals try (first|rfl|(refine Gj ?_;first|omega|(simp;done)|(simp;omega))|(refine qw ?_;first|(simp;done)|(simp[*];done))))));(focus ((repeat (first|exact gq.nil|(refine gq.cons ?_ ?_;rotate_left)));(all_goals try (first|rfl|(refine nq ?_;(rw[List.map_append]<;>rfl);done)|(refine kB ?_;(rw[List.map_append]<;>rfl);done))))))
   ·show Blk.row _ _ ((acc.map byteP++_)++[[ai (.int .u8 1)]])=_
    rw[<-G4,<-List.map_append,<-List.map_append]
  ·have e:ue l[k]=bi l[k].lo++(aO 0++bi l[k].hi):=by grind[ue]
   rw[e]at h3 hbl
   refine⟨(k+1,acc++bi l[k].lo++aO 0++bi l[k].hi),⟨aL,by simp at hbl ⊢;omega,by rw[<-h3];simp⟩,aL,?_⟩
   (refine kA ?_ ?_;(focus ((repeat (first|exact gp.nil|(refine gp.cons ?_ ?_;rotate_left)));(all_goals try (first|rfl|(refine Gj ?_;first|omega|(simp;done)|(simp;omega))|(refine qw ?_;first|(simp;done)|(simp[*];done))))));(focus ((repeat (first|exact gq.nil|(refine gq.cons ?_ ?_;rotate_left)));(all_goals try (first|rfl|(refine nq ?_;(rw[List.map_append]<;>rfl);done)|(refine kB ?_;(rw[List.map_append]<;>rfl);done))))))
   ·show Blk.row _ _ (((acc.map byteP++_)++[[ai (.int .u8 0)]])++_)=_
    rw[<-G3,<-List.map_append,<-List.map_append,<-List.map_append]
 ·rw[aay ae,aaZ,aan]at h3
  (refine w0 ?_;refine ah λhc=>?_)
  refine dr ?_
  exact cJ rfl rfl rfl h3
def du (l:List UInt8):Nat:=(l.takeWhile (λc=>decide (128<=c.toNat))).length
def ep:List UInt8->Nat
 | []=>0
 | c::r=>c.toNat % 128+128*ep r
def lS (l:List UInt8):Prop:=(0<du l/\l[du l]?=some 0)\/281474976710656<ep (l.take (du l+1))
instance (l:List UInt8):Decidable (lS l):=by unfold lS;infer_instance
def bj (l:List UInt8):Nat×Nat×Int:=
 if 8<=du l then(0,0,11)else if l.length<=du l then(0,0,10)else if lS l then(0,0,11)else(ep (l.take (du l+1)),du l+1,0)
theorem BR (l:List UInt8):du l<=l.length:=by grind[du,List.takeWhile_sublist]
theorem qa:∀(l:List UInt8)(i:Nat)(h:i<l.length),i<=du l->(128<=l[i].toNat->i+1<=du l)/\(l[i].toNat<128->du l=i):=by
 intro l
 induction l<;>grind[du,List.takeWhile_cons]
theorem Eg:∀(l:List UInt8)(i:Nat)(h:i<l.length),i<du l->128<=l[i].toNat:=by grind[qa]
theorem Ud (l:List UInt8)(h:du l<l.length):l[du l].toNat<128:=by grind[qa]
theorem Eh (l:List UInt8):ep l<128 ^ l.length:=by induction l<;>grind[ep]
def bI (l:List UInt8)(e:Int):Int×List UInt8×Int:=
 if e≠0 then(0,l,e)else if(bj l).2.2≠0 then(0,l,(bj l).2.2)else((bj l).1,l.drop (bj l).2.1,0)
def af (lo hi:Int)(l:List UInt8)(e:Int):Int×List UInt8×Int:=
 if(bI l e).2.2=0/\((bI l e).1<lo\/hi<(bI l e).1)then(0,l,11)else bI l e
def bm (most:Int)(l:List UInt8)(e:Int):List UInt8×List UInt8×Int:=
 if(af 0 most l e).2.2≠0 then([],(af 0 most l e).2)
 else if(af 0 most l e).2.1.length<(af 0 most l e).1 then([],l,10)
 else((af 0 most l e).2.1.take (af 0 most l e).1.toNat,(af 0 most l e).2.1.drop (af 0 most l e).1.toNat,0)
def G5 (x:Int)(l:List UInt8)(e:Int):List UInt8×Int:=if e=0 then(l,x)else(l,e)
def dg (l:List UInt8)(e:Int):Int:=if e=0/\0<l.length then 14 else e
theorem G6:∀(xs:List UInt8)(c:UInt8),(∀x∈xs,128<=x.toNat)->c.toNat<128->(xs≠[]->c≠0)->gr (ep (xs++[c]))=xs++[c]:=by
 intro xs
 induction xs with
 | nil=>
  intro c _ hc _
  have:ep ([]++[c])=c.toNat:=by simp[ep];omega
  rw[this,gb hc];simp
 | cons x r ih=>
  intro c hx hc hne
  have hc0:=hne aA
  have hr:=ih c (λy hy=>hx y (by simp[hy])) hc (λ_=>hc0)
  have hxx:=hx x aA
  have hV:0<ep (r++[c]):=by
   have h1:∀r:List UInt8,0<c.toNat->0<ep (r++[c]):=by
    intro r hp
    induction r<;>grind[ep]
   apply h1
   rcases Nat.eq_zero_or_pos c.toNat with h|h
   ·exact absurd (abg.1 (by simpa using h)) hc0
   ·exact h
  have hval:ep (x::r++[c])=x.toNat % 128+128*ep (r++[c]):=rfl
  have hlt:=x.toNat_lt
  rw[hval,p0 ae]
  rw[show(x.toNat % 128+128*ep (r++[c])) / 128=ep (r++[c])by omega,hr]
  rw[show 128+(x.toNat % 128+128*ep (r++[c])) % 128=x.toNat by omega]
  simp
theorem O6 {l:List UInt8}(h:(bj l).2.2=0):du l<8/\du l<l.length/\¬lS l/\(bj l).1=ep (l.take (du l+1))/\(bj l).2.1=du l+1:=by grind[bj]
theorem BS {l:List UInt8}(h:(bj l).2.2=0):gr (bj l).1=l.take (bj l).2.1/\0<(bj l).2.1/\(bj l).2.1<=l.length/\(bj l).1<=281474976710656:=by
 obtain⟨h8,hl,hb,e1,e2⟩:=O6 h
 rw[e1,e2]
 have ht:l.take (du l+1)=l.take (du l)++[l[du l]]:=List.take_succ_eq_append_getElem hl
 refine⟨?_,ae,ae,?_⟩
 ·rw[ht]
  refine G6 _ _ ?_ (Ud l hl) ?_
  ·grind[List.getElem_of_mem,Eg]
  ·intro hne h0
   refine hb (.inl ⟨?_,by rw[aaa hl,h0]⟩)
   grind
 ·rcases aaF 281474976710656 (ep (l.take (du l+1)))with h|h
  ·exact absurd (.inr h) hb
  ·exact h
theorem wX (n:Nat):∃xs c,gr n=xs++[c]/\(∀x∈xs,128<=x.toNat)/\c.toNat<128/\(xs≠[]->c≠0)/\ep (gr n)=n:=by
 induction n using Nat.strongRecOn with
 | ind n ih=>
  by_cases h:n<128
  ·refine⟨[],UInt8.ofNat n,by rw[gb h];rfl,aA,by rw[abh];omega,aA,?_⟩
   rw[gb h];grind[ep,abh]
  ·obtain⟨xs,c,e,h1,h2,h3,h4⟩:=ih (n / 128) ae
   refine⟨UInt8.ofNat (128+n % 128)::xs,c,by rw[p0 h,e];rfl,?_,h2,?_,?_⟩
   ·grind[abh]
   ·intro _
    by_cases hx:xs=[]
    ·subst hx
     intro hc
     subst hc
     rw[e]at h4
     grind[ep]
    ·exact h3 hx
   grind[p0,ep,abh]
theorem Lh (n:Nat)(r:List UInt8):du (gr n++r)+1=(gr n).length:=by
 obtain⟨xs,c,e,h1,h2,h3,h4⟩:=wX n
 rw[e]
 grind[List.takeWhile_append_of_pos,List.takeWhile_cons,du]
theorem O7 (n:Nat)(r:List UInt8)(hn:n<=281474976710656):bj (gr n++r)=(n,(gr n).length,0):=by
 have hl:=Lh n r
 have h8:=D6 7 n ae
 obtain⟨xs,c,e,h1,h2,h3,h4⟩:=wX n
 have hlen:du (gr n++r)=xs.length:=by rw[e]at hl ⊢;grind
 unfold bj
 rw[aab ae,aab (by rw[aai];omega)]
 have ht:(gr n++r).take (du (gr n++r)+1)=gr n:=by rw[hl];simp
 rw[aab,ht,hl,h4]
 grind[lS]
theorem lU (h:bF n)(r:List UInt8):bI (aO n++r) 0=(n,r,0):=by
 unfold bI aO
 obtain⟨h1,h2⟩:=h
 rw[O7 n.toNat r ae]
 rw[aab aA,aab aA]
 simp;omega
theorem cv {lo hi:Int}(h:bF n)(h1:lo<=n)(h2:n<=hi)(r:List UInt8):af lo hi (aO n++r) 0=(n,r,0):=by grind[af,lU]
theorem sh {s:ByteArray}{most:Int}(h:(s.size:Int)<=most)(h2:s.size<=281474976710656)(r:List UInt8):bm most (bi s++r) 0=(s.data.toList,r,0):=by
 have hw:af 0 most (bi s++r) 0=((s.size:Int),s.data.toList++r,0):=by
  have:=cv (n:=(s.size:Int)) (lo:=0) (hi:=most) ⟨ae,ae⟩ ae h (s.data.toList++r)
  grind[aO,bi]
 have hl:s.data.toList.length=s.size:=nf s
 unfold bm
 rw[hw,aab aA,aab bD,Int.toNat_natCast,List.take_append_of_le_length ae,aaj ae,List.drop_append_of_le_length ae,aay ae]
 rfl
theorem G7 (s:ByteArray):(⟨s.data.toList.toArray⟩:ByteArray)=s:=by cases s;simp
theorem Ue {l:List UInt8}{e:Int}(h:e≠0):bI l e=(0,l,e):=by grind[bI]
theorem fS {l:List UInt8}{e:Int}(h:(bI l e).2.2=0):e=0/\bF (bI l e).1/\l=aO (bI l e).1++(bI l e).2.1:=by
 by_cases he:e=0
 ·subst he
  unfold bI at h ⊢
  rw[aab aA]at h ⊢
  by_cases hr:(bj l).2.2=0
  ·obtain⟨h1,h2,h3,h4⟩:=BS hr
   rw[aab (by simp[hr])]
   refine⟨rfl,⟨aL,aL⟩,?_⟩
   grind[aO,aa0]
  grind
 grind[Ue]
theorem bN {lo hi:Int}{l:List UInt8}{e:Int}(h:(af lo hi l e).2.2=0):e=0/\bF (af lo hi l e).1/\lo<=(af lo hi l e).1/\(af lo hi l e).1<=hi/\l=aO (af lo hi l e).1++(af lo hi l e).2.1:=by grind[af,fS]
theorem kU {most:Int}{l:List UInt8}{e:Int}(h:(bm most l e).2.2=0):e=0/\((bm most l e).1.length:Int)<=most/\l=bi ⟨(bm most l e).1.toArray⟩++(bm most l e).2.1:=by
 unfold bm at h ⊢
 split at h
 ·grind
 ·rename_i hc
  rw[aab hc]
  split at h
  ·simp at h
  ·rename_i hc2
   rw[aab hc2]
   have hc:(af 0 most l e).2.2=0:=by simpa using hc
   obtain⟨h1,h2,h3,h4,h5⟩:=bN hc
   have hlen:((af 0 most l e).2.1.take (af 0 most l e).1.toNat).length=(af 0 most l e).1.toNat:=by rw[aaK];omega
   refine⟨h1,by grind,?_⟩
   simp only
   unfold bi
   have:(⟨((af 0 most l e).2.1.take (af 0 most l e).1.toNat).toArray⟩:ByteArray).size=(af 0 most l e).1.toNat:=by
    show(((af 0 most l e).2.1.take (af 0 most l e).1.toNat).toArray).size=_
    rw[aaV];exact hlen
   rw[this]
   simp only
   rw[aal,aa0]
   exact h5
theorem si {l:List UInt8}{e:Int}(h:dg l e=0):l=[]/\e=0:=by grind[dg,aax]
abbrev aK (l:List UInt8):PV:=cn 1 (l.map byteP)
abbrev cw (l:List UInt8)(e:Int):Blk:=.box 188 [.per (aK l),iC .i64 e]
abbrev mQ:Cnt:=.ptr 1000 0 0
theorem Ei (l:List UInt8)(e:Int):bZ prog 197 [mQ] [(1000,cw l e)] (iC .i64 e) [(1000,cw l e)]:=by
 refine cp func197 ntmps197 ?_
 (refine w0 ?_;refine ah λhc=>?_)
 refine kC ?_
 exact bh rfl rfl
theorem Xo (l:List UInt8)(e:Int):bZ prog 198 [mQ] [(1000,cw l e)] (iC .i64 (l.length:Int)) [(1000,cw l e)]:=by
 refine cp func198 ntmps198 ?_
 (refine w0 ?_;refine ah λhc=>?_)
 refine kC ?_
 exact bh rfl aA
theorem BU (l:List UInt8)(e x:Int):bZ prog 248 [mQ,iC .i64 x] [(1000,cw l e)] .any [(1000,cw l (G5 x l e).2)]:=by
 unfold G5
 by_cases h0:e=0
 ·subst h0
  refine cp func248 ntmps248 ?_
  (refine w0 ?_;refine ah λhc=>?_)
  exact kJ
 ·rw[aab h0]
  refine cp func248 ntmps248 ?_
  (refine w0 ?_;refine ah λhc=>?_)
  exact kJ
def iL (l:List UInt8):Nat×Int:=if 8<=du l then(0,11)else if l.length<=du l then(0,10)else(du l+1,0)
theorem G8 (l:List UInt8)(e:Int):bZ prog 249 [mQ] [(1000,cw l e)] (.tup2 (iC .i64 ((iL l).1:Nat)) (iC .i64 (iL l).2)) [(1000,cw l e)]:=by
 have hll:=BR l
 refine cp func249 ntmps249 ?_
 (refine w0 ?_)
 refine aj (λk=>k<=du l/\k<=8) (λk=>aF [(0,mQ),(10,iC .i64 (if 8<l.length then 8 else l.length:Int)),(11,iC .i64 (k:Nat))] [(1000,cw l e)]) (λk=>8-k) 0 ⟨aag _,ae⟩ ?_
 rintro k ⟨hk,hk8⟩
 have hst:=qa l k
 (refine w0 ?_;repeat' first|apply aw|refine ah λhc=>?_)
 ·have hkl:k<l.length:=ae
  have h1:=(hst hkl hk).2 ae
  refine Tf ?_ ?_
  ·exact bh rfl (by grind[iL])
  ·exact bh rfl (by grind[iL])
 ·have hkl:k<l.length:=ae
  have h1:=(hst hkl hk).1 ae
  refine⟨k+1,⟨ae,ae⟩,ae,?_⟩
  exact ab
 ·refine Tf ?_ ?_
  ·exact bh rfl (by grind[iL])
  ·exact bh rfl (by grind[iL])
 ·refine Tf ?_ ?_
  ·exact bh rfl (by grind[iL])
  ·exact bh rfl (by grind[iL])
theorem wY (l:List UInt8)(k:Nat)(h:k<l.length):ep (l.drop k)=l[k].toNat % 128+128*ep (l.drop (k+1)):=by rw[List.drop_eq_getElem_cons h];rfl
theorem O8 (l:List UInt8)(e:Int):bZ prog 196 [mQ] [(1000,cw l e)] (iC .i64 (bI l e).1) [(1000,cw (bI l e).2.1 (bI l e).2.2)]:=by
 have hll:=BR l
 by_cases he:e=0
 ·subst he
  by_cases hs:(iL l).2=0
  ·have hz:du l<8/\du l<l.length/\iL l=(du l+1,0):=by grind[iL]
   obtain⟨z1,z2,z3⟩:=hz
   have hns:=G8 l 0
   rw[z3]at hns
   have hb:bI l 0=if lS l then(0,l,11)else(((ep (l.take (du l+1)):Nat):Int),l.drop (du l+1),0):=by grind[bI,bj]
   rw[hb]
   clear hb z3 hs
   have h128:∀k,k<=du l+1->ep ((l.take (du l+1)).drop k)<=72057594037927935:=by
    intro k hk
    have h1:=Eh ((l.take (du l+1)).drop k)
    have h2:(128:Nat) ^ ((l.take (du l+1)).drop k).length<=128 ^ 8:=Nat.pow_le_pow_right bP bD
    grind
   have hbad:lS l↔((du l+1>1/\l[du l].toNat=0)\/ep (l.take (du l+1))>281474976710656):=by
    unfold lS
    have h0:l[du l]?=some 0↔l[du l].toNat=0:=by rw[aaa z2,Option.some.injEq,<-abg];rfl
    rw[h0]
    grind
   refine cp func196 ntmps196 ?_
   (refine fG (Ei l 0) hns ?_;repeat' first|apply aw|refine ah λhc=>?_)
   refine ci (λj=>j<=du l+1) (λj=>aF [(0,mQ),(3,iC .i64 ((du l+1:Nat):Int)),(5,iC .i64 (ep ((l.take (du l+1)).drop j):Nat)),(6,iC .i64 ((j:Int)-1))] [(1000,cw l 0)]) (λj=>j) (du l+1) (aaf _) ?_ ?_
   ·have h0:(l.take (du l+1)).drop (du l+1)=[]:=aA
    rw[h0]
    exact ab
   ·intro j hj
    cases j with
    | succ j=>
     have hv:=wY (l.take (du l+1)) j bD
     have hb1:=h128 j ae
     have hb2:=h128 (j+1) ae
     rw[List.getElem_take]at hv
     rw[show((j+1:Nat):Int)-1=(j:Int)by omega]
     (refine w0 ?_;refine ah λhc=>?_)
     refine⟨j,ae,ae,?_⟩
     exact ab
    | zero=>
     rw[abu]
     have hb1:=h128 0 ae
     rw[abu]at hb1
     have hnb:∀h:¬lS l,(if lS l then((0:Int),l,(11:Int))else(((ep (l.take (du l+1)):Nat):Int),l.drop (du l+1),0))=(((ep (l.take (du l+1)):Nat):Int),l.drop (du l+1),0):=λh=>aab h
     by_cases h1:du l+1>1
     ·(refine dK (BU l 0 11) ?_;repeat' first|apply aw|refine ah λhc=>?_)
      ·rw[aae (hbad.2 (.inl ⟨h1,ae⟩))]
       refine kC ?_
       exact bh rfl rfl
      ·rw[aae (hbad.2 (.inr ae))]
       refine kC ?_
       exact bh rfl rfl
      ·rw[hnb (λh=>by have:=hbad.1 h;omega)]
       refine kC ?_
       exact bh rfl rfl
     ·(refine dK (BU l 0 11) ?_;repeat' first|apply aw|refine ah λhc=>?_)
      ·rw[aae (hbad.2 (.inr ae))]
       refine kC ?_
       exact bh rfl rfl
      ·rw[hnb (λh=>by have:=hbad.1 h;omega)]
       refine kC ?_
       exact bh rfl rfl
  ·have hb:bI l 0=(0,l,(iL l).2):=by grind[bI,bj,iL]
   rw[hb]
   refine cp func196 ntmps196 ?_
   (refine fG (Ei l 0) (G8 l 0) ?_;repeat' first|apply aw|refine ah λhc=>?_|((first|apply aH rfl|apply aJ rfl);(focus (try apply ag rfl rfl rfl rfl rfl);exact ot (BU l 0 _));refine fG (Ei l 0) (G8 l 0) ?_))
   rw[show iL l=iL l from rfl]
   refine kC ?_
   exact bh rfl rfl
 ·have hb:bI l e=(0,l,e):=by grind[bI]
  rw[hb]
  refine cp func196 ntmps196 ?_
  (refine dK (Ei l e) ?_;refine ah λhc=>?_)
  refine kC ?_
  exact bh rfl rfl
section
variable (l:List UInt8) (e:Int)
theorem Uf:bZ prog 195 [mQ] [(1000,cw l e)] mQ [(1000,cw l e)]:=by
 refine cp func195 ntmps195 ?_
 (refine w0 ?_;refine ah λhc=>?_)
 refine kC ?_
 exact nd rfl rfl
theorem nW:bZ prog 113 [mQ] [(1000,cw l e)] (iC .i64 e) [(1000,cw l e)]:=by
 refine cp func113 ntmps113 ?_
 (refine fG (Uf l e) (Ei l e) ?_)
 refine kC ?_
 exact bh rfl rfl
theorem wZ:bZ prog 114 [mQ] [(1000,cw l e)] (iC .i64 (l.length:Int)) [(1000,cw l e)]:=by
 refine cp func114 ntmps114 ?_
 (refine fG (Uf l e) (Xo l e) ?_)
 refine kC ?_
 exact bh rfl rfl
theorem O9 (x:Int):bZ prog 194 [mQ,iC .i64 x] [(1000,cw l e)] .any [(1000,cw l (G5 x l e).2)]:=by
 refine cp func194 ntmps194 ?_
 (refine fG (Uf l e) (BU l e x) ?_)
 exact kJ
theorem iy:bZ prog 110 [mQ] [(1000,cw l e)] (iC .i64 (bI l e).1) [(1000,cw (bI l e).2.1 (bI l e).2.2)]:=by
 refine cp func110 ntmps110 ?_
 (refine fG (Uf l e) (O8 l e) ?_)
 refine kC ?_
 exact bh rfl rfl
theorem BV:bZ prog 193 [mQ] [(1000,cw l e)] (.per (aK l)) [(1000,cw l e)]:=by
 refine cp func193 ntmps193 ?_
 (refine w0 ?_;refine ah λhc=>?_)
 refine kC ?_
 exact bA rfl rfl
theorem dq (lo hi:Int):bZ prog 109 [mQ,iC .i64 lo,iC .i64 hi] [(1000,cw l e)] (iC .i64 (af lo hi l e).1) [(1000,cw (af lo hi l e).2.1 (af lo hi l e).2.2)]:=by
 have hN:=iy l e
 generalize hQ:af lo hi l e=Q at *
 unfold af at hQ
 generalize bI l e=q at *
 obtain⟨m,l',e'⟩:=q
 simp only at hN hQ
 refine cp func109 ntmps109 ?_
 (refine nU (BV l e) hN (nW l' e') (O9 l e' 11) ?_;repeat' first|apply aw|refine ah λhc=>?_)
 ·rw[aae ⟨by assumption,.inl (by assumption)⟩]at hQ
  subst hQ
  have h0:e'=0:=by assumption
  subst h0
  refine kC ?_
  exact bh rfl rfl
 ·rw[aae ⟨by assumption,.inr ae⟩]at hQ
  subst hQ
  have h0:e'=0:=by assumption
  subst h0
  refine kC ?_
  exact bh rfl rfl
 ·rw[aab ae]at hQ
  subst hQ
  refine kC ?_
  exact bh rfl rfl
 ·rw[aab ae]at hQ
  subst hQ
  refine kC ?_
  exact bh rfl rfl
theorem ug:bZ prog 111 [mQ] [(1000,cw l e)] (bC ((af 0 1 l e).1==1)) [(1000,cw (af 0 1 l e).2.1 (af 0 1 l e).2.2)]:=by
 refine cp func111 ntmps111 ?_
 (refine dK (dq l e 0 1) ?_)
 refine kC ?_
 exact cD rfl rfl
theorem Ad:bZ prog 52 [mQ] [(1000,cw l e)] (iC .i64 (dg l e)) [(1000,cw l e)]:=by
 unfold dg
 refine cp func52 ntmps52 ?_
 (refine fG (nW l e) (wZ l e) ?_;repeat' first|apply aw|refine ah λhc=>?_)
 all_goals (refine⟨(by first|exact .inl rfl|exact .inr rfl),dv [(1000,1000)] rfl rfl ?_ ?_⟩;(focus (repeat (first|exact bG.nil|(refine bG.cons rfl ?_ ?_;(focus first|rfl|skip))))))
 ·exact bh rfl (by rw[aae ae])
 ·exact bh rfl (by rw[aab ae])
 ·exact bh rfl (by rw[aab ae])
theorem sj (most:Int)(h0:(af 0 most l e).2.2=0):0<=(af 0 most l e).1/\(af 0 most l e).1<=most:=by grind[af]
theorem nA (most:Int):bZ prog 187 [mQ,iC .i64 most] [(1000,cw l e)] (sC ⟨(bm most l e).1.toArray⟩) [(1000,cw (bm most l e).2.1 (bm most l e).2.2)]:=by
 have hN:=dq l e 0 most
 have hrg:=sj l e most
 generalize hQ:bm most l e=Q at *
 unfold bm at hQ
 generalize af 0 most l e=q at *
 obtain⟨m,l',e'⟩:=q
 simp only at hN hQ hrg
 by_cases h0:e'=0
 ·subst h0
  obtain⟨h1,h2⟩:=hrg rfl
  rw[aab aA]at hQ
  by_cases h3:(l'.length:Int)<m
  ·rw[aae h3]at hQ
   subst hQ
   refine cp func187 ntmps187 ?_
   (refine YY (BV l e) hN (nW l' 0) (wZ l' 0) (O9 l 0 10) ?_;repeat' first|apply aw|refine ah λhc=>?_)
   refine kC ?_
   exact pR rfl rfl
  ·rw[aab h3]at hQ
   subst hQ
   obtain⟨k,rfl⟩:=Int.eq_ofNat_of_zero_le h1
   have hk:k<=l'.length:=ae
   refine cp func187 ntmps187 ?_
   (refine nU (BV l e) hN (nW l' 0) (wZ l' 0) ?_;repeat' first|apply aw|refine ah λhc=>?_)
   refine kC ?_
   ·exact pR rfl rfl
 ·rw[aae h0]at hQ
  subst hQ
  refine cp func187 ntmps187 ?_
  (refine dQ (BV l e) hN (nW l' e') ?_;refine ah λhc=>?_)
  refine kC ?_
  exact pR rfl rfl
theorem mR (hl:l.length<=1000000000):bZ prog 50 [dw l] [] (.ptr 3000 0 0) [(3000,cw l 0)]:=by
 refine cp func50 ntmps50 ?_
 (refine w0 ?_)
 refine⟨.inl rfl,pW (iW 3 _ 5 1 rfl rfl) ?_⟩
 refine dv [(8,3000)] rfl rfl ?_ (nd rfl rfl)
 (repeat (first|exact bG.nil|(refine bG.cons rfl ?_ ?_;(focus first|rfl|skip))))
end
theorem cQ (l:List UInt8)(e:Int):(bI l e).2.1 <:+ l:=by grind[bI,List.drop_suffix]
theorem aC (lo hi:Int)(l:List UInt8)(e:Int):(af lo hi l e).2.1 <:+ l:=by grind[af,cQ]
theorem bL (most:Int)(l:List UInt8)(e:Int):(bm most l e).2.1 <:+ l:=by grind[bm,aC,List.drop_suffix]
theorem pa {b l:List UInt8}(h:l <:+ b):b.drop (b.length-l.length)=l/\l.length<=b.length:=by
 obtain⟨t,rfl⟩:=h
 simp
abbrev d0 (b l:List UInt8)(e:Int):Blk:=.box 145 [.per (aK b),iC .i64 ((b.length-l.length:Nat):Int),iC .i64 e]
theorem uh (l:List UInt8):(bj l).1<=281474976710656/\(bj l).2.1<=l.length/\(bj l).2.1<=8/\((bj l).2.2≠0->(bj l).1=0/\(bj l).2.1=0):=by grind[bj,lS]
theorem Pa (n:Int):Fn prog 240 [iC .i64 n] (dE (decide (0<=n/\n<=281474976710656))):=by
 refine fi func240 ntmps240 ?_
 (refine w0 ?_;repeat' first|apply aw|refine ah λhc=>?_)
 all_goals refine dr ?_
 ·exact aP rfl bD
 ·exact aP rfl bD
theorem Pb (b:List UInt8):Fn prog 170 [dw b] (.tup3 (.per (ai (.int .i64 ((bj b).1:Nat)))) (.per (ai (.int .i64 ((bj b).2.1:Nat)))) (.per (ai (.int .i64 (bj b).2.2)))):=by
 have hll:=BR b
 generalize hQ:bj b=Q at *
 refine fi func170 ntmps170 ?_
 (refine w0 ?_)
 refine aj (λk=>k<=du b/\k<=8) (λk=>aF [(0,dw b),(5,iC .i64 (k:Nat))] []) (λk=>8-k) 0 ⟨aag _,ae⟩ ?_
 rintro k ⟨hk,hk8⟩
 have hst:=qa b k
 by_cases hkl:k<b.length
 ·have h1:=hst hkl hk
  by_cases hk7:k<8
  ·by_cases hbig:128<=b[k].toNat
   ·have h2:=h1.1 hbig
    (refine w0 ?_;repeat' first|apply aw|refine ah λhc=>?_)
    refine⟨k+1,⟨ae,ae⟩,ae,?_⟩
    exact ab
   ·have h2:=h1.2 ae
    clear h1 hst
    have h128:∀k,k<=du b+1->ep ((b.take (du b+1)).drop k)<=72057594037927935:=by
     intro k hk
     have h1:=Eh ((b.take (du b+1)).drop k)
     have h2:(128:Nat) ^ ((b.take (du b+1)).drop k).length<=128 ^ 8:=Nat.pow_le_pow_right bP bD
     grind
    have hbad:lS b↔((k>0/\b[k].toNat=0)\/ep (b.take (k+1))>281474976710656):=by
     unfold lS
     have h0:b[du b]?=some 0↔b[k].toNat=0:=by rw[h2,aaa hkl,Option.some.injEq,<-abg];rfl
     rw[h0,h2]
    rw[h2]at h128
    have hQ2:Q=if lS b then(0,0,11)else(ep (b.take (k+1)),k+1,0):=by
     rw[<-hQ]
     grind[bj]
    clear hQ
    (refine w0 ?_;repeat' first|apply aw|refine ah λhc=>?_)
    refine ci (λj=>j<=k+1) (λj=>aF [(0,dw b),(5,iC .i64 (k:Nat)),(6,iC .i64 (ep ((b.take (k+1)).drop j):Nat)),(7,iC .i64 ((j:Int)-1))] []) (λj=>j) (k+1) (aaf _) ?_ ?_
    ·have h0:(b.take (k+1)).drop (k+1)=[]:=aA
     rw[h0]
     exact ab
    ·intro j hj
     cases j with
     | succ j=>
      have hv:=wY (b.take (k+1)) j bD
      have hb1:=h128 j ae
      have hb2:=h128 (j+1) ae
      rw[List.getElem_take]at hv
      rw[show((j+1:Nat):Int)-1=(j:Int)by omega]
      (refine w0 ?_;refine ah λhc=>?_)
      refine⟨j,ae,ae,?_⟩
      exact ab
     | zero=>
      rw[abu]
      have hb1:=h128 0 ae
      rw[abu]at hb1
      (refine w0 ?_;repeat' first|apply aw|refine ah λhc=>?_|((first|apply aH rfl|apply aJ rfl);(focus (try apply ag rfl rfl rfl rfl rfl);exact nS (Pa _));refine w0 ?_))
      ·rw[aae (hbad.2 (.inl ⟨ae,ae⟩))]at hQ2
       subst hQ2
       refine⟨.inl rfl,mg rfl (aq rfl rfl) (aq rfl rfl) (aq rfl rfl)⟩
      ·rw[aae (hbad.2 (.inr ae))]at hQ2
       subst hQ2
       refine⟨.inl rfl,mg rfl (aq rfl rfl) (aq rfl rfl) (aq rfl rfl)⟩
      ·rw[aab (λh=>by have:=hbad.1 h;omega)]at hQ2
       subst hQ2
       refine⟨.inl rfl,mg rfl (aq rfl rfl) (aq rfl rfl) (aq rfl rfl)⟩
      ·rw[aae (hbad.2 (.inr ae))]at hQ2
       subst hQ2
       refine⟨.inl rfl,mg rfl (aq rfl rfl) (aq rfl rfl) (aq rfl rfl)⟩
      ·rw[aab (λh=>by have:=hbad.1 h;omega)]at hQ2
       subst hQ2
       refine⟨.inl rfl,mg rfl (aq rfl rfl) (aq rfl rfl) (aq rfl rfl)⟩
  ·have hQ2:Q=(0,0,11):=by rw[<-hQ];grind[bj]
   subst hQ2
   (refine w0 ?_;repeat' first|apply aw|refine ah λhc=>?_)
   refine⟨.inl rfl,mg rfl (aq rfl rfl) (aq rfl rfl) (aq rfl rfl)⟩
 ·by_cases h8:k=8
  ·have hQ2:Q=(0,0,11):=by rw[<-hQ];grind[bj]
   subst hQ2
   (refine w0 ?_;repeat' first|apply aw|refine ah λhc=>?_)
   refine⟨.inl rfl,mg rfl (aq rfl rfl) (aq rfl rfl) (aq rfl rfl)⟩
  ·have hQ2:Q=(0,0,10):=by rw[<-hQ];grind[bj]
   subst hQ2
   (refine w0 ?_;repeat' first|apply aw|refine ah λhc=>?_)
   refine⟨.inl rfl,mg rfl (aq rfl rfl) (aq rfl rfl) (aq rfl rfl)⟩
theorem adv {b l l':List UInt8}(h:l <:+ b){k:Nat}(hk:k<=l.length)(h':l'=l.drop k):b.length-l.length+k=b.length-l'.length:=by
 have:=(pa h).2
 rw[h',abe];omega
theorem w4 {lo hi:Int}{l:List UInt8}{e:Int}(h:e≠0):af lo hi l e=(0,l,e):=by grind[af,bI]
theorem w6 (lo hi:Int)(l:List UInt8):af lo hi l 0=if(bj l).2.2≠0 then(0,l,(bj l).2.2)else if((bj l).1:Int)<lo\/hi<((bj l).1:Int)then(0,l,11)else(((bj l).1:Int),l.drop (bj l).2.1,0):=by grind[af,bI]
section
variable (b l:List UInt8) (e:Int) (hs:l <:+ b) (hb:b.length<=1000000000000)
include hs hb
theorem bu (lo hi:Int):bZ prog 85 [mQ,iC .i64 lo,iC .i64 hi] [(1000,d0 b l e)] (iC .i64 (af lo hi l e).1) [(1000,d0 b (af lo hi l e).2.1 (af lo hi l e).2.2)]:=by
 obtain⟨hd,hlen⟩:=pa hs
 have hn:=Pb (b.drop (b.length-l.length))
 rw[show bj (b.drop (b.length-l.length))=bj l by rw[hd]]at hn
 obtain⟨r1,r2,r3,r4⟩:=uh l
 by_cases h0:e=0
 ·subst h0
  rw[w6]
  have ha:=adv hs r2 rfl
  generalize bj l=q at *
  obtain⟨m,k,e'⟩:=q
  simp only at hn r1 r2 r3 r4 ha ⊢
  by_cases h1:e'=0
  ·subst h1
   rw[aab aA]
   by_cases h2:(m:Int)<lo\/hi<(m:Int)
   ·rw[aae h2]
    refine cp func85 ntmps85 ?_
    (refine au hn ?_;repeat' first|apply aw|refine ah λhc=>?_)
    all_goals refine kC ?_
    all_goals exact bh rfl rfl
   ·rw[aab h2]
    refine cp func85 ntmps85 ?_
    (refine au hn ?_;repeat' first|apply aw|refine ah λhc=>?_)
    rw[show((b.length-l.length:Nat):Int)+(k:Int)=((b.length-(l.drop k).length:Nat):Int)by omega]
    refine kC ?_
    exact bh rfl rfl
  ·rw[aae h1]
   obtain⟨rfl,rfl⟩:=r4 h1
   refine cp func85 ntmps85 ?_
   (refine au hn ?_;repeat' first|apply aw|refine ah λhc=>?_)
   refine kC ?_
   exact bh rfl rfl
 ·rw[w4 h0]
  refine cp func85 ntmps85 ?_
  (refine w0 ?_;refine ah λhc=>?_)
  refine kC ?_
  exact bh rfl rfl
omit hb in
theorem lj:bZ prog 88 [mQ] [(1000,d0 b l e)] (iC .i64 (dg l e)) [(1000,d0 b l e)]:=by
 obtain⟨hd,hlen⟩:=pa hs
 unfold dg
 refine cp func88 ntmps88 ?_
 (refine w0 ?_;repeat' first|apply aw|refine ah λhc=>?_)
 all_goals (refine⟨(by first|exact .inl rfl|exact .inr rfl),dv [(1000,1000)] rfl rfl ?_ ?_⟩;(focus (repeat (first|exact bG.nil|(refine bG.cons rfl ?_ ?_;(focus first|rfl|skip))))))
 ·exact bh rfl (by rw[aae ae])
 ·exact bh rfl (by rw[aab ae])
 ·exact bh rfl (by rw[aab ae])
theorem gK (most:Int):bZ prog 87 [mQ,iC .i64 most] [(1000,d0 b l e)] (sC ⟨(bm most l e).1.toArray⟩) [(1000,d0 b (bm most l e).2.1 (bm most l e).2.2)]:=by
 obtain⟨hd,hlen⟩:=pa hs
 have hW:=bu b l e hs hb 0 most
 have hrg:=sj l e most
 have hsuf:=(aC 0 most l e).trans hs
 generalize hQ:bm most l e=Q at *
 unfold bm at hQ
 generalize af 0 most l e=q at *
 obtain⟨m,l',e'⟩:=q
 simp only at hW hQ hrg hsuf
 obtain⟨hd',hlen'⟩:=pa hsuf
 by_cases h0:e'=0
 ·subst h0
  obtain⟨h1,h2⟩:=hrg rfl
  rw[aab aA]at hQ
  by_cases h3:(l'.length:Int)<m
  ·rw[aae h3]at hQ
   subst hQ
   refine cp func87 ntmps87 ?_
   (refine dK hW ?_;repeat' first|apply aw|refine ah λhc=>?_)
   refine kC ?_
   exact pR rfl rfl
  ·rw[aab h3]at hQ
   subst hQ
   obtain⟨k,rfl⟩:=Int.eq_ofNat_of_zero_le h1
   have hk:k<=l'.length:=ae
   refine cp func87 ntmps87 ?_
   (refine dK hW ?_;repeat' first|apply aw|refine ah λhc=>?_)
   rw[show((b.length-l'.length:Nat):Int)+(k:Int)=((b.length-(l'.drop k).length:Nat):Int)by rw[abe];omega,show b.length-l'.length+k-(b.length-l'.length)=k by omega,hd']
   refine kC ?_
   exact pR rfl rfl
 ·rw[aae h0]at hQ
  subst hQ
  refine cp func87 ntmps87 ?_
  (refine dK hW ?_;refine ah λhc=>?_)
  refine kC ?_
  exact pR rfl rfl
end
def fh (k:ByteArray)(l:List UInt8)(e:Int):It×List UInt8×Int:=
 let a:=af 1 16 l e
 let b:=af 1 1099511627776 a.2.1 a.2.2
 let c:=af 1 1099511627776 b.2.1 b.2.2
 let d:=af 0 255 c.2.1 c.2.2
 let f:=af 0 1 d.2.1 d.2.2
 let g:=bm 64 f.2.1 f.2.2
 (⟨k,a.1,b.1,c.1,d.1,f.1==1,⟨g.1.toArray⟩⟩,g.2.1,g.2.2)
theorem Ug (k:ByteArray)(l:List UInt8)(e:Int):bZ prog 202 [.aggK mQ .aggN,sC k] [(1000,cw l e)] (vq (fh k l e).1) [(1000,cw (fh k l e).2.1 (fh k l e).2.2)]:=by
 dsimp only [fh]
 have h1:=dq l e 1 16
 generalize af 1 16 l e=a at *
 have h2:=dq a.2.1 a.2.2 1 1099511627776
 generalize af 1 1099511627776 a.2.1 a.2.2=b at *
 have h3:=dq b.2.1 b.2.2 1 1099511627776
 generalize af 1 1099511627776 b.2.1 b.2.2=c at *
 have h4:=dq c.2.1 c.2.2 0 255
 generalize af 0 255 c.2.1 c.2.2=d at *
 have h5:=ug d.2.1 d.2.2
 generalize af 0 1 d.2.1 d.2.2=f at *
 have h6:=nA f.2.1 f.2.2 64
 generalize bm 64 f.2.1 f.2.2=g at *
 refine cp func202 ntmps202 ?_
 (refine Wl h1 h2 h3 h4 h5 h6 ?_)
 refine kC ?_
 exact C0
theorem w7 (k:ByteArray)(l:List UInt8)(e:Int):(fh k l e).2.1 <:+ l:=by grind[fh,bL,aC]
theorem Pd (k:ByteArray)(b l:List UInt8)(e:Int)(hs:l <:+ b)(hb:b.length<=1000000000000):bZ prog 241 [mQ,sC k] [(1000,d0 b l e)] (vq (fh k l e).1) [(1000,d0 b (fh k l e).2.1 (fh k l e).2.2)]:=by
 dsimp only [fh]
 have h1:=bu b l e hs hb 1 16
 replace hs:=(aC 1 16 l e).trans hs
 generalize af 1 16 l e=a at *
 have h2:=bu b a.2.1 a.2.2 hs hb 1 1099511627776
 replace hs:=(aC 1 1099511627776 a.2.1 a.2.2).trans hs
 generalize af 1 1099511627776 a.2.1 a.2.2=b2 at *
 have h3:=bu b b2.2.1 b2.2.2 hs hb 1 1099511627776
 replace hs:=(aC 1 1099511627776 b2.2.1 b2.2.2).trans hs
 generalize af 1 1099511627776 b2.2.1 b2.2.2=c at *
 have h4:=bu b c.2.1 c.2.2 hs hb 0 255
 replace hs:=(aC 0 255 c.2.1 c.2.2).trans hs
 generalize af 0 255 c.2.1 c.2.2=d at *
 have h5:=bu b d.2.1 d.2.2 hs hb 0 1
 replace hs:=(aC 0 1 d.2.1 d.2.2).trans hs
 generalize af 0 1 d.2.1 d.2.2=f at *
 have h6:=gK b f.2.1 f.2.2 hs hb 64
 generalize bm 64 f.2.1 f.2.2=g at *
 refine cp func241 ntmps241 ?_
 (refine Wl h1 h2 h3 h4 h5 h6 ?_)
 refine kC ?_
 exact C0
theorem Pe {x:It}(h:dA x=true)(r:List UInt8):fh x.key (jk x++r) 0=(x,r,0):=by
 obtain⟨h1,h2,_,_⟩:=fQ h
 simp only[dA,mj,gc,aaC,aaI]at h
 obtain⟨⟨_,h3⟩,h4⟩:=h
 simp only[fP,aaU,abr,or_false,forall_eq_or_imp,forall_eq]at h1
 obtain⟨a1,a2,a3,a4,a5⟩:=h1
 have e:jk x++r=aO x.rep++(aO x.cnt++(aO x.rank++(aO x.prio++(aO (if x.dead then 1 else 0)++(bi x.body++r))))):=by simp[jk,fP]
 rw[e]
 dsimp only [fh]
 rw[cv a1 ae ae]
 dsimp only
 rw[cv a2 ae ae]
 dsimp only
 rw[cv a3 ae ae]
 dsimp only
 rw[cv a4 ae ae]
 dsimp only
 rw[cv a5 (by split<;>omega) (by split<;>omega)]
 dsimp only
 rw[sh ae ae,G7]
 obtain⟨k,a,b,c,d,f,g⟩:=x
 cases f<;>rfl
theorem Li {k:ByteArray}{l:List UInt8}{e:Int}(h:(fh k l e).2.2=0):e=0/\l=jk (fh k l e).1++(fh k l e).2.1/\(fh k l e).1.key=k:=by
 dsimp only [fh]at h ⊢
 obtain⟨g1,_,g2⟩:=kU h
 obtain⟨f1,f2,f3,f4,f5⟩:=bN g1
 obtain⟨d1,_,_,_,d5⟩:=bN f1
 obtain⟨c1,_,_,_,c5⟩:=bN d1
 obtain⟨b1,_,_,_,b5⟩:=bN c1
 obtain⟨a1,_,_,_,a5⟩:=bN b1
 refine⟨a1,?_,rfl⟩
 generalize bm 64 _ _=g at *
 generalize af 0 1 _ _=f at *
 generalize af 0 255 _ _=d at *
 generalize af 1 1099511627776 _ _=c at *
 generalize af 1 1099511627776 _ _=b at *
 generalize af 1 16 _ _=a at *
 have hf:(if(f.1==1)=true then(1:Int)else 0)=f.1:=by
  by_cases h:f.1=1
  ·simp[h]
  ·simp[h];omega
 simp only[jk,fP,List.flatMap_cons,aaZ,aan,hf,aal]
 rw[<-g2,<-f5,<-d5,<-c5,<-b5]
 exact a5
theorem dh {most:Int}(h:0<=most)(l:List UInt8)(e:Int):0<=(af 0 most l e).1/\(af 0 most l e).1<=most:=by
 by_cases he:e=0
 all_goals grind[w6,w4]
theorem qX (l:List UInt8)(e:Int):(bm 16 l e).1.length<=16:=by
 unfold bm
 have:=dh (most:=16) ae l e
 grind
def kh (was:ByteArray)(l:List UInt8)(e:Int):Int×ByteArray×List UInt8×Int:=
 let s:=af 0 was.size l e
 let t:=bm 16 s.2.1 s.2.2
 (s.1,was.extract 0 s.1.toNat++⟨t.1.toArray⟩,t.2.1,t.2.2)
def io:Nat->ByteArray->Bool->List It->List UInt8->Int->List It×Bool×List UInt8×Int
 | 0,_,f,acc,l,e=>(acc,f,l,e)
 | n+1,was,f,acc,l,e=>
  if e≠0 then(acc,f,l,e)else
   let q:=kh was l e
   let x:=fh q.2.1 q.2.2.1 q.2.2.2
   io n q.2.1 (f&&dA x.1&&((cT was q.2.1:Int)==q.1)) (acc++[x.1]) x.2.1 x.2.2
def w8 (l:List UInt8)(e:Int):List It×Bool×List UInt8×Int:=
 let s:=af 0 4096 l e
 io s.1.toNat s0 true [] s.2.1 s.2.2
def vt (r:List It×Bool×List UInt8×Int):List It×Int:=
 if dg r.2.2.1 r.2.2.2≠0 then([],dg r.2.2.1 r.2.2.2)else if r.2.1=false then([],11)else(r.1,0)
def dF (b:List UInt8):List It×Int:=vt (w8 b 0)
theorem qY (was:ByteArray)(l:List UInt8)(e:Int):(kh was l e).2.1.size<=was.size+16/\0<=(kh was l e).1/\(kh was l e).1<=was.size:=by
 dsimp only [kh]
 have h1:=dh (most:=(was.size:Int)) ae l e
 have h2:=qX (af 0 was.size l e).2.1 (af 0 was.size l e).2.2
 refine⟨?_,h1⟩
 rw[ByteArray.size_append,ByteArray.size_extract]
 show _+(bm 16 _ _).1.toArray.size<=_
 rw[aaV]
 omega
theorem vu (b:List UInt8)(hb:b.length<=1000000000):Fn prog 117 [dw b] (.tup2 (.own 79 7 ((dF b).1.map itP)) (eA (dF b).2)):=by
 generalize hQ:dF b=Q at *
 dsimp only [dF,w8]at hQ
 have h1:=dq b 0 0 4096
 have hn:=dh (most:=4096) ae b 0
 generalize af 0 4096 b 0=s at *
 obtain⟨n,l0,e0⟩:=s
 simp only at h1 hn hQ
 obtain⟨hn0,hn1⟩:=hn
 obtain⟨n,rfl⟩:=Int.eq_ofNat_of_zero_le hn0
 rw[Int.toNat_natCast]at hQ
 generalize hR:io n s0 true [] l0 e0=R at *
 refine fi func117 ntmps117 ?_
 (refine DZ h1 (mR b hb) ?_)
 refine bw (bS 6 600 79 7 rfl rfl) ?_
 refine aj (X:=Nat×ByteArray×Bool×List It×List UInt8×Int) (λx=>x.1<=n/\x.2.1.size<=16*x.1/\x.2.2.2.1.length<=x.1/\io (n-x.1) x.2.1 x.2.2.1 x.2.2.2.1 x.2.2.2.2.1 x.2.2.2.2.2=R)
  (λx=>aF [(4,.ptr 4 0 0),(5,iC .i64 (n:Nat)),(6,.row 600 0),(7,sC x.2.1),(8,bC x.2.2.1),(9,iC .i64 (x.1:Nat))] [(4,.box 273 [.ptr 15 0 0]),(15,cw x.2.2.2.2.1 x.2.2.2.2.2),(600,.row 79 7 (x.2.2.2.1.map itP))]) (λx=>n-x.1) (0,s0,true,[],l0,e0) ⟨aag _,(by decide:s0.size<=0),aaf _,hR⟩ ?_
 rintro⟨i,was,f,acc,l,e⟩ ⟨hi,hws,hacc,hR⟩
 simp only at hi hws hacc hR ⊢
 have hE:=nW l e
 have hD:=Ad l e
 by_cases hlt:i<n
 ·by_cases he:e=0
  ·subst he
   obtain⟨m,hm⟩:∃m,n-i=m+1:=⟨n-i-1,ae⟩
   rw[hm,io,aab aA]at hR
   dsimp only at hR
   have hks:=qY was l 0
   have h2:=dq l 0 0 (was.size:Int)
   have h3:=nA (af 0 was.size l 0).2.1 (af 0 was.size l 0).2.2 16
   have h23:kh was l 0=((af 0 was.size l 0).1,was.extract 0 (af 0 was.size l 0).1.toNat++⟨(bm 16 (af 0 was.size l 0).2.1 (af 0 was.size l 0).2.2).1.toArray⟩,(bm 16 (af 0 was.size l 0).2.1 (af 0 was.size l 0).2.2).2.1,(bm 16 (af 0 was.size l 0).2.1 (af 0 was.size l 0).2.2).2.2):=rfl
   have hx:=qX (af 0 was.size l 0).2.1 (af 0 was.size l 0).2.2
   rw[h23]at hR hks
   clear h23
   generalize af 0 was.size l 0=s at *
   generalize bm 16 s.2.1 s.2.2=t at *
   obtain⟨sm,l1,e1⟩:=s
   obtain⟨tx,l2,e2⟩:=t
   simp only at hR hks h2 h3 hx
   obtain⟨hk1,hk2,hk3⟩:=hks
   obtain⟨sm,rfl⟩:=Int.eq_ofNat_of_zero_le hk2
   rw[Int.toNat_natCast]at hR hk1
   have htx:(⟨tx.toArray⟩:ByteArray).size<=16:=by show tx.toArray.size<=16;rw[aaV];exact hx
   have hes:(was.extract 0 sm).size<=was.size:=bD
   have h4:=Ug (was.extract 0 sm++⟨tx.toArray⟩) l2 e2
   have h6:=wT was (was.extract 0 sm++⟨tx.toArray⟩) ae
   have hal:=iv was (was.extract 0 sm++⟨tx.toArray⟩)
   have hcs:(was.extract 0 (cT was (was.extract 0 sm++⟨tx.toArray⟩))).size=cT was (was.extract 0 sm++⟨tx.toArray⟩):=bD
   generalize was.extract 0 (cT was (was.extract 0 sm++⟨tx.toArray⟩))=cm at *
   generalize fh (was.extract 0 sm++⟨tx.toArray⟩) l2 e2=x at *
   obtain⟨x,l3,e3⟩:=x
   simp only at hR h4
   have h5:=dL x
   (have kr1:=hE;have kr2:=h2;have kr3:=h3;have km1:=(show fK [(1000,15)] _ _ _ _ _ _ from h4);have kc1:=h5;have kc2:=h6;refine w0 ?_;(repeat' first|apply aw|refine ah λhc=>?_);all_goals clear kc2 kc1 km1 kr3 kr2 kr1)
   all_goals
    refine⟨(i+1,was.extract 0 sm++⟨tx.toArray⟩,f&&dA x&&((cT was (was.extract 0 sm++⟨tx.toArray⟩):Int)==sm),acc++[x],l3,e3),⟨aL,aL,bD,?_⟩,aL,?_⟩
   all_goals first|(simp only;rw[show n-(i+1)=m by omega];exact hR)|skip
   all_goals exact ab
  ·have hR2:R=(acc,f,l,e):=by
    rw[<-hR]
    cases n-i<;>grind[io]
   subst hR2
   (refine fG hE hD ?_;repeat' first|apply aw|refine ah λhc=>?_)
   ·rw[vt,aae (by assumption)]at hQ
    subst hQ
    exact dV (dG rfl) (aq rfl rfl)
   ·rw[vt,aab (by simp[*]),aae (by assumption)]at hQ
    subst hQ
    exact dV (dG rfl) (aq rfl rfl)
   ·rw[vt,aab (by simp[*]),aab (by simp[*])]at hQ
    subst hQ
    exact dV (f9 rfl rfl rfl) (aq rfl rfl)
 ·have hR2:R=(acc,f,l,e):=by rw[<-hR,show n-i=0 by omega];rfl
  subst hR2
  (refine fG hE hD ?_;repeat' first|apply aw|refine ah λhc=>?_)
  ·rw[vt,aae (by assumption)]at hQ
   subst hQ
   exact dV (dG rfl) (aq rfl rfl)
  ·rw[vt,aab (by simp[*]),aae (by assumption)]at hQ
   subst hQ
   exact dV (dG rfl) (aq rfl rfl)
  ·rw[vt,aab (by simp[*]),aab (by simp[*])]at hQ
   subst hQ
   exact dV (f9 rfl rfl rfl) (aq rfl rfl)
theorem Lj (n:Nat):∀(was:ByteArray)(f:Bool)(acc:List It)(l:List UInt8)(e:Int),(io n was f acc l e).2.2.1 <:+ l:=by
 induction n with
 | zero=>intro was f acc l e;exact aa5 l
 | succ n ih=>
  intro was f acc l e
  unfold io
  split
  ·exact aa5 l
  ·exact(ih _ _ _ _ _).trans ((w7 _ _ _).trans ((bL _ _ _).trans (aC _ _ _ _)))
theorem G9 (b l:List UInt8)(e:Int)(hs:l <:+ b)(hb:b.length<=1000000000000):bZ prog 171 [mQ] [(1000,d0 b l e)] (.tup2 (.row 3000 0) (bC (w8 l e).2.1)) [(1000,d0 b (w8 l e).2.2.1 (w8 l e).2.2.2),(3000,.row 79 7 ((w8 l e).1.map itP))]:=by
 dsimp only [w8]
 have h1:=bu b l e hs hb 0 4096
 have hn:=dh (most:=4096) ae l e
 replace hs:=(aC 0 4096 l e).trans hs
 generalize af 0 4096 l e=s at *
 obtain⟨n,l0,e0⟩:=s
 simp only at h1 hn hs ⊢
 obtain⟨hn0,hn1⟩:=hn
 obtain⟨n,rfl⟩:=Int.eq_ofNat_of_zero_le hn0
 rw[Int.toNat_natCast]
 generalize hR:io n s0 true [] l0 e0=R at *
 refine cp func171 ntmps171 ?_
 (refine dK h1 ?_)
 refine bw (bS 5 600 79 7 rfl rfl) ?_
 refine aj (X:=Nat×ByteArray×Bool×List It×List UInt8×Int) (λx=>x.1<=n/\x.2.1.size<=16*x.1/\x.2.2.2.1.length<=x.1/\x.2.2.2.2.1 <:+ b/\io (n-x.1) x.2.1 x.2.2.1 x.2.2.2.1 x.2.2.2.2.1 x.2.2.2.2.2=R)
  (λx=>aF [(0,mQ),(4,iC .i64 (n:Nat)),(5,.row 600 0),(6,sC x.2.1),(7,bC x.2.2.1),(8,iC .i64 (x.1:Nat))] [(1000,d0 b x.2.2.2.2.1 x.2.2.2.2.2),(600,.row 79 7 (x.2.2.2.1.map itP))]) (λx=>n-x.1) (0,s0,true,[],l0,e0) ⟨aag _,(by decide:s0.size<=0),aaf _,hs,hR⟩ ?_
 rintro⟨i,was,f,acc,l,e⟩ ⟨hi,hws,hacc,hs,hR⟩
 simp only at hi hws hacc hR hs ⊢
 by_cases hlt:i<n
 ·by_cases he:e=0
  ·subst he
   obtain⟨m,hm⟩:∃m,n-i=m+1:=⟨n-i-1,ae⟩
   rw[hm,io,aab aA]at hR
   dsimp only at hR
   have hks:=qY was l 0
   have h2:=bu b l 0 hs hb 0 (was.size:Int)
   replace hs:=(aC 0 was.size l 0).trans hs
   have h3:=gK b (af 0 was.size l 0).2.1 (af 0 was.size l 0).2.2 hs hb 16
   replace hs:=(bL 16 (af 0 was.size l 0).2.1 (af 0 was.size l 0).2.2).trans hs
   have h23:kh was l 0=((af 0 was.size l 0).1,was.extract 0 (af 0 was.size l 0).1.toNat++⟨(bm 16 (af 0 was.size l 0).2.1 (af 0 was.size l 0).2.2).1.toArray⟩,(bm 16 (af 0 was.size l 0).2.1 (af 0 was.size l 0).2.2).2.1,(bm 16 (af 0 was.size l 0).2.1 (af 0 was.size l 0).2.2).2.2):=rfl
   have hx:=qX (af 0 was.size l 0).2.1 (af 0 was.size l 0).2.2
   rw[h23]at hR hks
   clear h23
   generalize af 0 was.size l 0=s at *
   generalize bm 16 s.2.1 s.2.2=t at *
   obtain⟨sm,l1,e1⟩:=s
   obtain⟨tx,l2,e2⟩:=t
   simp only at hR hks h2 h3 hx hs
   obtain⟨hk1,hk2,hk3⟩:=hks
   obtain⟨sm,rfl⟩:=Int.eq_ofNat_of_zero_le hk2
   rw[Int.toNat_natCast]at hR hk1
   have htx:(⟨tx.toArray⟩:ByteArray).size<=16:=by show tx.toArray.size<=16;rw[aaV];exact hx
   have hes:(was.extract 0 sm).size<=was.size:=bD
   have h4:=Pd (was.extract 0 sm++⟨tx.toArray⟩) b l2 e2 hs hb
   replace hs:=(w7 (was.extract 0 sm++⟨tx.toArray⟩) l2 e2).trans hs
   have h6:=zZ was (was.extract 0 sm++⟨tx.toArray⟩) ae
   have hal:=iv was (was.extract 0 sm++⟨tx.toArray⟩)
   generalize fh (was.extract 0 sm++⟨tx.toArray⟩) l2 e2=x at *
   obtain⟨x,l3,e3⟩:=x
   simp only at hR h4 hs
   have h5:=fy x
   (refine OP h5 h6 h2 h3 h4 ?_;repeat' first|apply aw|refine ah λhc=>?_)
   all_goals
    refine⟨(i+1,was.extract 0 sm++⟨tx.toArray⟩,f&&dA x&&((cT was (was.extract 0 sm++⟨tx.toArray⟩):Int)==sm),acc++[x],l3,e3),⟨aL,aL,bD,hs,?_⟩,aL,?_⟩
   all_goals first|(simp only;rw[show n-(i+1)=m by omega];exact hR)|skip
   all_goals exact ab
  ·have hR2:R=(acc,f,l,e):=by
    rw[<-hR]
    cases n-i<;>grind[io]
   subst hR2
   (refine w0 ?_;repeat' first|apply aw|refine ah λhc=>?_)
   refine⟨.inl rfl,rX [(1000,1000),(600,3000)] rfl rfl ?_ (nd rfl rfl) (cD rfl rfl)⟩
   (repeat (first|exact bG.nil|(refine bG.cons rfl ?_ ?_;(focus first|rfl|skip))))
 ·have hR2:R=(acc,f,l,e):=by rw[<-hR,show n-i=0 by omega];rfl
  subst hR2
  (refine w0 ?_;repeat' first|apply aw|refine ah λhc=>?_)
  refine⟨.inl rfl,rX [(1000,1000),(600,3000)] rfl rfl ?_ (nd rfl rfl) (cD rfl rfl)⟩
  (repeat (first|exact bG.nil|(refine bG.cons rfl ?_ ?_;(focus first|rfl|skip))))
theorem zl (b:List UInt8)(hb:b.length<=1000000000):Fn prog 90 [.per (aK b)] (.tup2 (.own 79 7 ((dF b).1.map itP)) (eA (dF b).2)):=by
 have hs:b <:+ b:=aa5 b
 have hb':b.length<=1000000000000:=ae
 have h1:=G9 b b 0 hs hb'
 have hsuf:(w8 b 0).2.2.1 <:+ b:=(Lj _ _ _ _ _ _).trans (aC _ _ _ _)
 generalize hQ:dF b=Q at *
 unfold dF at hQ
 generalize w8 b 0=R at *
 obtain⟨acc,f,l,e⟩:=R
 simp only at hQ h1 hsuf
 have h3:=lj b l e hsuf
 have e0:((b.length-b.length:Nat):Int)=0:=ae
 unfold d0 at h1
 rw[e0]at h1
 refine fi func90 ntmps90 ?_
 (refine wM h3 (gn [(1000,9),(3000,700)] h1) ?_;repeat' first|apply aw|refine ah λhc=>?_)
 ·rw[vt,aae (by assumption)]at hQ
  subst hQ
  exact dV (dG rfl) (aq rfl rfl)
 ·rw[vt,aab (by simp[*]),aae (by assumption)]at hQ
  subst hQ
  exact dV (dG rfl) (aq rfl rfl)
 ·rw[vt,aab (by simp[*]),aab (by simp[*])]at hQ
  subst hQ
  exact dV (f9 rfl rfl rfl) (aq rfl rfl)
