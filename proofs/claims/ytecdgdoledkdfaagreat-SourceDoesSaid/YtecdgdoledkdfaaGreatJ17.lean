/- Lemmas, walks. -/
import Derived.Test.YtecdgdoledkdfaaGreatJ16
import Derived.ProofKit
import Derived.OpenShut
import Derived.ShutString
import Derived.ChangeOld
import Derived.Deep.Slices
set_option maxRecDepth 10000
set_option maxHeartbeats 8000000
namespace Go.Proofs.YtecdgdoledkdfaaGreat
open Go.RowKit Go.Proofs.Tryz
theorem LY (f:Int->Bool){E:List Int}{i:Nat}(h:i+1<E.length):kj f (E.drop i)=(if f E[i]then [⟨E[i],E[i+1]-1⟩]else [])++kj f (E.drop (i+1)):=by rw[List.drop_eq_getElem_cons (show i<E.length by omega),List.drop_eq_getElem_cons h,kj]
theorem QY (f:Int->Bool){E:List Int}{i:Nat}(h:¬i+1<E.length):kj f (E.drop i)=[]:=by
 by_cases c:i<E.length
 ·rw[List.drop_eq_getElem_cons c,aay ae];rfl
 ·rw[aay ae];rfl
def Zf (x y:Bool):Bool:=x||y
theorem Ij (a b:List Rn)(ha:a.length<=100000000)(hb:b.length<=100000000) :
 Fn prog 227 [iC .i64 1,ia a,ia b] (JT (UK (C2 Zf a b) a b)):=by
 have hE:=Ii a b ha hb
 have hup:P9 (gx (gx [] a) b):=vY _ _ (vY _ _ abD)
 have hrg:∀m∈gx (gx [] a) b,1<=m/\m<=1099511627777:=λm hm=>JU hm
 have hln:=sA b (gx [] a)
 have hln2:=sA a []
 simp only[List.length_nil,aaJ]at hln2
 have hbE:(gx (gx [] a) b).length<=400000000:=ae
 clear hln hln2
 unfold UK
 have hf:∀n,C2 Zf a b n=Zf (d8 a n) (d8 b n):=λ_=>rfl
 generalize C2 Zf a b=f at *
 generalize gx (gx [] a) b=E at *
 generalize hR:mr (kj f E)=R
 refine fi func227 ntmps227 ?_
 (refine au hE ?_)
 clear hE
 refine bw (bS 8 700 129 2 rfl rfl) ?_
 refine aj (X:=Nat×List Rn) (λx=>x.1<=E.length/\x.2.length<=x.1/\((x.2=[]/\mr (kj f (E.drop x.1))=R)\/∃o y,x.2=o++[y]/\jN y=true/\(∀h:x.1<E.length,y.to+1<=E[x.1])/\o++Gl y (kj f (E.drop x.1))=R))
  (λx=>aF [(0,iC .i64 1),(1,ia a),(2,ia b),(7,E4 E),(8,.row 700 0),(9,iC .i64 ((x.1:Nat):Int))] [(700,P7 x.2)]) (λx=>E.length-x.1) (0,[]) ⟨aag _,aaf _,.inl ⟨rfl,by simpa using hR⟩⟩ ?_
 rintro⟨i,out⟩ ⟨g1,g0,g2⟩
 simp only at g1 g0 g2 ⊢
 clear hR
 by_cases hk:i+1<E.length
 ·have hi:i<E.length:=ae
  have b1:=hrg _ (aar hi)
  have b2:=hrg _ (aar hk)
  have b3:=List.pairwise_iff_getElem.1 hup i (i+1) hi hk ae
  have hst:=LY f hk
  rw[hf]at hst
  have c1:=yg a E[i] ae
  have c2:=yg b E[i] ae
  clear hrg hup hf
  have hnr:jN ⟨E[i],E[i+1]-1⟩=true:=(cK _).2 aL
  have hnt:∀h:i+1<E.length,(⟨E[i],E[i+1]-1⟩:Rn).to+1<=E[i+1]:=λ_=>aL
  generalize kj f (E.drop i)=T0 at *
  generalize d8 a E[i]=x at *
  generalize d8 b E[i]=y at *
  obtain⟨K,hK⟩:∃K,K=Zf x y:=⟨_,rfl⟩
  rw[<-hK]at hst
  cases x<;>cases y<;>first
   | (have hK2:K=false:=hK
      subst hK2
      rw[aab Bool.false_ne_true,aaE]at hst
      subst hst
      have g2':(out=[]/\mr (kj f (E.drop (i+1)))=R)\/∃o y,out=o++[y]/\jN y=true/\(∀h:i+1<E.length,y.to+1<=E[i+1])/\o++Gl y (kj f (E.drop (i+1)))=R:=by
       rcases g2 with g2|⟨o,y,h1,h2,h3,h4⟩
       ·exact .inl g2
       ·exact .inr ⟨o,y,h1,h2,λh=>by have:=h3 hi;omega,h4⟩
      clear g2 hK
      (refine kS (show((i:Nat):Int)+1=((i+1:Nat):Int)by omega) c1 c2 ?_;repeat' first|apply aw|refine ah λhc=>?_)
      refine⟨(i+1,out),⟨aL,aL,g2'⟩,aL,?_⟩
      exact ab)
   | (have hK2:K=true:=hK
      subst hK2
      rw[aae rfl]at hst
      subst hst
      clear hK
      rcases g2 with⟨ho,hm⟩|⟨o,z,ho,hz,hb,hm⟩
      ·subst ho
       (refine kS (show((i:Nat):Int)+1=((i+1:Nat):Int)by omega) c1 c2 ?_;repeat' first|apply aw|refine ah λhc=>?_)
       refine⟨(i+1,[⟨E[i],E[i+1]-1⟩]),⟨aL,aA,.inr ⟨[],_,rfl,hnr,hnt,hm⟩⟩,aL,az (aU 700 701) (az (aU 701 700) ?_)⟩
       exact ab
      ·subst ho
       have hzi:=(cK z).1 hz
       have hbz:=hb hi
       rw[show([(⟨E[i],E[i+1]-1⟩:Rn)]++kj f (E.drop (i+1)))=(⟨E[i],E[i+1]-1⟩:Rn)::kj f (E.drop (i+1))from rfl,Gl]at hm
       simp only at hm
       have hL1:(o++[z]).length=o.length+1:=aA
       have hM:max z.to (E[i+1]-1)=E[i+1]-1:=ae
       have hmr:jN ⟨z.fr,E[i+1]-1⟩=true:=(cK _).2 aL
       rw[hM]at hm
       generalize hL:o++[z]=L at *
       have hLi:((L.length:Int)-1).toNat=o.length:=ae
       have HY:(L.map rnP)[((L.length:Int)-1).toNat]?=some (rnP z):=by
        rw[List.getElem?_map,hLi,<-hL]
        simp
       have HS1:(L.map rnP).set ((L.length:Int)-1).toNat (cN (rnP z) 1 [ai (.int .i64 (E[i+1]-1))])=(o++[(⟨z.fr,E[i+1]-1⟩:Rn)]).map rnP:=by rw[show(L.map rnP).set ((L.length:Int)-1).toNat (cN (rnP z) 1 [ai (.int .i64 (E[i+1]-1))])=(L.set ((L.length:Int)-1).toNat ⟨z.fr,E[i+1]-1⟩).map rnP from iB rnP L _ (⟨z.fr,E[i+1]-1⟩:Rn),<-hL,jZ o z _ [] _ (by rw[hL];omega)]
       have hML:(o++[(⟨z.fr,E[i+1]-1⟩:Rn)]).length=L.length:=by rw[<-hL];simp
       by_cases c:z.to=E[i]-1
       ·rw[aae ae]at hm
        (refine kS (show((i:Nat):Int)+1=((i+1:Nat):Int)by omega) c1 c2 ?_;repeat' first|apply aw|refine ah λhc=>?_|((first|apply aH rfl|apply cB rfl|apply aJ rfl|apply cC rfl);(focus (try apply ag rfl rfl rfl rfl rfl);first|((apply bn 5;(focus rfl);exact bV ⟨rfl,rfl,rfl⟩ rfl aS rfl rfl rfl HY rfl))|((apply bn 6;(focus rfl);exact aW ⟨rfl,rfl⟩ rfl aS rfl rfl rfl rfl HY rfl (bd rfl rfl rfl) rfl HS1)));refine kS (show((i:Nat):Int)+1=((i+1:Nat):Int)by omega) c1 c2 ?_))
        refine⟨(i+1,_),⟨aL,aL,.inr ⟨o,_,rfl,hmr,λ_=>aL,hm⟩⟩,aL,?_⟩
        exact ab
       ·rw[aab ae]at hm
        (refine kS (show((i:Nat):Int)+1=((i+1:Nat):Int)by omega) c1 c2 ?_;repeat' first|apply aw|refine ah λhc=>?_|((first|apply aH rfl|apply aJ rfl);(focus (try apply ag rfl rfl rfl rfl rfl);((apply bn 5;(focus rfl);exact bV ⟨rfl,rfl,rfl⟩ rfl aS rfl rfl rfl HY rfl)));refine kS (show((i:Nat):Int)+1=((i+1:Nat):Int)by omega) c1 c2 ?_))
        refine⟨(i+1,L++[⟨E[i],E[i+1]-1⟩]),⟨aL,bD,.inr ⟨L,_,rfl,hnr,hnt,by simp only;rw[<-hL,aal];exact hm⟩⟩,aL,az (aU 700 701) (az (aU 701 700) ?_)⟩
        exact ab)
 ·have g3:out=R:=by
   rw[QY f hk]at g2
   rcases g2 with⟨a,b⟩|⟨o,y,a,_,_,b⟩
   ·rw[a,<-b];rfl
   ·rw[a,<-b];rfl
  clear g2 hup hrg hf
  (refine w0 ?_;refine ah λhc=>?_)
  refine dr ?_
  exact cJ rfl rfl rfl g3
theorem vh (s:List Kn)(r i:Nat)(h:i<s.length):bx (s.take (i+1)) r=bx (s.take i) r++(if s[i].rep=(r:Int)+1 then s[i].runs else []):=by rw[List.take_succ_eq_append_getElem h,nD]
theorem Cu (g:List (List Rn))(z:Nat)(h:z<g.length):bO id z (g.drop z)=(if g[z].length=0 then []else [⟨(z:Int)+1,g[z]⟩])++bO id (z+1) (g.drop (z+1)):=by rw[List.drop_eq_getElem_cons h];rfl
theorem yh (s:List Kn)(r:Nat)(hs:dJ s):Fn prog 149 [fA s,iC .i64 ((r:Int)+1)] (JT (bx s r)):=by
 have hl0:=hs.1
 have htot:=hs.2
 refine fi func149 ntmps149 ?_
 (refine w0 ?_)
 refine bw (bS 5 700 129 2 rfl rfl) ?_
 refine aj (X:=Nat) (λz=>z<=s.length)
  (λz=>aF [(0,fA s),(1,iC .i64 ((r:Int)+1)),(5,.row 700 0),(6,iC .i64 ((z:Nat):Int))] [(700,P7 (bx (s.take z) r))]) (λz=>s.length-z) 0 (aag _) ?_
 intro z hz
 by_cases hlt:z<s.length
 ·have hsn:=vh s r z hlt
  have h1:=xj s z r
  have h2:=i8 s r
  have h3:=hs.sz.at hlt
  by_cases c:s[z].rep=(r:Int)+1
  ·rw[aae c]at hsn
   generalize bx (s.take z) r=A at *
   clear hs
   (refine w0 ?_;repeat' first|apply aw|refine ah λhc=>?_)
   refine⟨z+1,hlt,ae,az (aU 700 701) (az (aU 701 700) ?_)⟩
   rw[hsn]
   exact ab
  ·rw[aab c,aan]at hsn
   generalize bx (s.take z) r=A at *
   clear hs
   (refine w0 ?_;repeat' first|apply aw|refine ah λhc=>?_)
   refine⟨z+1,hlt,ae,?_⟩
   rw[hsn]
   exact ab
 ·rw[aaj (show s.length<=z by omega)]
  generalize bx s r=A at *
  (refine w0 ?_;refine ah λhc=>?_)
  exact oo
theorem QZ (op:Int)(g:List Rn->List Rn->List Rn)(a b:List Kn)(ha:dJ a)(hb:dJ b)(hM:∀r,r<16->Fn prog 227 [iC .i64 op,ia (bx a r),ia (bx b r)] (JT (g (bx a r) (bx b r)))) :
 Fn prog 147 [iC .i64 op,fA a,fA b] (sE (vf g a b)):=by
 have hZ:(List.zipWith g (di a) (di b)).length=16:=by rw[List.length_zipWith,dp,dp];rfl
 have hZg:∀r (h:r<16),(List.zipWith g (di a) (di b))[r]?=some (g (bx a r) (bx b r)):=λr h=>by rw[List.getElem?_zipWith,ev _ h,ev _ h]
 generalize hQ:vf g a b=Q
 unfold vf at hQ
 generalize List.zipWith g (di a) (di b)=Z at *
 refine fi func147 ntmps147 ?_
 (refine w0 ?_)
 refine bw (bS 7 700 127 2 rfl rfl) ?_
 refine aj (X:=Nat×List Kn) (λz=>z.1<=16/\z.2.length<=z.1/\z.2++bO id z.1 (Z.drop z.1)=Q)
  (λz=>aF [(0,iC .i64 op),(1,fA a),(2,fA b),(7,.row 700 0),(8,iC .i64 (((z.1:Nat):Int)+1))] [(700,.row 127 2 (z.2.map BW))]) (λz=>16-z.1) (0,[]) ⟨aag _,aaf _,by simpa using hQ⟩ ?_
 rintro⟨z,acc⟩ ⟨h1,h2,h3⟩
 simp only at h1 h2 h3 ⊢
 clear hQ
 by_cases hz:z<16
 ·have r1:=yh a z ha
  have r2:=yh b z hb
  have m:=(hM z hz).frz
  have hg:=hZg z hz
  obtain⟨q1,q2⟩:=aaM.1 hg
  rw[Cu Z z q1,q2]at h3
  generalize bx a z=ta at *
  generalize bx b z=tb at *
  generalize g ta tb=L at *
  clear hZg hM ha hb hg
  by_cases hL:L.length=0
  ·rw[aae hL,aaE]at h3
   (refine kd m r1 r2 ?_;repeat' first|apply aw|refine ah λhc=>?_)
   refine⟨(z+1,acc),⟨aL,aL,h3⟩,aL,?_⟩
   exact ab
  ·rw[aab hL]at h3
   (refine kd m r1 r2 ?_;repeat' first|apply aw|refine ah λhc=>?_)
   refine⟨(z+1,acc++[⟨(z:Int)+1,L⟩]),⟨aL,bD,by simp only;rw[aal];exact h3⟩,aL,az (aU 700 701) (az (aU 701 700) ?_)⟩
   exact ab
 ·have h3':acc=Q:=by rw[<-h3,aay ae];simp[bO]
  clear hZg hM h3
  (refine w0 ?_;refine ah λhc=>?_)
  refine dr ?_
  exact cJ rfl rfl rfl h3'
theorem m4 (a b:List Rn)(n:Int):d8 (a++b) n=(d8 a n||d8 b n):=by grind[d8]
theorem Ik {l:List Rn}{k:Nat}(h:k<l.length)(n:Int):d8 (l.take (k+1)) n=(d8 (l.take k) n||(jN l[k]&&(decide (l[k].fr<=n)&&decide (n<=l[k].to)))):=by rw[bp l k h,m4];simp[d8]
theorem Il {l:List Rn}{k:Nat}{n:Int}(h:d8 (l.take k) n=true):d8 l n=true:=by rw[<-aa0 k l,m4,h];rfl
theorem Im (a b:List Kn)(r:Nat):bx (a++b) r=bx a r++bx b r:=by grind[bx]
theorem Vd (l:List Rn)(n:Int)(hl:l.length<=1000000000):Fn prog 222 [ia l,iC .i64 n] (dE (d8 l n)):=by
 refine fi func222 ntmps222 ?_
 (refine w0 ?_)
 refine aj (X:=Nat) (λk=>k<=l.length/\d8 (l.take k) n=false) (λk=>aF [(1,iC .i64 n),(7,ia l),(8,iC .i64 (l.length:Nat)),(9,iC .i64 (k:Nat))] []) (λk=>l.length-k) 0 ⟨aag _,rfl⟩ ?_
 rintro k ⟨h1,h2⟩
 by_cases hk:k<l.length
 ·have a1:=B1 l[k]
  have hs:=Ik hk n
  rw[h2,abl]at hs
  cases hr:jN l[k]with
  | false=>
   rw[hr]at a1 hs
   rw[aa2]at hs
   (refine au a1 ?_;repeat' first|apply aw|refine ah λhc=>?_)
   refine⟨k+1,⟨ae,hs⟩,ae,?_⟩
   exact ab
  | true=>
   rw[hr]at a1 hs
   rw[aaX]at hs
   by_cases c:l[k].fr<=n/\n<=l[k].to
   ·have ht:d8 l n=true:=Il (by rw[hs,aao c.1,aao c.2];rfl)
    rw[ht]
    clear hs h2
    (refine au a1 ?_;repeat' first|apply aw|refine ah λhc=>?_)
    exact dz
   ·have hs:d8 (l.take (k+1)) n=false:=by rw[hs,<-aaB,aaC,aaI,aaI];exact c
    clear h2
    (refine au a1 ?_;repeat' first|apply aw|refine ah λhc=>?_)
    all_goals
     refine⟨k+1,⟨ae,hs⟩,ae,?_⟩
     exact ab
 ·rw[aaj ae]at h2
  rw[h2]
  (refine w0 ?_;refine ah λhc=>?_)
  exact dz
theorem Q0 (s:List Kn)(r c:Int)(hs:dJ s):Fn prog 136 [fA s,vb r c] (dE (jb s r c)):=by
 have hl0:=hs.1
 have a1:=p8 r c
 unfold jb
 cases hv:gc r c with
 | false=>
  rw[hv]at a1
  rw[aa2]
  clear hs
  refine fi func136 ntmps136 ?_
  (refine au a1 ?_;refine ah λhc=>?_)
  exact dz
 | true=>
  rw[hv]at a1
  rw[aaX]
  have hr1:1<=r:=by grind[gc]
  obtain⟨q,hq⟩:∃q:Nat,r=(q:Int)+1:=⟨(r-1).toNat,ae⟩
  have hq2:(r-1).toNat=q:=ae
  rw[hq2]
  clear hv
  refine fi func136 ntmps136 ?_
  (refine au a1 ?_;refine ah λhc=>?_)
  refine aj (X:=Nat) (λk=>k<=s.length/\d8 (bx (s.take k) q) c=false) (λk=>aF [(3,.ptr 3 0 0),(10,fA s),(11,iC .i64 (s.length:Nat)),(12,iC .i64 (k:Nat))] [(3,.box 77 [iC .i64 r,iC .i64 c])]) (λk=>s.length-k) 0 ⟨aag _,rfl⟩ ?_
  rintro k ⟨h1,h2⟩
  by_cases hk:k<s.length
  ·have hz:=hs.sz.at hk
   have a2:=Vd s[k].runs c ae
   have hsn:=vh s q k hk
   by_cases e:s[k].rep=r
   ·rw[aae ae]at hsn
    cases hh:d8 s[k].runs c with
    | true=>
     rw[hh]at a2
     have ht:d8 (bx s q) c=true:=by rw[<-aa0 (k+1) s,Im,m4,hsn,m4,hh];simp
     rw[ht]
     clear hsn h2 hs hq a1
     (refine au a2 ?_;repeat' first|apply aw|refine ah λhc=>?_)
     exact dz
    | false=>
     rw[hh]at a2
     have h2:d8 (bx (s.take (k+1)) q) c=false:=by rw[hsn,m4,h2,hh];rfl
     clear hsn hs hq a1
     (refine au a2 ?_;repeat' first|apply aw|refine ah λhc=>?_)
     refine⟨k+1,⟨ae,h2⟩,ae,?_⟩
     exact ab
   ·rw[aab ae,aan]at hsn
    have h2:d8 (bx (s.take (k+1)) q) c=false:=by rw[hsn];exact h2
    clear hsn hs hq a1 a2
    (refine w0 ?_;repeat' first|apply aw|refine ah λhc=>?_)
    refine⟨k+1,⟨ae,h2⟩,ae,?_⟩
    exact ab
  ·rw[aaj ae]at h2
   rw[h2]
   clear hs hq a1
   (refine w0 ?_;refine ah λhc=>?_)
   exact dz
theorem Cv (k:List Pc)(s:ByteArray)(r c:Int)(hk:fe k)(hs:s.size<=1000000000):Fn prog 63 [dN k,sC s,vb r c] (dE (cq k s r c)):=by
 have hl0:=hk.1
 refine fi func63 ntmps63 ?_
 (refine w0 ?_)
 refine aj (X:=Nat) (λi=>i<=k.length/\cq (k.take i) s r c=false) (λi=>aF [(1,sC s),(5,.ptr 5 0 0),(9,dN k),(10,iC .i64 (k.length:Nat)),(11,iC .i64 (i:Nat))] [(5,.box 77 [iC .i64 r,iC .i64 c])]) (λi=>k.length-i) 0 ⟨aag _,rfl⟩ ?_
 rintro i ⟨h1,h2⟩
 by_cases hi:i<k.length
 ·have a1:=xV k[i].rg s hs
  have a2:=Q0 k[i].set r c (hk.at hi)
  have hsn:cq (k.take (i+1)) s r c=(ca k[i].rg s&&jb k[i].set r c):=by grind[cq,bp]
  cases hr:ca k[i].rg s with
  | false=>
   rw[hr]at a1 hsn
   rw[aa2]at hsn
   clear hk h2
   (refine bt a1 a2 ?_;repeat' first|apply aw|refine ah λhc=>?_)
   refine⟨i+1,⟨ae,hsn⟩,ae,?_⟩
   exact ab
  | true=>
   rw[hr]at a1 hsn
   rw[aaX]at hsn
   cases hh:jb k[i].set r c with
   | false=>
    rw[hh]at a2 hsn
    clear hk h2
    (refine bt a1 a2 ?_;repeat' first|apply aw|refine ah λhc=>?_)
    refine⟨i+1,⟨ae,hsn⟩,ae,?_⟩
    exact ab
   | true=>
    rw[hh]at a2 hsn
    have ht:cq k s r c=true:=by grind[cq]
    rw[ht]
    clear hk h2 hsn
    (refine bt a1 a2 ?_;repeat' first|apply aw|refine ah λhc=>?_)
    exact dz
 ·rw[aaj ae]at h2
  rw[h2]
  clear hk
  (refine w0 ?_;refine ah λhc=>?_)
  exact dz
theorem Ve (s:List Kn)(r c:Int)(hs:dJ s):Fn prog 76 [fA s,vb r c] (dE (jb s r c)):=by
 have a1:=qW r c
 unfold jb
 cases hv:gc r c with
 | false=>
  rw[hv]at a1
  rw[aa2]
  clear hs
  refine fi func76 ntmps76 ?_
  (refine au a1 ?_)
  exact dz
 | true=>
  rw[hv]at a1
  rw[aaX]
  have hr1:1<=r:=by grind[gc]
  obtain⟨q,rfl⟩:∃q:Nat,r=(q:Int)+1:=⟨(r-1).toNat,ae⟩
  have hq2:((q:Int)+1-1).toNat=q:=ae
  rw[hq2]
  have a2:=yh s q hs
  have hz:=i8 s q
  have a3:=yg (bx s q) c (by have:=hs.2;omega)
  clear hs hv hz
  generalize bx s q=T at *
  refine fi func76 ntmps76 ?_
  (refine fF a1 a2 a3 ?_)
  exact dz
theorem J6 (k:List Pc)(s:ByteArray)(r c:Int)(hk:fe k)(hs:s.size<=1000000000):Fn prog 31 [dN k,sC s,vb r c] (dE (cq k s r c)):=by
 have hl0:=hk.1
 refine fi func31 ntmps31 ?_
 (refine w0 ?_)
 refine aj (X:=Nat) (λi=>i<=k.length/\cq (k.take i) s r c=false) (λi=>aF [(0,dN k),(1,sC s),(5,.ptr 5 0 0),(7,iC .i64 (i:Nat))] [(5,.box 77 [iC .i64 r,iC .i64 c])]) (λi=>k.length-i) 0 ⟨aag _,rfl⟩ ?_
 rintro i ⟨h1,h2⟩
 by_cases hi:i<k.length
 ·have a1:=qk k[i].rg s hs
  have a2:=Ve k[i].set r c (hk.at hi)
  have hsn:cq (k.take (i+1)) s r c=(ca k[i].rg s&&jb k[i].set r c):=by grind[cq,bp]
  cases hr:ca k[i].rg s with
  | false=>
   rw[hr]at a1 hsn
   rw[aa2]at hsn
   clear hk h2
   (refine bt a1 a2 ?_;repeat' first|apply aw|refine ah λhc=>?_|((first|apply aH rfl|apply aJ rfl);(focus (try apply ag rfl rfl rfl rfl rfl);((apply bn 5;(focus rfl);first|exact bJ ⟨rfl,rfl,rfl⟩ rfl aS aS rfl rfl rfl rfl|exact bK ⟨rfl,rfl,rfl⟩ rfl aS aS rfl rfl rfl rfl)));refine bt a1 a2 ?_))
   refine⟨i+1,⟨ae,hsn⟩,ae,?_⟩
   exact ab
  | true=>
   rw[hr]at a1 hsn
   rw[aaX]at hsn
   cases hh:jb k[i].set r c with
   | false=>
    rw[hh]at a2 hsn
    clear hk h2
    (refine bt a1 a2 ?_;repeat' first|apply aw|refine ah λhc=>?_|((first|apply aH rfl|apply aJ rfl);(focus (try apply ag rfl rfl rfl rfl rfl);((apply bn 5;(focus rfl);first|exact bJ ⟨rfl,rfl,rfl⟩ rfl aS aS rfl rfl rfl rfl|exact bK ⟨rfl,rfl,rfl⟩ rfl aS aS rfl rfl rfl rfl)));refine bt a1 a2 ?_))
    refine⟨i+1,⟨ae,hsn⟩,ae,?_⟩
    exact ab
   | true=>
    rw[hh]at a2 hsn
    have ht:cq k s r c=true:=by grind[cq]
    rw[ht]
    clear hk h2 hsn
    (refine bt a1 a2 ?_;repeat' first|apply aw|refine ah λhc=>?_|((first|apply aH rfl|apply aJ rfl);(focus (try apply ag rfl rfl rfl rfl rfl);((apply bn 5;(focus rfl);first|exact bJ ⟨rfl,rfl,rfl⟩ rfl aS aS rfl rfl rfl rfl|exact bK ⟨rfl,rfl,rfl⟩ rfl aS aS rfl rfl rfl rfl)));refine bt a1 a2 ?_))
    exact dz
 ·rw[aaj ae]at h2
  rw[h2]
  clear hk
  (refine w0 ?_;refine ah λhc=>?_)
  exact dz
theorem sS (l:List Rg)(s:ByteArray)(hok:bT l)(hl:l.length<=1000000000)(hs:s.size<=1000000000):Fn prog 62 [.per (gd l),sC s] (dE (cz l s)):=by
 have h0:=mN l hl true (by simp[hok])
 have h1:Fn prog 133 [.per (gd l)] (.per (gd l)):=by
  refine fi func133 ntmps133 ?_
  (refine au h0 ?_;refine ah λhc=>?_)
  exact Nj
 obtain⟨p,hp,hlt⟩:=UQ hok s
 have h2:=QW l s hs hl p hp hlt
 have hA:=XL hok hlt
 rw[hA]
 clear hA hlt hok h0
 by_cases hn:p<l.length
 ·have h3:=xV l[p] s hs
  rw[aaa hn]
  simp only
  refine fi func62 ntmps62 ?_
  (refine fF h1 h2 h3 ?_;refine ah λhc=>?_)
  exact dz
 ·rw[List.getElem?_eq_none ae]
  simp only
  refine fi func62 ntmps62 ?_
  (refine bt h1 h2 ?_;refine ah λhc=>?_)
  exact dz
end Go.Proofs.YtecdgdoledkdfaaGreat
namespace Go.Proofs.YtecdgdoledkdfaaGreat
open Go.RowKit Go.Deep Go.ChangeShapes Go.WideShapes Go.Proofs.Tryz
def Rd (P:Program)(w:World)(t:TypeId)(Q:List Value->Prop):Prop:=
 ∀(H:Type)(enc:TypeId×Value->H)(spare:Nat->Bool)(held:Bool)(fuel:Nat)(cs:List Value)(x:DataW H×List MemPlace),DataW.trod enc P w 0 spare held fuel t cs=some x->Q cs
section
variable {P:Program} {w:World} {t:TypeId}
theorem Rd.mono {Q Q':List Value->Prop}(h:Rd P w t Q)(hq:∀cs,Q cs->Q' cs):Rd P w t Q':=λH enc sp hd f cs x hx=>hq _ (h H enc sp hd f cs x hx)
theorem Rd.int {k:IntKind}(ht:P.underlying t=some (.int k)):Rd P w t (λcs=>∃n,cs=[.int k n]/\(Lit.int k n).wf=true):=by
 intro H enc sp hd f cs x hx
 grind[DataW.trod_int]
theorem Rd.bool (ht:P.underlying t=some .bool):Rd P w t (λcs=>∃b,cs=[.bool b]):=by
 intro H enc sp hd f cs x hx
 grind[DataW.trod_bool]
theorem Rd.string (ht:P.underlying t=some .string):Rd P w t (λcs=>∃s,cs=[.string s]/\s.size<=maxLen):=by
 intro H enc sp hd f cs x hx
 grind[DataW.trod_string]
theorem Rd.struct {fs:Array Field}(ht:P.underlying t=some (.struct fs)) :
 Rd P w t (λcs=>cs.length=P.cellsOf t/\∀(i:Nat)(f:Field),fs[i]?=some f->∀Q,Rd P w f.type Q->Q ((cs.drop f.offset).take (P.cellsOf f.type))):=by
 intro H enc sp hd f cs x hx
 obtain⟨xs,n,_,_,hl,hs,hall⟩:=DataW.trod_struct ht hx
 refine⟨hl,λi f hf Q hQ=>?_⟩
 have hi:i<fs.size:=by grind
 have:=hall i f hf
 rw[aaa ae]at this
 exact hQ _ _ _ _ _ _ _ this
theorem Rd.struct' {fs:Array Field}(ht:P.underlying t=some (.struct fs)) :
 Rd P w t (λcs=>cs.length=P.cellsOf t/\∀(i off:Nat)(ty:TypeId)(sz:Nat)(Q:List Value->Prop),(fs[i]?).map (λf=>(f.offset,f.type))=some (off,ty)->P.cellsOf ty=sz->Rd P w ty Q->Q ((cs.drop off).take sz)):=by grind[Rd.struct]
theorem Rd.array {n:Nat}{e:TypeId}(ht:P.underlying t=some (.array n e)){Q:List Value->Prop}(hQ:Rd P w e Q) :
 Rd P w t (λcs=>cs.length=P.cellsOf t/\∀i,i<n->Q ((cs.drop (i*P.cellsOf e)).take (P.cellsOf e))):=by
 intro H enc sp hd f cs x hx
 obtain⟨xs,m,_,_,hl,hs,hall⟩:=DataW.trod_array ht hx
 refine⟨hl,λi hi=>?_⟩
 have:=hall i hi
 rw[aaa ae]at this
 exact hQ _ _ _ _ _ _ _ this
theorem sU {α:Type}{G:Nat->α->Prop}:∀(n:Nat),(∀i,i<n->∃x,G i x)->∃l:List α,l.length=n/\∀(i:Nat)(x:α),l[i]?=some x->G i x:=by
 intro n
 induction n with
 | zero=>simp_all
 | succ n ih=>
  intro h
  obtain⟨l,hl,hg⟩:=ih (λi hi=>h i ae)
  obtain⟨x,hx⟩:=h n ae
  refine⟨l++[x],by simp[hl],λi y hy=>?_⟩
  grind
theorem Rd.slice {α:Type}{e:TypeId}{k:Nat}{enc:α->List Value}{Qe:List Value->Prop}{G:α->Prop}(ht:P.underlying t=some (.slice e))(hk:P.cellsOf e=k)(hk0:0<k)
 (hQ:Rd P w e Qe) (hdec:∀cs,Qe cs->∃x:α,cs=enc x/\G x) :
 Rd P w t (λcs=>∃v l,cs=[v]/\Sl k enc w v l/\∀x∈l,G x):=by
 intro H en sp hd f cs x hx
 subst hk
 rcases DataW.trod_slice ht hx with⟨rfl,_⟩|⟨a,len,cap,elems,rest,n,_,rfl,_,hb,hl,hm,hlen,hel,_,_⟩
 ·exact⟨_,[],rfl,⟨none,0,0,0,rfl,aA,by unfold maxLen;omega,aA,λ_=>rfl,λi x hx=>by simp at hx⟩,aA⟩
 ·have key:∀i,i<len->∃x:α,w.cells? 0 (a.add (i*P.cellsOf e)) (P.cellsOf e)=some (enc x)/\G x:=by
   intro i hi
   have:=hel i hi
   rw[aaa ae]at this
   cases hc:w.cells? 0 (a.add (i*P.cellsOf e)) (P.cellsOf e)with
   | none=>rw[hc]at this;simp at this
   | some cs'=>
    rw[hc]at this
    obtain⟨x,rfl,hg⟩:=hdec cs' (hQ _ _ _ _ _ _ _ this)
    exact⟨x,rfl,hg⟩
  obtain⟨l,hll,hcells⟩:=sU len key
  subst hll
  refine⟨_,l,rfl,?_,λx hx=>?_⟩
  ·have hsp:0<l.length->a=⟨a.block,a.off,none⟩:=by
    intro h0
    obtain⟨c0,hc0⟩:=World.cells?_some (hcells 0 l[0] (by simp[h0])).1
    have h00:=hc0.2 0 ae
    rw[Nat.zero_mul]at h00
    have hz:a.add 0=a:=by simp[Addr.add]
    rw[hz,hz]at h00
    have:0<(enc l[0]).length:=ae
    rw[aaa this]at h00
    have:=World.cell?_spot h00
    cases a;simp_all
   refine⟨some a,cap,a.block,a.off,rfl,hl,hm,λh0=>by rw[<-hsp h0],(λh=>by cases h),?_⟩
   intro i x hx j y hy
   have hi:i<l.length:=by grind
   obtain⟨c0,hc0⟩:=World.cells?_some (hcells i x hx).1
   grind[Addr.add_lit]
  grind[List.getElem_of_mem]
end
section
variable {P:Program} {w:World} {t e s:TypeId}
theorem Rd.u8dec:∀cs,(∃n,cs=[Value.int .u8 n]/\(Lit.int .u8 n).wf=true)->∃x:UInt8,cs=encB x/\True:=by
 rintro cs ⟨n,rfl,h⟩
 have:=bounds_u8 h
 refine⟨UInt8.ofNat n.toNat,?_,trivial⟩
 grind[encB,abh]
theorem Rd.bytes (ht:P.underlying t=some (.slice e))(he:P.underlying e=some (.int .u8))(hc:P.cellsOf e=1) :
 Rd P w t (λcs=>∃v l,cs=[v]/\Bs w v l):=
 (Rd.slice ht hc bP (Rd.int he) Rd.u8dec).mono λcs ⟨v,l,h1,h2,_⟩=>⟨v,l,h1,h2⟩
end
section
variable {P:Program}
structure tD (P:Program)(w:World)(t:TypeId)(v:Value):Prop where
 ok:∃b,Value.okWide P w .any b t v
 rd:∀Q,Rd P w t Q->Q v.cells.toList
def rp (P:Program)(w:World):List TypeId->List Value->Prop
 | [],[]=>True
 | t::ts,v::vs=>tD P w t v/\rp P w ts vs
 | _,_=>False
section
variable {w:World} {t e s:TypeId} {v:Value}
theorem tD.cells (h:tD P w t v)(ht:(match P.underlying t with|some (.struct _)=>true|some (.array _ _)=>true|_=>false)=true):∃cs:Array Value,v=.agg cs:=by
 obtain⟨b,hb⟩:=h.ok
 grind[Value.okWide]
theorem tD.int (h:tD P w t v){k:IntKind}(ht:P.underlying t=some (.int k)):∃n,v=.int k n/\(Lit.int k n).wf=true:=by
 obtain⟨b,hb⟩:=h.ok
 obtain⟨n,rfl⟩:=okWide_int ht hb
 obtain⟨m,h1,h2⟩:=h.rd _ (Rd.int ht)
 grind[Value.cells]
theorem tD.bool (h:tD P w t v)(ht:P.underlying t=some .bool):∃n,v=.bool n:=by
 obtain⟨b,hb⟩:=h.ok
 exact okWide_bool ht hb
theorem tD.string (h:tD P w t v)(ht:P.underlying t=some .string):∃n,v=.string n/\n.size<=maxLen:=by
 obtain⟨b,hb⟩:=h.ok
 obtain⟨n,rfl⟩:=okWide_string ht hb
 obtain⟨m,h1,h2⟩:=h.rd _ (Rd.string ht)
 grind[Value.cells]
theorem tD.slice (h:tD P w t v)(ht:P.underlying t=some (.slice e)){Q:Value->Prop}(hq:Rd P w t (λcs=>∃v,cs=[v]/\Q v)):Q v:=by
 obtain⟨b,hb⟩:=h.ok
 obtain⟨a,l,c,rfl⟩:=okWide_slice ht hb
 obtain⟨x,h1,h2⟩:=h.rd _ hq
 grind[Value.cells]
theorem tD.bytes (h:tD P w t v)(ht:P.underlying t=some (.slice e))(he:P.underlying e=some (.int .u8))(hc:P.cellsOf e=1):∃l,Bs w v l:=
 h.slice (Q:=λv=>∃l,Bs w v l) ht ((Rd.bytes ht he hc).mono λ_ ⟨v,l,h1,h2⟩=>⟨v,h1,l,h2⟩)
theorem tD.flats {α:Type}{k:Nat}{enc:α->List Value}{Qe:List Value->Prop}{G:α->Prop}(h:tD P w t v)(ht:P.underlying t=some (.slice e))(hk:P.cellsOf e=k)(hk0:0<k)
 (hQ:Rd P w e Qe) (hdec:∀cs,Qe cs->∃x:α,cs=enc x/\G x):∃l,Sl k enc w v l/\∀x∈l,G x:=
 h.slice (Q:=λv=>∃l,Sl k enc w v l/\∀x∈l,G x) ht ((Rd.slice ht hk hk0 hQ hdec).mono λ_ ⟨v,l,h1,h2,h3⟩=>⟨v,h1,l,h2,h3⟩)
end
theorem rp.cons {w:World}{t:TypeId}{ts:List TypeId}{vs:List Value}(h:rp P w (t::ts) vs):∃v vs',vs=v::vs'/\tD P w t v/\rp P w ts vs':=by
 cases vs with
 | nil=>exact h.elim
 | cons v vs=>exact⟨v,vs,rfl,h.1,h.2⟩
theorem rp.nil {w:World}{vs:List Value}(h:rp P w [] vs):vs=[]:=by
 cases vs with
 | nil=>rfl
 | cons v vs=>exact h.elim
theorem rp.one {w:World}{t0:TypeId}{args:Array Value}(h:rp P w [t0] args.toList):∃v0,args=#[v0]/\tD P w t0 v0:=by
 obtain⟨v0,_,e,h0,h⟩:=h.cons
 obtain rfl:=h.nil
 grind
theorem rp.two {w:World}{t0 t1:TypeId}{args:Array Value}(h:rp P w [t0,t1] args.toList):∃v0 v1,args=#[v0,v1]/\tD P w t0 v0/\tD P w t1 v1:=by
 obtain⟨v0,_,e,h0,h⟩:=h.cons
 obtain⟨v1,_,rfl,h1,h⟩:=h.cons
 obtain rfl:=h.nil
 grind
theorem Vf {H:Type}{enc:TypeId×Value->H}{w:World}:∀(ts:List TypeId)(vs:List Value) (ds:List (DataW H)) (p:List MemPlace),
 DataW.TrodAll enc P w 0 (λ_=>true) true ts vs ds p->(∀(j:Nat) t v,ts[j]?=some t->vs[j]?=some v->∃b,Value.okWide P w .any b t v)->rp P w ts vs:=by
 intro ts
 induction ts with
 | nil=>intro vs ds p h _;obtain⟨rfl,_,_⟩:=trodAll_nil h;trivial
 | cons t ts ih=>
  intro vs ds p h hok
  obtain⟨v,vs',d,ds',p',q,rfl,rfl,rfl,h1,h2⟩:=trodAll_cons h
  refine⟨⟨hok 0 t v rfl rfl,λQ hQ=>?_⟩,ih _ _ _ h2 λj t v h h'=>hok (j+1) t v (by simpa using h) (by simpa using h')⟩
  obtain⟨fuel,hf⟩:=h1
  exact hQ _ _ _ _ _ _ _ hf
theorem E6 {H:Type}{enc:TypeId×Value->H}{w w':World}(hl:laidOutB P=true)(he:bQ w w'):∀(ts:List TypeId)(vs:List Value) (ds:List (DataW H)) (p:List MemPlace),
 (∀t∈ts,P.readableRec t=true/\t<P.types.size) ->
 DataW.TrodAll enc P w 0 (λ_=>true) true ts vs ds p->DataW.TrodAll enc P w' 0 (λb=>decide (b<w.heap.size)) true ts vs ds p:=by
 intro ts
 induction ts with
 | nil=>intro vs ds p _ h;obtain⟨rfl,rfl,rfl⟩:=trodAll_nil h;exact trodAll_mk0
 | cons t ts ih=>
  intro vs ds p hr h
  obtain⟨v,vs',d,ds',p',q,rfl,rfl,rfl,h1,h2⟩:=trodAll_cons h
  have hlt:∀x∈p',x.block<w.heap.size:=by obtain⟨m,hm⟩:=h1;exact DataW.trod_lt m _ _ _ hm
  exact trodAll_cons_mk (Below.trod hl (hr t aA).1 (hr t aA).2 h1 he hlt) (ih _ _ _ (λt ht=>hr t (by simp[ht])) h2)
theorem Io {C:Checked}{f:FuncId}{fn:Func}{s:ChangeSpec}{T:TypeId}(own:ownKnob C.prog.godebug=none)(laidOut:laidOutB C.prog=true)
 (noInit:C.prog.inits.idxOf? f=none) (hfn:C.prog.funcs[f]?=some fn) (hres:fn.resultTypes=#[T]) (hT:C.prog.underlying T=some .bool)
 (hread:fn.params.toList.all (λt=>C.prog.readableRec t&&decide (t<C.prog.types.size))=true)
 (hvars:s.vars=[]) (hspec:∀(H:Type) (ds:List (DataW H)),ds.length=fn.params.size->(s.fn H (ds++[])).results=[.lit (.bool true)]/\(s.fn H (ds++[])).args=ds/\(s.fn H (ds++[])).vars=[])
 (walk:∀(w:World)(args:Array Value),rp C.prog w fn.params.toList args.toList->Calls C.prog f args w λe w'=>e=.returned (.bool true)/\bQ w w')
 {conds:List PathCond} (os:Os) (started:os.Started) (H:Type) (enc:TypeId×Value->H)
 (witness:∃(w:World)(tape:Tape)(i:Input),w.os=os/\(w.forCall tape i).Shaped C.prog/\i.vars=[]/\Input.okWide C.prog (w.forCall tape i) .any w.heap.size f i /\
   s.pre6 enc C.prog fn conds false (w.forCall tape i).memory i.args/\({}:Assume).holds C.prog (lone (Frame.enter C.prog f i.args .normal) [] (w.forCall tape i))) :
 ReturnsInHanded {} C os f .any (s.pre6 enc C.prog fn conds false) (s.post enc C.prog fn false true false false):=by
 refine returnsInHanded_of_change (C:=C) own started noInit hfn witness ?_
 intro W base args ds gs before hval hW hcnd _
 have hW':=hW
 obtain⟨p,q,hA,hV,rfl,hfz,hnd⟩:=hW
 rw[hvars]at hV
 obtain⟨rfl,rfl⟩:=trodVars_none hV
 have hargs:rp C.prog W fn.params.toList args.toList:=Vf _ _ _ _ hA λj t v h h'=>⟨base,hval j t v (by simpa using h) (by simpa using h')⟩
 have hlen:ds.length=fn.params.size:=by
  have:∀(ts:List TypeId)(vs:List Value) (ds:List (DataW H)) (p:List MemPlace),DataW.TrodAll enc C.prog W 0 (λ_=>true) true ts vs ds p->ds.length=ts.length:=by
   intro ts
   induction ts<;>grind[trodAll_nil,trodAll_cons]
  rw[this _ _ _ _ hA];simp
 obtain⟨e1,e2,e3⟩:=hspec H ds hlen
 refine(walk W args hargs).mono λe W' ⟨he,bel⟩=>?_
 subst he
 refine⟨_,rfl,ds,[],_,[],p,[],hW',?_,?_,?_,bel.below.frame _,λh=>by cases h⟩
 ·rw[e1,hres];exact trodAll_mk1 (shut_bool hT true)
 ·rw[e2]
  grind[E6]
 ·rw[e3,hvars];rfl
end
end Go.Proofs.YtecdgdoledkdfaaGreat
namespace Go.Proofs.YtecdgdoledkdfaaGreat
open Go.RowKit Go.Proofs.Tryz
theorem Zg {α:Type}(l:List α)(h:l.length=7):∃a b c d e f g,l=[a,b,c,d,e,f,g]:=by match l,h with|[a,b,c,d,e,f,g],_=>grind
theorem Q2 {α:Type}(l:List α)(h:l.length=2):∃a b,l=[a,b]:=by match l,h with|[a,b],_=>exact⟨a,b,rfl⟩
theorem Zh (w:World):Rd prog w 77 (λcs=>∃r c,cs=[Value.int .i64 r,.int .i64 c]/\(Lit.int .i64 r).wf=true/\(Lit.int .i64 c).wf=true):=by
 refine(Rd.struct' underlying77).mono ?_
 rintro cs ⟨hl,hf⟩
 obtain⟨c0,c1,rfl⟩:=Q2 cs (hl.trans (by kernel_rfl))
 obtain⟨r,h1,w1⟩:=hf 0 0 3 1 _ rfl (by kernel_rfl) (Rd.int underlying3)
 obtain⟨c,h2,w2⟩:=hf 1 1 3 1 _ rfl (by kernel_rfl) (Rd.int underlying3)
 grind
def Vg (x:It):Prop:=x.key.size<=maxLen/\x.body.size<=maxLen/\(Lit.int .i64 x.rep).wf=true/\(Lit.int .i64 x.cnt).wf=true/\(Lit.int .i64 x.rank).wf=true/\(Lit.int .i64 x.prio).wf=true
theorem XS (w:World):Rd prog w 79 (λcs=>∃x,cs=encIt x/\Vg x):=by
 refine(Rd.struct' underlying79).mono ?_
 rintro cs ⟨hl,hf⟩
 obtain⟨c0,c1,c2,c3,c4,c5,c6,rfl⟩:=Zg cs (hl.trans (by kernel_rfl))
 obtain⟨s0,h0,w0⟩:=hf 0 0 9 1 _ rfl (by kernel_rfl) (Rd.string underlying9)
 obtain⟨r,c,h1,w1,w1'⟩:=hf 1 1 77 2 _ rfl (by kernel_rfl) (Zh w)
 obtain⟨n2,h2,w2⟩:=hf 2 3 3 1 _ rfl (by kernel_rfl) (Rd.int underlying3)
 obtain⟨n3,h3,w3⟩:=hf 3 4 3 1 _ rfl (by kernel_rfl) (Rd.int underlying3)
 obtain⟨b4,h4⟩:=hf 4 5 4 1 _ rfl (by kernel_rfl) (Rd.bool underlying4)
 obtain⟨s5,h5,w5⟩:=hf 5 6 9 1 _ rfl (by kernel_rfl) (Rd.string underlying9)
 simp at h0 h1 h2 h3 h4 h5
 obtain⟨rfl,rfl⟩:=h1
 subst h0 h2 h3 h4 h5
 exact⟨⟨s0,r,c,n2,n3,b4,s5⟩,rfl,w0,w5,w1,w1',w2,w3⟩
theorem tD.items {w:World}{v:Value}(h:tD prog w 23 v):∃l,YZ w v l/\∀x∈l,Vg x:=
 h.flats underlying23 (by kernel_rfl) bP (XS w) λcs ⟨x,h1,h2⟩=>⟨x,h1,h2⟩
def cx (w:World):Ctx:=⟨w,λ_=>False,λ_=>False,g0⟩
abbrev In (w:World)(v:Value)(c:Cnt):Prop:=crep (cx w) (λ_=>0) g0 w v c
theorem aak {P:Program}{f:FuncId}{c d:Cnt}{w:World}{v v':Value}(h:Fn P f [c,d] (.per (ai (.bool true))))(h0:In w v c)(h1:In w v' d):Calls P f #[v,v'] w λe w'=>e=.returned (.bool true)/\bQ w w':=by
 refine(h.run (λ_=>False) w [v,v'] (λ_ hb=>hb.elim) ⟨rfl,λi u d hi hj=>?_⟩).mono ?_
 ·match i,hi,hj with
  | 0,hi,hj=>cases hi;cases hj;exact h0
  | 1,hi,hj=>cases hi;cases hj;exact h1
  | _+2,hi,_=>simp at hi
 ·rintro e w' ⟨u,rfl,hx,hu⟩
  have hu:u=.bool true:=hu
  exact⟨by rw[hu],hx⟩
def yi (A B:PV):Prop:=∀(N:BP)(w:World)(v:Value),A.p N w v->B.p N w v
theorem yi.refl {A:PV}:yi A A:=λ_ _ _ h=>h
theorem ct {k:Nat}:yi (ai (.slice none 0 0)) (cn k []):=λN w v h=>by
 have h:v=.slice none 0 0:=h
 subst h
 exact⟨none,0,0,0,rfl,aA,bP,λ_=>rfl,aA,λi cs hi=>by simp at hi⟩
inductive PW:List PV->List PV->Prop
 | nil:PW [] []
 | cons {A B:PV} {l l':List PV} (h:yi A B) (k:PW l l'):PW (A::l) (B::l')
theorem PW.len {l l':List PV}(h:PW l l'):l.length=l'.length:=by
 induction h with
 | nil=>rfl
 | cons h k ih=>simp[ih]
theorem PW.get {l l':List PV}(h:PW l l'):∀(j:Nat)(B:PV),l'[j]?=some B->∃A,l[j]?=some A/\yi A B:=by
 induction h with
 | nil=>intro j B h;simp at h
 | @cons A B l l' h k ih=>
  intro j C hj
  cases j with
  | zero=>simp at hj;subst hj;exact⟨A,rfl,h⟩
  | succ j=>simpa using ih j C (by simpa using hj)
theorem J7 {l l':List PV}(h:PW l l'):yi (cu l) (cu l'):=λN w v ⟨vs,e,h1,h2⟩=>by
 refine⟨vs,e,by rw[h1,h.len],λj B hj=>?_⟩
 obtain⟨A,q1,q2⟩:=h.get j B hj
 obtain⟨y,r1,r2,r3⟩:=h2 j A q1
 exact⟨y,r1,r2,q2 N w y r3⟩
theorem aI {l l':List PV}(h:PW l l':=by(repeat (first|exact PW.nil|(refine PW.cons (by first|exact yi.refl|exact ct) ?_)))):yi (cu l) (cu l'):=J7 h
section
variable {P:Program} {n:Nat} {S:St} {A B:PV} {rv:ResultVar} {τ:List (Nat×Nat)}
theorem fW (h:BB P n S τ rv (.per A))(k:yi A B):BB P n S τ rv (.per B):=λC g a w hR=>by
 obtain⟨v,h1,h2⟩:=h C g a w hR
 exact⟨v,h1,k _ _ _ h2⟩
theorem AK (h:cH P n S rv (.per A))(k:yi A B):cH P n S rv (.per B):=λC g a w hL hR=>by
 obtain⟨v,h1,h2⟩:=h C g a w hL hR
 exact⟨v,h1,k _ _ _ h2⟩
theorem Fn.arg1 {f:FuncId}{r:Ret}(h:Fn P f [.per B] r)(k:yi A B):Fn P f [.per A] r:=⟨h.ent,λN0 w vs hN ha=>by
 refine h.run N0 w vs hN ⟨ha.1,λi u c hi hj=>?_⟩
 match i,hi,hj with
 | 0,hi,hj=>cases hj;exact k _ _ _ (ha.2 0 u (.per A) hi rfl)
 | _+1,_,hj=>simp at hj⟩
theorem m5 {p:Prop}(h:p:=by exact AK Od aI):p:=h
end
section
variable {P:Program} {n:Nat} {ops:Array Oper} {o:Oper} {F:List Nat} {S T:St} {C:Ctx} {g:Gh} {a:Act} {w w':World} {t:Nat}
theorem J8 {id vr:Nat}{B:Blk}(hR:RG C n S g a w)(hv:S.ver id=vr)(hb:brep C S.ver g w id B):RG C n (S.putB [(id,vr,B)]) g a w:=by
 have hver:(S.putB [(id,vr,B)]).ver=S.ver:=by
  funext i
  rw[St.putB_ver]
  grind
 refine⟨hR.defers,hR.tsz,hR.nle,hR.keep,hR.os,hR.tape,hR.output,hR.size,hR.old,hR.n0,hR.n0l,hR.dom,λt=>?_,λi=>?_⟩
 ·rw[hver];exact hR.slots t
 ·rw[hver,St.putB_blk]
  split
  ·grind
  ·exact hR.blks i
theorem Ip (id vr id2 e e2 k2:Nat){D:List PV}(hv:S.ver id=vr)(hb:S.blk id=.row e 1 (D.map (λA=>[A])++[[ai (.slice none 0 0)]]))(hne:Nat.beq id id2=false)(hfx:eL id2=false:=by rfl) :
 Le n S ((S.putB [(id2,S.ver id2+1,.row e2 k2 [])]).putB [(id,vr,.mix e D (.row id2 (S.ver id2+1)))]):=by
 rintro C a w ⟨g,hR⟩
 have hne':id≠id2:=λh=>by rw[bc.2 h]at hne;cases hne
 have hvr:∀i,(S.app none .any [(id2,S.ver id2+1,.row e2 k2 [])]).ver i=if i=id2 then S.ver id2+1 else S.ver i:=λi=>St.app_some_ver _ _ _ _ _ _ _
 have hst:=ni (v:=.slice none 0 0) (t:=id2) hR (bQ.refl w) hvr hfx
 have h1:=hR.app1 (d:=none) (c:=.any) (v:=undef) (λ_ h=>by cases h) hst trivial (.inl ⟨aae rfl,rfl⟩)
 have hvr2:=λi=>St.putB_ver S id2 (S.ver id2+1) (.row e2 k2 []) i
 refine⟨_,J8 (id:=id) (vr:=vr) h1 ?_ ?_⟩
 ·rw[hvr2,aab hne',hv]
 ·have h2:=h1.blks id
  rw[St.app_some_blk,aab hne',hb]at h2
  rcases h2 with⟨_,q⟩|⟨cap,cs,q1,q2,q3,q4,q5,q6,q7⟩
  ·simp at q
  ·simp only[aai,aad,aaD,List.length_nil]at q1 q4
   refine⟨cap,cs,q1,q2,q3,q4,q5,by rw[q6,abF],λi A hi=>?_,?_⟩
   ·obtain⟨_,r⟩:=q7 i [A] (by rw[aaz (by have:=(aaM.1 hi).1;simpa using this),List.getElem?_map,hi];rfl)
    obtain⟨y,s1,s2,s3⟩:=r 0 A rfl
    grind
   ·obtain⟨_,r⟩:=q7 D.length [ai (.slice none 0 0)] (by rw[List.getElem?_append_right aA];simp)
    obtain⟨y,s1,s2,s3⟩:=r 0 _ rfl
    have s3:y=.slice none 0 0:=s3
    exact⟨y,by simpa using s1,s2,by rw[hvr2,aae rfl];exact aaf _,λ_=>by rw[s3];exact(aae rfl).symm⟩
theorem yj (id vr id2 e:Nat){v2 e2 k2:Nat}{D:List PV}{es2:List (List PV)}(hv:S.ver id=vr)(hb:S.blk id=.mix e D (.row id2 v2))(hv2:S.ver id2=v2)(hb2:S.blk id2=.row e2 k2 es2) :
 Le n S ((S.putB [(id2,v2+1,.none)]).putB [(id,vr,.row e 1 (D.map (λA=>[A])++[[cn k2 es2]]))]):=by
 rintro C a w ⟨g,hR⟩
 have hne':id≠id2:=λh=>by rw[h,hb2]at hb;cases hb
 let g':Gh:=⟨λb=>if g.ow b=some id2 then none else g.ow b,g.ph,g.rh⟩
 have hg':∀b,g'.ow b=if g.ow b=some id2 then none else g.ow b:=λ_=>rfl
 have hvr:∀i,(S.app none .any [(id2,v2+1,.none)]).ver i=if i=id2 then v2+1 else S.ver i:=λi=>St.app_some_ver _ _ _ _ _ _ _
 have hst:oi C (λi=>i=id2) S.ver (S.app none .any [(id2,v2+1,.none)]).ver g g' w w:=by
  refine⟨aaf _,λ_ _ _=>rfl,λb _ hn=>?_,λb _ hn=>?_,λb i e=>?_,λi=>?_,λ_ _=>⟨rfl,rfl⟩,λ_ _=>⟨rfl,rfl⟩,rfl,rfl,rfl⟩
  ·rw[hg',aab (hn id2 rfl)]
  ·rw[hg']at hn
   by_cases h:g.ow b=some id2
   all_goals grind
  ·rw[hg']at e
   by_cases h:g.ow b=some id2
   ·rw[aae h]at e;cases e
   ·rw[aab h]at e;exact hR.dom b i e
  grind
 have hB:=hR.blks id
 rw[hb]at hB
 have hB2:=hR.blks id2
 rw[hb2]at hB2
 have h1:=hR.app1 (d:=none) (c:=.any) (v:=undef) (λ_ h=>by cases h) hst trivial trivial
 have hvr2:=λi=>St.putB_ver S id2 (v2+1) .none i
 refine⟨_,J8 (id:=id) (vr:=vr) h1 ?_ ?_⟩
 ·rw[hvr2,aab hne',hv]
 ·obtain⟨cap,cs,q1,q2,q3,q4,q5,q6,q7,y,r1,r2,r3⟩:=hB
  have hlst:eW (g'.N C) (g'.N C) k2 es2 w y:=by
   rw[show y=g.rh id2 from r3.2 hv2.symm]
   rcases hB2 with⟨t1,rfl⟩|⟨cap2,cs2,t1,t2,t3,t4,t5,t6,t7⟩
   ·exact⟨none,0,0,0,by rw[t1];rfl,aA,bP,λ_=>rfl,aA,λi cs hi=>by simp at hi⟩
   ·have hd:=hR.dom _ _ t3
    refine⟨_,cap2,g.ph id2,0,t1,t4,t5,aA,λ_=>⟨rfl,hd.1,λhn=>?_⟩,λi ps hi=>?_⟩
    ·rcases hn with hn|hn
     ·have:=hR.n0 _ hn
      rcases hd.2 with q|q
      ·omega
      ·exact hR.n0l _ hn q
     grind
    ·obtain⟨u1,u2⟩:=t7 i ps hi
     refine⟨u1,λj A hj=>?_⟩
     obtain⟨y,s1,s2,s3⟩:=u2 j A hj
     exact⟨y,by rw[aaJ,ei t2];exact s1,s2,A.mono (aaf _) (λ_ _ _=>rfl) hst.n s3⟩
  refine .inr ⟨cap,cs,by simpa using q1,q2,by rw[hg',aab (by rw[q3];simpa using hne')];exact q3,by simpa using q4,q5,by rw[q6,abF],λi ps hi=>?_⟩
  rcases aaF i D.length with hlt|hge
  ·rw[aaz (by simpa using hlt),List.getElem?_map]at hi
   cases hA:D[i]? with
   | none=>rw[hA]at hi;cases hi
   | some A=>
    rw[hA]at hi;cases hi
    refine⟨rfl,λj A' hj=>?_⟩
    cases j with
    | zero=>
     simp at hj;subst hj
     obtain⟨y',s1,s2,s3⟩:=q7 i A hA
     exact⟨y',by simpa using s1,s2,A.mono (aaf _) (λ_ _ _=>rfl) hst.n s3⟩
    | succ j=>simp at hj
  ·rw[List.getElem?_append_right (by simpa using hge)]at hi
   have h0:i-(D.map (λA=>[A])).length=0:=by grind
   rw[h0]at hi
   simp at hi;subst hi
   have hiD:i=D.length:=by simp at h0;omega
   subst hiD
   refine⟨rfl,λj A' hj=>?_⟩
   cases j with
   | zero=>simp at hj;subst hj;exact⟨y,by simpa using r1,r2,hlst⟩
   | succ j=>simp at hj
theorem Q3 {x:Operand}{id vr e:Nat}{D:List PV}{c:Cnt}(hA:ed F T S)(hF:∀k∈aG x,k∈F)(hF':2*id+1∈F)(hR:RG C n T g a w)(hx:S.opd x=.row id vr)(hv:S.ver id=vr)(hb:S.blk id=.mix e D c) :
 a.eval x=g.rh id/\brep C T.ver g w id (.mix e D c):=by
 have h:=aM hA hF hR
 rw[hx]at h
 have h2:=hA.2 id hF'
 have h3:=hR.blks id
 rw[h2.1,hb]at h3
 exact⟨h.2 (by rw[h2.2,hv]),h3⟩
theorem Cw {ty e':TypeId}{x:Operand}{id vr e:Nat}{D:List PV}{c:Cnt}(hp:Pl n o t)(ho:k9 o ty x)(hT:gB P ty (.slice e'))(hx:S.opd x=.row id vr)(hv:S.ver id=vr)(hb:S.blk id=.mix e D c) :
 aB n P ops o ((2*id+1)::aG x) (iC .i64 ((D.length+1:Nat):Int)) [] S:=
 aZ hp λC T g a w hA hR=>by
  obtain⟨h1,cap,cs,q1,_⟩:=Q3 (x:=x) hA (λk h=>by simp[h]) aA hR hx hv hb
  exact⟨_,pJ ho (h1.trans q1) (wv hT.h w),rfl⟩
theorem uB {ty e':TypeId}{x ix:Operand}{id vr e i:Nat}{kk:IntKind}{z:Int}{D:List PV}{c:Cnt}(hp:Pl n o t)(ho:o.op=.indexAddr ty x ix)(hT:gB P ty (.slice e'))(hk:gC P e' 1)
 (hx:S.opd x=.row id vr) (hv:S.ver id=vr) (hb:S.blk id=.mix e D c) (hi:S.opd ix=iC kk z) (hz:z=(i:Int)) (hlt:i<D.length+1):aB n P ops o ((2*id+1)::(aG x++aG ix)) (.ept id vr 1 i 0) [] S:=
 aZ hp λC T g a w hA hR=>by
  obtain⟨h1,cap,cs,q1,_⟩:=Q3 (x:=x) hA (λk h=>by simp[h]) aA hR hx hv hb
  have h3:=bf (x:=ix) hA (λk h=>by simp[h]) hR hi
  have hvt:=(hA.2 id aA).2
  refine⟨.pointer (some ⟨g.ph id,0+i*1,none⟩),?_,⟨ae,λ_=>aA⟩⟩
  subst hz
  simp only[execOp,ho,h1,q1,h3,Sem.run_bind,j8 hT.h hk.h bP hlt];rfl
theorem Q4 {x:Operand}{id vr e i:Nat}{D:List PV}{c:Cnt}(hA:ed F T S)(hF:∀k∈aG x,k∈F)(hF':2*id+1∈F)(hR:RG C n T g a w)(hx:S.opd x=.ept id vr 1 i 0)(hv:S.ver id=vr)(hb:S.blk id=.mix e D c) :
 a.eval x=.pointer (some ⟨g.ph id,i,none⟩)/\brep C T.ver g w id (.mix e D c):=by
 have h:=aM hA hF hR
 rw[hx]at h
 have h2:=hA.2 id hF'
 have h3:=hR.blks id
 rw[h2.1,hb]at h3
 have:=h.2 (by rw[h2.2,hv])
 grind
theorem yl {ty:TypeId}{x:Operand}{id vr e i:Nat}{D:List PV}{c:Cnt}(hp:Pl n o t)(ho:o.op=.load ty x)(hT:dH P ty false)(hx:S.opd x=.ept id vr 1 i 0)(hv:S.ver id=vr)(hb:S.blk id=.mix e D c)(hi:i=D.length) :
 aB n P ops o ((2*id+1)::aG x) c [] S:=
 aZ hp λC T g a w hA hR=>by
  obtain⟨h1,cap,cs,q1,q2,q3,q4,q5,q6,q7,y,r1,r2,r3⟩:=Q4 (x:=x) hA (λk h=>by simp[h]) aA hR hx hv hb
  obtain⟨d,d1,d2⟩:=hT.h
  subst hi
  refine⟨y,?_,r3⟩
  simp only[execOp,ho,h1,Sem.run_bind,k8 (b:=g.ph id) (o:=D.length) d1 d2 (by rw[ei q2];exact r1)];rfl
theorem uC {ty:TypeId}{x y:Operand}{id vr e i id2 v2 e2 k2:Nat}{D:List PV}{c:Cnt}{es2:List (List PV)}(hp:Gi o)(ho:o.op=.store ty x y)(hk:gC P ty 1)(hx:S.opd x=.ept id vr 1 i 0)(hv:S.ver id=vr)(hb:S.blk id=.mix e D c)(hi:i=D.length)
 (hy:S.opd y=.row id2 v2) (hv2:S.ver id2=v2) (hb2:S.blk id2=.row e2 k2 es2) :
 aB n P ops o ((2*id+1)::(2*id2+1)::(aG x++aG y)) .any [(id,vr,.mix e D (.row id2 v2))] S:=by
 refine⟨?_⟩
 intro C T hA a w ⟨g,hR⟩
 obtain⟨h1,cap,cs,q1,q2,q3,q4,q5,q6,q7,yy,r1,r2,r3⟩:=Q4 (x:=x) hA (λk h=>by simp[h]) aA hR hx hv hb
 obtain⟨hy1,hy2⟩:=oH (x:=y) hA (λk h=>by simp[h]) aA hR hy hv2 hb2
 have hvt:=(hA.2 id aA).2
 have hvt2:=(hA.2 id2 aA).2
 subst hi
 have hone:(g.rh id2).oneCell'=true/\(g.rh id2).cells=#[g.rh id2]:=by rcases hy2 with⟨t1,_⟩|⟨cap2,cs2,t1,_⟩<;>rw[t1]<;>exact⟨rfl,rfl⟩
 have hlt:D.length<cs.size:=ae
 unfold jg
 rw[aae (by simp[Region.wanted,hp.1])]
 unfold Oper.wp
 have hrun:=lN (P:=P) (ty:=ty) (off:=D.length) (v:=g.rh id2) q2 (by rw[hk.h,hone.2];rfl) (by rw[hone.2];exact Nat.zero_lt_one) (by rw[hone.2];exact hlt) (by rw[hone.2];simpa using hone.1)
 have hex:(execOp a.eval o).run P w=.ok .skip (w.setRow (g.ph id) (cs.toList.take D.length++(g.rh id2).cells.toList++cs.toList.drop (D.length+(g.rh id2).cells.size)).toArray):=by simp_all[execOp]
 rw[hex,Oper.upon_skip]
 have hst:=pI (cs':=(cs.toList.take D.length++(g.rh id2).cells.toList++cs.toList.drop (D.length+(g.rh id2).cells.size)).toArray) hR rfl q2 q3
 have hver:(T.app o.dst .any [(id,vr,.mix e D (.row id2 v2))]).ver=T.ver:=by
  funext i
  rw[St.app_some_ver]
  grind
 refine⟨g,hR.app1 (c:=.any) (λt h=>by rw[hp.2]at h;cases h) (by rw[hver];exact hst) trivial ?_⟩
 rw[hver]
 have hlen:(cs.toList.take D.length).length=D.length:=bD
 refine⟨cap,_,q1,setRow_heap _ _ _ _ _ _ q2,q3,q4,q5,by rw[hone.2];simp;omega,λi A hA'=>?_,g.rh id2,?_,hone.1,⟨by rw[hvt2,hv2];exact aaf _,λ_=>rfl⟩⟩
 ·have hil:i<D.length:=(aaM.1 hA').1
  obtain⟨y',s1,s2,s3⟩:=q7 i A hA'
  refine⟨y',?_,s2,A.mono hst.sz hst.keepN hst.n s3⟩
  rw[abd,aal,aaz ae,aaW,aae hil]
  simpa using s1
 grind
end
theorem cL {n:Nat}{S:St}(id vr e:Nat)(As Bs:List PV)(hv:S.ver id=vr)(hb:S.blk id=.box e (As.map Cnt.per))(k:PW As Bs):Le n S (S.putB [(id,vr,.box e (Bs.map Cnt.per))]):=by
 rintro C a w ⟨g,hR⟩
 have h:=hR.blks id
 rw[hb]at h
 obtain⟨cs,h1,h2,h3,h4⟩:=h
 refine⟨g,J8 hR hv ⟨cs,h1,h2,by rw[h3,aad,aad,k.len],λj c hj=>?_⟩⟩
 rw[List.getElem?_map]at hj
 cases hB:Bs[j]? with
 | none=>rw[hB]at hj;cases hj
 | some B=>
  rw[hB]at hj;cases hj
  obtain⟨A,q1,q2⟩:=k.get j B hB
  obtain⟨y,r1,r2,r3⟩:=h4 j (.per A) (by rw[List.getElem?_map,q1];rfl)
  exact⟨y,r1,r2,q2 _ _ _ r3⟩
theorem Vh {n:Nat}{S:St}(id vr e k:Nat)(es es':List (List PV))(hv:S.ver id=vr)(hb:S.blk id=.row e k es)(hl:es.length=es'.length)(h:∀(i:Nat)(ps':List PV),es'[i]?=some ps'->∃ps,es[i]?=some ps/\PW ps ps'):Le n S (S.putB [(id,vr,.row e k es')]):=by
 rintro C a w ⟨g,hR⟩
 have hB:=hR.blks id
 rw[hb]at hB
 refine⟨g,J8 hR hv ?_⟩
 rcases hB with⟨q1,q2⟩|⟨cap,cs,q1,q2,q3,q4,q5,q6,q7⟩
 ·refine .inl ⟨q1,?_⟩
  rw[q2]at hl
  grind
 ·refine .inr ⟨cap,cs,by rw[<-hl];exact q1,q2,q3,ae,q5,q6,λi ps' hi=>?_⟩
  obtain⟨ps,r1,r2⟩:=h i ps' hi
  obtain⟨t1,t2⟩:=q7 i ps r1
  refine⟨by rw[<-t1,r2.len],λj B hj=>?_⟩
  obtain⟨A,u1,u2⟩:=r2.get j B hj
  obtain⟨y,z1,z2,z3⟩:=t2 j A u1
  exact⟨y,z1,z2,u2 _ _ _ z3⟩
def sV (f:List Rg):List Pc:=f.map λr=>⟨r,[]⟩
theorem Q5 (k:List Pc)(f:List Rg):m0 (k++sV f)=m3 k f:=by
 have e:sV f=f.map λr=>(⟨r,[]⟩:Pc):=rfl
 unfold m0 m3 cV
 rw[List.map_append,e,List.map_map]
 congr 2
 have:(Pc.rg∘λr=>(⟨r,[]⟩:Pc))=id:=rfl
 rw[this,List.map_id]
theorem Q6 (k:List Pc)(f:List Rg):(m3 k f).length<=1+2*(k.length+f.length):=by
 have:=lw (cV k++f) [emB]
 grind[m3,cV]
theorem Vi {k:List Pc}{f:List Rg}{m:ByteArray}(h:m∈m3 k f):m.size<=1000000000:=by have:=Cq k f m h;omega
theorem ym {k:List Pc}(hk:ez k)(f:List Rg)(s:ByteArray):dJ (lL k f s):=by
 unfold lL
 split
 ·have:=QG hk s
  exact⟨ae,ae⟩
 ·exact⟨aA,aA⟩
abbrev Zi (r:Rg):List PV:=[ai (.string r.lo),ai (.string r.hi),ai (.bool r.op),ai (.slice none 0 0)]
theorem Vj (k:List Pc)(f:List Rg)(s:ByteArray)(hk:ez k)(hf:bT f)(hfl:f.length<=1000000)(hs:s.size<=1000000000) :
 Fn prog 129 [sC s,.per (em [gd f]),.per (em [ib k])] (sE (lL k f s)):=by
 have h1:=sS f s hf ae hs
 have h2:=Wx k s hk hs
 unfold lL
 cases hh:cz f s with
 | false=>
  rw[hh]at h1
  simp only[aaL,if_false]
  refine fi func129 ntmps129 ?_
  (refine au h1 ?_;refine ah λhc=>?_)
  exact dr (dG rfl)
 | true=>
  rw[hh]at h1
  simp only[if_true]
  generalize mz k s=A at *
  refine fi func129 ntmps129 ?_
  (refine bt h1 h2 ?_;refine ah λhc=>?_)
  exact oo
theorem po (k:List Pc)(f:List Rg)(hk:ez k)(hf:bT f)(hfl:f.length<=100000)(hkl:k.length<=500000)(hof:Fn prog 126 [cU f] (pn f)) :
 Fn prog 59 [ox k,.per (gd f)] (sK (cW k f)):=by
 have h0:=hof.frz
 have h1:=ES [k,sV f] aA (by simp[sV];omega)
 have e1:[k,sV f].flatten=k++sV f:=aA
 rw[e1,Q5]at h1
 have hlE:=Q6 k f
 have h2:=EU 129 [em [gd f],em [ib k]] (lL k f) (m3 k f) ae (λs hs=>(Vj k f s hk hf ae (Vi hs)).frz.toM) (λs _=>J4 k f s) (λs _=>ym hk f s)
 rw[show re (lL k f) (m3 k f)=cW k f from rfl]at h2
 generalize cW k f=R at *
 generalize m3 k f=E at *
 clear hlE e1 hk
 refine fi func59 ntmps59 ?_
 (refine au h0 ?_)
 refine bw (bS 6 700 112 4 rfl rfl) ?_
 refine aj (X:=Nat) (λi=>i<=f.length) (λi=>aF [(2,.ptr 2 0 0),(5,.ptr 5 0 0),(6,.row 700 0),(11,.per (gd f)),(12,iC .i64 (f.length:Nat)),(13,iC .i64 (i:Nat))] [(2,.box 24 [ox k]),(5,.box 22 [.per (gd f)]),(700,.row 112 4 ((f.take i).map Zi))]) (λi=>f.length-i) 0 (aag _) ?_
 intro i hi
 by_cases hlt:i<f.length
 ·have hsn:f.take (i+1)=f.take i++[f[i]]:=by rw[List.take_succ_eq_append_getElem hlt]
  have hlk:(f.take i).length<=i:=by rw[aaK];omega
  generalize f.take i=A at *
  clear h0 h1 h2
  (refine w0 ?_;refine ah λhc=>?_)
  refine⟨i+1,hlt,ae,az (aU 700 701) (az (aU 701 700) ?_)⟩
  rw[hsn]
  exact ab
 ·rw[aaj (show f.length<=i by omega)]
  clear h0
  refine bw (Vh 700 _ 112 4 _ ((sV f).map pcP) rfl rfl (by simp[sV]) (λj ps' hj=>?_)) ?_
  ·unfold sV at hj
   rw[List.map_map,List.getElem?_map]at hj
   cases hq:f[j]? with
   | none=>rw[hq]at hj;cases hj
   | some r=>
    rw[hq]at hj;cases hj
    refine⟨Zi r,by rw[List.getElem?_map,hq];rfl,?_⟩
    (repeat (first|exact PW.nil|(refine PW.cons (by first|exact yi.refl|exact ct) ?_)))
  refine bw (iW 700 _ 112 4 rfl rfl) (bw (tZ 2 _ 24 rfl rfl rfl) (bw (tZ 5 _ 22 rfl rfl rfl) ?_))
  (repeat' (first|((first|apply aH rfl|apply cB rfl|apply aJ rfl|apply cC rfl);focus (first|((apply bn 22;(focus rfl);exact J1 ⟨rfl,rfl,rfl⟩ rfl rfl rfl))|(apply gR;(focus rfl);apply ag rfl rfl rfl rfl rfl;((apply bn 22;(focus rfl);exact J1 ⟨rfl,rfl,rfl⟩ rfl rfl rfl)))))|refine oq ?_|refine bW cI ?_|(refine dW rfl rfl ⟨λhc=>?_,λhc=>?_⟩<;>(repeat rw[aad]at hc)<;>(try exact cj hc))|((first|apply aH rfl|apply cB rfl|apply aJ rfl|apply cC rfl);focus (first|((refine Ni (h1) (hg:=?_);((repeat (first|exact GL.nil|(refine GL.cons ?_ ?_;focus (first|exact eF rfl|exact ff rfl|exact gF rfl rfl rfl|exact fg rfl|exact gG rfl|exact fa rfl))));done)))|(apply gR;(focus rfl);apply ag rfl rfl rfl rfl rfl;((refine Ni (h1) (hg:=?_);((repeat (first|exact GL.nil|(refine GL.cons ?_ ?_;focus (first|exact eF rfl|exact ff rfl|exact gF rfl rfl rfl|exact fg rfl|exact gG rfl|exact fa rfl))));done))))|((refine Ni (h2) (hg:=?_);((repeat (first|exact GL.nil|(refine GL.cons ?_ ?_;focus (first|exact eF rfl|exact ff rfl|exact gF rfl rfl rfl|exact fg rfl|exact gG rfl|exact fa rfl))));done)))|(apply gR;(focus rfl);apply ag rfl rfl rfl rfl rfl;((refine Ni (h2) (hg:=?_);((repeat (first|exact GL.nil|(refine GL.cons ?_ ?_;focus (first|exact eF rfl|exact ff rfl|exact gF rfl rfl rfl|exact fg rfl|exact gG rfl|exact fa rfl))));done))))))|((first|refine dX rfl rfl rfl ⟨λhc=>?_,λhc=>?_⟩|refine dY rfl rfl rfl ⟨λhc=>?_,λhc=>?_⟩)<;>(fail_if_success (have q:(true=true):=hc))<;>(fail_if_success (have q:(false=false):=hc))<;>(repeat rw[aad]at hc)<;>(try exact cj hc))|refine aQ rfl rfl (λhc=>?_) ?_))
  exact oo
theorem Q7 (p q:Pc)(hp:ck p.set)(hq:ck q.set)(tp:dJ p.set)(tq:dJ q.set):bZ prog 125 [pcC p,pcC q] [] (bC (decide (p=q))) []:=by
 have h1:=JF p.set q.set p.set q.set (pc p.set tp hp) (pc q.set tq hq) tp.sz
 have hEo:=O3 p.rg q.rg
 have hE:p=q↔p.rg=q.rg/\p.set=q.set:=by cases p;cases q;simp
 clear hp hq tp tq
 by_cases e1:p.rg=q.rg
 ·rw[(sc _ _).2 e1]at hEo
  by_cases e2:p.set=q.set
  ·rw[aao (hE.2 ⟨e1,e2⟩)]
   rw[aao e2]at h1
   clear hE e2 e1
   refine cp func125 ntmps125 ?_
   (refine au h1 ?_;repeat' ((first|apply aH rfl|apply aJ rfl);(focus (try apply ag rfl rfl rfl rfl rfl);first|(exact ga (us:=encRg p.rg) (vs:=encRg q.rg) ⟨rfl,rfl,rfl⟩ rfl rfl rfl (by first|exact .inl ⟨rfl,rfl⟩|exact .inr ⟨rfl,rfl⟩) Xm rfl hEo)|((apply bn 5;(focus rfl);first|exact bJ ⟨rfl,rfl,rfl⟩ rfl aS aS rfl rfl rfl rfl|exact bK ⟨rfl,rfl,rfl⟩ rfl aS aS rfl rfl rfl rfl)));refine au h1 ?_))
   (refine⟨(by first|exact .inl rfl|exact .inr rfl),dv [] rfl rfl .nil ?_⟩)
   exact cD rfl (by grind)
  ·rw[aap (λh=>e2 (hE.1 h).2)]
   rw[aap e2]at h1
   clear hE e2 e1
   refine cp func125 ntmps125 ?_
   (refine au h1 ?_;repeat' ((first|apply aH rfl|apply aJ rfl);(focus (try apply ag rfl rfl rfl rfl rfl);first|(exact ga (us:=encRg p.rg) (vs:=encRg q.rg) ⟨rfl,rfl,rfl⟩ rfl rfl rfl (by first|exact .inl ⟨rfl,rfl⟩|exact .inr ⟨rfl,rfl⟩) Xm rfl hEo)|((apply bn 5;(focus rfl);first|exact bJ ⟨rfl,rfl,rfl⟩ rfl aS aS rfl rfl rfl rfl|exact bK ⟨rfl,rfl,rfl⟩ rfl aS aS rfl rfl rfl rfl)));refine au h1 ?_))
   (refine⟨(by first|exact .inl rfl|exact .inr rfl),dv [] rfl rfl .nil ?_⟩)
   exact cD rfl (by grind)
 ·rw[aap (λh=>e1 (hE.1 h).1)]
  have he:YF p.rg q.rg=false:=by rw[<-aaB,sc];exact e1
  rw[he]at hEo
  clear hE e1 he
  refine cp func125 ntmps125 ?_
  (refine au h1 ?_;repeat' ((first|apply aH rfl|apply aJ rfl);(focus (try apply ag rfl rfl rfl rfl rfl);first|(exact ga (us:=encRg p.rg) (vs:=encRg q.rg) ⟨rfl,rfl,rfl⟩ rfl rfl rfl (by first|exact .inl ⟨rfl,rfl⟩|exact .inr ⟨rfl,rfl⟩) Xm rfl hEo)|((apply bn 5;(focus rfl);first|exact bJ ⟨rfl,rfl,rfl⟩ rfl aS aS rfl rfl rfl rfl|exact bK ⟨rfl,rfl,rfl⟩ rfl aS aS rfl rfl rfl rfl)));refine au h1 ?_))
  (refine⟨(by first|exact .inl rfl|exact .inr rfl),dv [] rfl rfl .nil ?_⟩)
  exact cD rfl (by grind)
abbrev Zj:Cnt:=.per (ai (.func (.func 125) #[] #[]))
theorem Iq (l m:List Pc)(hl:fe l)(hm:fe m)(ol:∀p∈l,ck p.set)(om:∀p∈m,ck p.set):Fn prog 123 [dN l,dN m,Zj] (dE (decide (l=m))):=by
 have hl0:=hl.1
 refine fi func123 ntmps123 ?_
 (refine w0 ?_;repeat' first|apply aw|refine ah λhc=>?_)
 ·refine dr ?_
  exact aP rfl (by grind)
 have hlm:l.length=m.length:=ae
 refine aj (λk=>k<=l.length/\l.take k=m.take k) (λk=>aF [(1,dN m),(2,Zj),(15,dN l),(16,iC .i64 (l.length:Nat)),(17,iC .i64 (k:Nat))] []) (λk=>l.length-k) 0 ⟨aag _,rfl⟩ ?_
 rintro k ⟨hk,hpre⟩
 by_cases hlt:k<l.length
 ·have hltm:k<m.length:=ae
  have c1:=Q7 l[k] m[k] (ol _ (aar hlt)) (om _ (aar hltm)) (hl.at hlt) (hm.at hltm)
  clear ol om hl hm
  by_cases he:l[k]=m[k]
  ·rw[aao he]at c1
   (refine w0 ?_;repeat' first|apply aw|refine ah λhc=>?_|((first|apply aH rfl|apply aJ rfl);(focus (try apply ag rfl rfl rfl rfl rfl);(exact OA [] c1));refine w0 ?_))
   refine⟨k+1,⟨ae,?_⟩,ae,?_⟩
   ·rw[bp l k hlt,bp m k hltm,hpre,he]
   ·exact ab
  ·rw[aap he]at c1
   have hd:¬l=m:=λh=>he (by subst h;rfl)
   rw[aap hd]
   clear hd he
   (refine w0 ?_;repeat' first|apply aw|refine ah λhc=>?_|((first|apply aH rfl|apply aJ rfl);(focus (try apply ag rfl rfl rfl rfl rfl);(exact OA [] c1));refine w0 ?_))
   exact dz
 ·rw[aaj ae,aaj ae]at hpre
  rw[aao hpre]
  clear hpre ol om hl hm
  (refine w0 ?_;refine ah λhc=>?_)
  exact dz
theorem yn {k:List Pc}(h:aY k):∀p∈k,ck p.set:=λp hp=>by
 obtain⟨i,hi,rfl⟩:=List.getElem_of_mem hp
 exact(h i hi hi).2.2.1
theorem Q8 (a b:List Pc)(ha:fe a)(hb:fe b)(oa:aY a)(ob:aY b):Fn prog 58 [ox a,ox b] (dE (decide (a=b))):=by
 have h1:=xZ a oa ha
 have h2:=xZ b ob hb
 have h3:=Iq a b ha hb (yn oa) (yn ob)
 clear ha hb oa ob
 refine fi func58 ntmps58 ?_
 (refine kd h3 h1 h2 ?_)
 exact dz
