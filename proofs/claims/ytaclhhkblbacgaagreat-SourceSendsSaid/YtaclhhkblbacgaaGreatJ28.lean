/- Texts joined: Rcm Rset StH OpenIt. -/
import Derived.Test.YtaclhhkblbacgaaGreatJ27
import Derived.ProofKit
import Derived.OpenShut
import Derived.ShutString
import Derived.ChangeOld
import Derived.Deep.Slices
set_option maxRecDepth 10000
set_option maxHeartbeats 8000000
namespace Go.Proofs.YtaclhhkblbacgaaGreat
open Go.RowKit Go.Proofs.Tryz
theorem I8 (f:Int→Bool){E:List Int}{i:Nat}(h:i+1<E.length):jX f (E.drop i)=(if f E[i]then [⟨E[i],E[i+1]-1⟩]else [])++jX f (E.drop (i+1)):=by
 rw[List.drop_eq_getElem_cons (show i<E.length by omega),List.drop_eq_getElem_cons h,jX]
theorem Nw (f:Int→Bool){E:List Int}{i:Nat}(h:¬i+1<E.length):jX f (E.drop i)=[]:=by
 by_cases c:i<E.length
 ·rw[List.drop_eq_getElem_cons c,Wv ab];rfl
 ·rw[Wv ab];rfl
def Uk (x y:Bool):Bool:=x||y
theorem E9 (a b:List Rn)(ha:a.length≤100000000)(hb:b.length≤100000000) :
 Fn prog 214 [iC .i64 1,gQ a,gQ b] (Gx (Qm (zv Uk a b) a b)):=by
 have hE:=E8 a b ha hb
 have hup:MG (f0 (f0 [] a) b):=tG _ _ (tG _ _ XF)
 have hrg:∀m∈f0 (f0 [] a) b,1≤m∧m≤1099511627777:=fun m hm=>Gz hm
 have hln:=qC b (f0 [] a)
 have hln2:=qC a []
 simp only[List.length_nil,WF]at hln2
 have hbE:(f0 (f0 [] a) b).length≤400000000:=ab
 clear hln hln2
 unfold Qm
 have hf:∀n,zv Uk a b n=Uk (dR a n) (dR b n):=fun _=>rfl
 generalize zv Uk a b=f at *
 generalize f0 (f0 [] a) b=E at *
 generalize hR:lx (jX f E)=R
 refine fi func214 ntmps214 ?_
 (refine aq hE ?_)
 clear hE
 refine bQ (bU 8 700 144 2 rfl rfl) ?_
 refine aj (X:=Nat×List Rn) (fun x=>x.1≤E.length∧x.2.length≤x.1∧((x.2=[]∧lx (jX f (E.drop x.1))=R)∨∃o y,x.2=o++[y]∧jk y=true∧(∀h:x.1<E.length,y.to+1≤E[x.1])∧o++Co y (jX f (E.drop x.1))=R))
  (fun x=>ay [(0,iC .i64 1),(1,gQ a),(2,gQ b),(7,CM E),(8,.row 700 0),(9,iC .i64 ((x.1:Nat):Int))] [(700,MD x.2)]) (fun x=>E.length-x.1) (0,[]) ⟨Wa _,V8 _,.inl ⟨rfl,by simpa using hR⟩⟩ ?_
 rintro⟨i,out⟩ ⟨g1,g0,g2⟩
 simp only at g1 g0 g2 ⊢
 clear hR
 by_cases hk:i+1<E.length
 ·have hi:i<E.length:=ab
  have b1:=hrg _ (Wk hi)
  have b2:=hrg _ (Wk hk)
  have b3:=List.pairwise_iff_getElem.1 hup i (i+1) hi hk ab
  have hst:=I8 f hk
  rw[hf]at hst
  have c1:=vH a E[i] ab
  have c2:=vH b E[i] ab
  clear hrg hup hf
  have hnr:jk ⟨E[i],E[i+1]-1⟩=true:=(cD _).2 aA
  have hnt:∀h:i+1<E.length,(⟨E[i],E[i+1]-1⟩:Rn).to+1≤E[i+1]:=fun _=>aA
  generalize jX f (E.drop i)=T0 at *
  generalize dR a E[i]=x at *
  generalize dR b E[i]=y at *
  obtain⟨K,hK⟩:∃K,K=Uk x y:=⟨_,rfl⟩
  rw[←hK]at hst
  cases x<;>cases y<;>first
   | (have hK2:K=false:=hK
      subst hK2
      rw[V3 Bool.false_ne_true,Wu]at hst
      subst hst
      have g2':(out=[]∧lx (jX f (E.drop (i+1)))=R)∨∃o y,out=o++[y]∧jk y=true∧(∀h:i+1<E.length,y.to+1≤E[i+1])∧o++Co y (jX f (E.drop (i+1)))=R:=by
       rcases g2 with g2|⟨o,y,h1,h2,h3,h4⟩
       ·exact .inl g2
       ·exact .inr ⟨o,y,h1,h2,fun h=>by have:=h3 hi;omega,h4⟩
      clear g2 hK
      (refine kx (show((i:Nat):Int)+1=((i+1:Nat):Int)by omega) c1 c2 ?_;repeat' first|apply ah|refine ai fun hc=>?_)
      refine⟨(i+1,out),⟨aA,aA,g2'⟩,aA,?_⟩
      exact ae)
   | (have hK2:K=true:=hK
      subst hK2
      rw[V6 rfl]at hst
      subst hst
      clear hK
      rcases g2 with⟨ho,hm⟩|⟨o,z,ho,hz,hb,hm⟩
      ·subst ho
       (refine kx (show((i:Nat):Int)+1=((i+1:Nat):Int)by omega) c1 c2 ?_;repeat' first|apply ah|refine ai fun hc=>?_)
       refine⟨(i+1,[⟨E[i],E[i+1]-1⟩]),⟨aA,au,.inr ⟨[],_,rfl,hnr,hnt,hm⟩⟩,aA,av (aN 700 701) (av (aN 701 700) ?_)⟩
       exact ae
      ·subst ho
       have hzi:=(cD z).1 hz
       have hbz:=hb hi
       rw[show([(⟨E[i],E[i+1]-1⟩:Rn)]++jX f (E.drop (i+1)))=(⟨E[i],E[i+1]-1⟩:Rn)::jX f (E.drop (i+1))from rfl,Co]at hm
       simp only at hm
       have hL1:(o++[z]).length=o.length+1:=au
       have hM:max z.to (E[i+1]-1)=E[i+1]-1:=ab
       have hmr:jk ⟨z.fr,E[i+1]-1⟩=true:=(cD _).2 aA
       rw[hM]at hm
       generalize hL:o++[z]=L at *
       have hLi:((L.length:Int)-1).toNat=o.length:=ab
       have HY:(L.map rnP)[((L.length:Int)-1).toNat]?=some (rnP z):=by
        rw[List.getElem?_map,hLi,←hL]
        simp
       have HS1:(L.map rnP).set ((L.length:Int)-1).toNat (cH (rnP z) 1 [ak (.int .i64 (E[i+1]-1))])=(o++[(⟨z.fr,E[i+1]-1⟩:Rn)]).map rnP:=by
        rw[show(L.map rnP).set ((L.length:Int)-1).toNat (cH (rnP z) 1 [ak (.int .i64 (E[i+1]-1))])=(L.set ((L.length:Int)-1).toNat ⟨z.fr,E[i+1]-1⟩).map rnP from ia rnP L _ (⟨z.fr,E[i+1]-1⟩:Rn),←hL,jC o z _ [] _ (by rw[hL];omega)]
       have hML:(o++[(⟨z.fr,E[i+1]-1⟩:Rn)]).length=L.length:=by rw[←hL];simp
       by_cases c:z.to=E[i]-1
       ·rw[V6 ab]at hm
        (refine kx (show((i:Nat):Int)+1=((i+1:Nat):Int)by omega) c1 c2 ?_;repeat' first|apply ah|refine ai fun hc=>?_|((first|apply aB rfl|apply aC rfl|apply aD rfl|apply aF rfl);(focus ((try (apply bI;(focus rfl);apply ag rfl rfl rfl rfl rfl));first|((apply aZ 5;(focus rfl);exact bR ⟨rfl,rfl,rfl⟩ rfl inferInstance rfl rfl rfl HY rfl))|((apply aZ 6;(focus rfl);exact aM ⟨rfl,rfl⟩ rfl inferInstance rfl rfl rfl rfl HY rfl (aY rfl rfl rfl) rfl HS1))));refine kx (show((i:Nat):Int)+1=((i+1:Nat):Int)by omega) c1 c2 ?_))
        refine⟨(i+1,_),⟨aA,aA,.inr ⟨o,_,rfl,hmr,fun _=>aA,hm⟩⟩,aA,?_⟩
        exact ae
       ·rw[V3 ab]at hm
        (refine kx (show((i:Nat):Int)+1=((i+1:Nat):Int)by omega) c1 c2 ?_;repeat' first|apply ah|refine ai fun hc=>?_|((first|apply aB rfl|apply aC rfl|apply aD rfl|apply aF rfl);(focus ((try (apply bI;(focus rfl);apply ag rfl rfl rfl rfl rfl));first|((apply aZ 5;(focus rfl);exact bR ⟨rfl,rfl,rfl⟩ rfl inferInstance rfl rfl rfl HY rfl))));refine kx (show((i:Nat):Int)+1=((i+1:Nat):Int)by omega) c1 c2 ?_))
        refine⟨(i+1,L++[⟨E[i],E[i+1]-1⟩]),⟨aA,bn,.inr ⟨L,_,rfl,hnr,hnt,by simp only;rw[←hL,V9];exact hm⟩⟩,aA,av (aN 700 701) (av (aN 701 700) ?_)⟩
        exact ae)
 ·have g3:out=R:=by
   rw[Nw f hk]at g2
   rcases g2 with⟨a,b⟩|⟨o,y,a,_,_,b⟩
   ·rw[a,←b];rfl
   ·rw[a,←b];rfl
  clear g2 hup hrg hf
  (refine w0 ?_;repeat' first|apply ah|refine ai fun hc=>?_)
  refine dw ?_
  exact cJ rfl rfl rfl g3
theorem sK (s:List Kn)(r i:Nat)(h:i<s.length):bh (s.take (i+1)) r=bh (s.take i) r++(if s[i].rep=(r:Int)+1 then s[i].runs else []):=by
 rw[List.take_succ_eq_append_getElem h,mO]
theorem zQ (g:List (List Rn))(z:Nat)(h:z<g.length):bx id z (g.drop z)=(if g[z].length=0 then []else [⟨(z:Int)+1,g[z]⟩])++bx id (z+1) (g.drop (z+1)):=by
 rw[List.drop_eq_getElem_cons h];rfl
theorem vI (s:List Kn)(r:Nat)(hs:dx s):Fn prog 144 [fd s,iC .i64 ((r:Int)+1)] (Gx (bh s r)):=by
 have hl0:=hs.1
 have htot:=hs.2
 refine fi func144 ntmps144 ?_
 (refine w0 ?_)
 refine bQ (bU 5 700 144 2 rfl rfl) ?_
 refine aj (X:=Nat) (fun z=>z≤s.length)
  (fun z=>ay [(0,fd s),(1,iC .i64 ((r:Int)+1)),(5,.row 700 0),(6,iC .i64 ((z:Nat):Int))] [(700,MD (bh (s.take z) r))]) (fun z=>s.length-z) 0 (Wa _) ?_
 intro z hz
 by_cases hlt:z<s.length
 ·have hsn:=sK s r z hlt
  have h1:=uQ s z r
  have h2:=iG s r
  have h3:=hs.sz.at hlt
  by_cases c:s[z].rep=(r:Int)+1
  ·rw[V6 c]at hsn
   generalize bh (s.take z) r=A at *
   clear hs
   (refine w0 ?_;repeat' first|apply ah|refine ai fun hc=>?_)
   refine⟨z+1,hlt,ab,av (aN 700 701) (av (aN 701 700) ?_)⟩
   rw[hsn]
   exact ae
  ·rw[V3 c,Wg]at hsn
   generalize bh (s.take z) r=A at *
   clear hs
   (refine w0 ?_;repeat' first|apply ah|refine ai fun hc=>?_)
   refine⟨z+1,hlt,ab,?_⟩
   rw[hsn]
   exact ae
 ·rw[Wd (show s.length≤z by omega)]
  generalize bh s r=A at *
  (refine w0 ?_;repeat' first|apply ah|refine ai fun hc=>?_)
  exact nx
theorem Nx (op:Int)(g:List Rn→List Rn→List Rn)(a b:List Kn)(ha:dx a)(hb:dx b)(hM:∀r,r<16→Fn prog 214 [iC .i64 op,gQ (bh a r),gQ (bh b r)] (Gx (g (bh a r) (bh b r)))) :
 Fn prog 142 [iC .i64 op,fd a,fd b] (qG (sH g a b)):=by
 have hZ:(List.zipWith g (cS a) (cS b)).length=16:=by rw[List.length_zipWith,bW,bW];rfl
 have hZg:∀r (h:r<16),(List.zipWith g (cS a) (cS b))[r]?=some (g (bh a r) (bh b r)):=fun r h=>by
  rw[List.getElem?_zipWith,cG _ h,cG _ h]
 generalize hQ:sH g a b=Q
 unfold sH at hQ
 generalize List.zipWith g (cS a) (cS b)=Z at *
 refine fi func142 ntmps142 ?_
 (refine w0 ?_)
 refine bQ (bU 7 700 142 2 rfl rfl) ?_
 refine aj (X:=Nat×List Kn) (fun z=>z.1≤16∧z.2.length≤z.1∧z.2++bx id z.1 (Z.drop z.1)=Q)
  (fun z=>ay [(0,iC .i64 op),(1,fd a),(2,fd b),(7,.row 700 0),(8,iC .i64 (((z.1:Nat):Int)+1))] [(700,.row 142 2 (z.2.map zh))]) (fun z=>16-z.1) (0,[]) ⟨Wa _,V8 _,by simpa using hQ⟩ ?_
 rintro⟨z,acc⟩ ⟨h1,h2,h3⟩
 simp only at h1 h2 h3 ⊢
 clear hQ
 by_cases hz:z<16
 ·have r1:=vI a z ha
  have r2:=vI b z hb
  have m:=(hM z hz).frz
  have hg:=hZg z hz
  obtain⟨q1,q2⟩:=Ws.1 hg
  rw[zQ Z z q1,q2]at h3
  generalize bh a z=ta at *
  generalize bh b z=tb at *
  generalize g ta tb=L at *
  clear hZg hM ha hb hg
  by_cases hL:L.length=0
  ·rw[V6 hL,Wu]at h3
   (refine jP m r1 r2 ?_;repeat' first|apply ah|refine ai fun hc=>?_)
   refine⟨(z+1,acc),⟨aA,aA,h3⟩,aA,?_⟩
   exact ae
  ·rw[V3 hL]at h3
   (refine jP m r1 r2 ?_;repeat' first|apply ah|refine ai fun hc=>?_)
   refine⟨(z+1,acc++[⟨(z:Int)+1,L⟩]),⟨aA,bn,by simp only;rw[V9];exact h3⟩,aA,av (aN 700 701) (av (aN 701 700) ?_)⟩
   exact ae
 ·have h3':acc=Q:=by rw[←h3,Wv ab];simp[bx]
  clear hZg hM h3
  (refine w0 ?_;repeat' first|apply ah|refine ai fun hc=>?_)
  refine dw ?_
  exact cJ rfl rfl rfl h3'
theorem mf (a b:List Rn)(n:Int):dR (a++b) n=(dR a n||dR b n):=by unfold dR;rw[List.any_append]
theorem Fa {l:List Rn}{k:Nat}(h:k<l.length)(n:Int):dR (l.take (k+1)) n=(dR (l.take k) n||(jk l[k]&&(decide (l[k].fr≤n)&&decide (n≤l[k].to)))):=by
 rw[bc l k h,mf];simp[dR]
theorem Fb {l:List Rn}{k:Nat}{n:Int}(h:dR (l.take k) n=true):dR l n=true:=by
 rw[←WL k l,mf,h];rfl
theorem Fc (a b:List Kn)(r:Nat):bh (a++b) r=bh a r++bh b r:=by unfold bh;rw[List.flatMap_append]
theorem QO (l:List Rn)(n:Int)(hl:l.length≤1000000000):Fn prog 234 [gQ l,iC .i64 n] (dq (dR l n)):=by
 refine fi func234 ntmps234 ?_
 (refine w0 ?_)
 refine aj (X:=Nat) (fun k=>k≤l.length∧dR (l.take k) n=false) (fun k=>ay [(1,iC .i64 n),(7,gQ l),(8,iC .i64 (l.length:Nat)),(9,iC .i64 (k:Nat))] []) (fun k=>l.length-k) 0 ⟨Wa _,rfl⟩ ?_
 rintro k ⟨h1,h2⟩
 by_cases hk:k<l.length
 ·have a1:=zj l[k]
  have hs:=Fa hk n
  rw[h2,Xo]at hs
  cases hr:jk l[k]with
  | false=>
   rw[hr]at a1 hs
   rw[WV]at hs
   (refine aq a1 ?_;repeat' first|apply ah|refine ai fun hc=>?_)
   refine⟨k+1,⟨ab,hs⟩,ab,?_⟩
   exact ae
  | true=>
   rw[hr]at a1 hs
   rw[WP]at hs
   by_cases c:l[k].fr≤n∧n≤l[k].to
   ·have ht:dR l n=true:=Fb (by rw[hs,Wb c.1,Wb c.2];rfl)
    rw[ht]
    clear hs h2
    (refine aq a1 ?_;repeat' first|apply ah|refine ai fun hc=>?_)
    exact dp
   ·have hs:dR (l.take (k+1)) n=false:=by
     rw[hs,←Wy,Wi,Wn,Wn];exact c
    clear h2
    (refine aq a1 ?_;repeat' first|apply ah|refine ai fun hc=>?_)
    all_goals
     refine⟨k+1,⟨ab,hs⟩,ab,?_⟩
     exact ae
 ·rw[Wd ab]at h2
  rw[h2]
  (refine w0 ?_;repeat' first|apply ah|refine ai fun hc=>?_)
  exact dp
theorem Ny (s:List Kn)(r c:Int)(hs:dx s):Fn prog 163 [fd s,sD r c] (dq (iI s r c)):=by
 have hl0:=hs.1
 have a1:=oB r c
 unfold iI
 cases hv:gm r c with
 | false=>
  rw[hv]at a1
  rw[WV]
  clear hs
  refine fi func163 ntmps163 ?_
  (refine aq a1 ?_;repeat' first|apply ah|refine ai fun hc=>?_)
  exact dp
 | true=>
  rw[hv]at a1
  rw[WP]
  have hr1:1≤r:=by unfold gm at hv;simp at hv;omega
  obtain⟨q,hq⟩:∃q:Nat,r=(q:Int)+1:=⟨(r-1).toNat,ab⟩
  have hq2:(r-1).toNat=q:=ab
  rw[hq2]
  clear hv
  refine fi func163 ntmps163 ?_
  (refine aq a1 ?_;repeat' first|apply ah|refine ai fun hc=>?_)
  refine aj (X:=Nat) (fun k=>k≤s.length∧dR (bh (s.take k) q) c=false) (fun k=>ay [(3,.ptr 3 0 0),(10,fd s),(11,iC .i64 (s.length:Nat)),(12,iC .i64 (k:Nat))] [(3,.box 80 [iC .i64 r,iC .i64 c])]) (fun k=>s.length-k) 0 ⟨Wa _,rfl⟩ ?_
  rintro k ⟨h1,h2⟩
  by_cases hk:k<s.length
  ·have hz:=hs.sz.at hk
   have a2:=QO s[k].runs c ab
   have hsn:=sK s q k hk
   by_cases e:s[k].rep=r
   ·rw[V6 ab]at hsn
    cases hh:dR s[k].runs c with
    | true=>
     rw[hh]at a2
     have ht:dR (bh s q) c=true:=by
      rw[←WL (k+1) s,Fc,mf,hsn,mf,hh];simp
     rw[ht]
     clear hsn h2 hs hq a1
     (refine aq a2 ?_;repeat' first|apply ah|refine ai fun hc=>?_)
     exact dp
    | false=>
     rw[hh]at a2
     have h2:dR (bh (s.take (k+1)) q) c=false:=by rw[hsn,mf,h2,hh];rfl
     clear hsn hs hq a1
     (refine aq a2 ?_;repeat' first|apply ah|refine ai fun hc=>?_)
     refine⟨k+1,⟨ab,h2⟩,ab,?_⟩
     exact ae
   ·rw[V3 ab,Wg]at hsn
    have h2:dR (bh (s.take (k+1)) q) c=false:=by rw[hsn];exact h2
    clear hsn hs hq a1 a2
    (refine w0 ?_;repeat' first|apply ah|refine ai fun hc=>?_)
    refine⟨k+1,⟨ab,h2⟩,ab,?_⟩
    exact ae
  ·rw[Wd ab]at h2
   rw[h2]
   clear hs hq a1
   (refine w0 ?_;repeat' first|apply ah|refine ai fun hc=>?_)
   exact dp
theorem zR (k:List Pc)(s:ByteArray)(r c:Int)(hk:fe k)(hs:s.size≤1000000000):Fn prog 88 [dC k,sC s,sD r c] (dq (cp k s r c)):=by
 have hl0:=hk.1
 refine fi func88 ntmps88 ?_
 (refine w0 ?_)
 refine aj (X:=Nat) (fun i=>i≤k.length∧cp (k.take i) s r c=false) (fun i=>ay [(1,sC s),(5,.ptr 5 0 0),(9,dC k),(10,iC .i64 (k.length:Nat)),(11,iC .i64 (i:Nat))] [(5,.box 80 [iC .i64 r,iC .i64 c])]) (fun i=>k.length-i) 0 ⟨Wa _,rfl⟩ ?_
 rintro i ⟨h1,h2⟩
 by_cases hi:i<k.length
 ·have a1:=qM k[i].rg s hs
  have a2:=Ny k[i].set r c (hk.at hi)
  have hsn:cp (k.take (i+1)) s r c=(cO k[i].rg s&&iI k[i].set r c):=by
   unfold cp at h2 ⊢
   rw[bc k i hi,List.any_append,h2];simp
  cases hr:cO k[i].rg s with
  | false=>
   rw[hr]at a1 hsn
   rw[WV]at hsn
   clear hk h2
   (refine bg a1 a2 ?_;repeat' first|apply ah|refine ai fun hc=>?_)
   refine⟨i+1,⟨ab,hsn⟩,ab,?_⟩
   exact ae
  | true=>
   rw[hr]at a1 hsn
   rw[WP]at hsn
   cases hh:iI k[i].set r c with
   | false=>
    rw[hh]at a2 hsn
    clear hk h2
    (refine bg a1 a2 ?_;repeat' first|apply ah|refine ai fun hc=>?_)
    refine⟨i+1,⟨ab,hsn⟩,ab,?_⟩
    exact ae
   | true=>
    rw[hh]at a2 hsn
    have ht:cp k s r c=true:=by
     unfold cp at hsn ⊢
     rw[←WL (i+1) k,List.any_append,hsn];rfl
    rw[ht]
    clear hk h2 hsn
    (refine bg a1 a2 ?_;repeat' first|apply ah|refine ai fun hc=>?_)
    exact dp
 ·rw[Wd ab]at h2
  rw[h2]
  clear hk
  (refine w0 ?_;repeat' first|apply ah|refine ai fun hc=>?_)
  exact dp
theorem QP (s:List Kn)(r c:Int)(hs:dx s):Fn prog 78 [fd s,sD r c] (dq (iI s r c)):=by
 have a1:=pG r c
 unfold iI
 cases hv:gm r c with
 | false=>
  rw[hv]at a1
  rw[WV]
  clear hs
  refine fi func78 ntmps78 ?_
  (refine aq a1 ?_)
  exact dp
 | true=>
  rw[hv]at a1
  rw[WP]
  have hr1:1≤r:=by unfold gm at hv;simp at hv;omega
  obtain⟨q,rfl⟩:∃q:Nat,r=(q:Int)+1:=⟨(r-1).toNat,ab⟩
  have hq2:((q:Int)+1-1).toNat=q:=ab
  rw[hq2]
  have a2:=vI s q hs
  have hz:=iG s q
  have a3:=vH (bh s q) c (by have:=hs.2;omega)
  clear hs hv hz
  generalize bh s q=T at *
  refine fi func78 ntmps78 ?_
  (refine fO a1 a2 a3 ?_)
  exact dp
theorem GV (k:List Pc)(s:ByteArray)(r c:Int)(hk:fe k)(hs:s.size≤1000000000):Fn prog 33 [dC k,sC s,sD r c] (dq (cp k s r c)):=by
 have hl0:=hk.1
 refine fi func33 ntmps33 ?_
 (refine w0 ?_)
 refine aj (X:=Nat) (fun i=>i≤k.length∧cp (k.take i) s r c=false) (fun i=>ay [(0,dC k),(1,sC s),(5,.ptr 5 0 0),(7,iC .i64 (i:Nat))] [(5,.box 80 [iC .i64 r,iC .i64 c])]) (fun i=>k.length-i) 0 ⟨Wa _,rfl⟩ ?_
 rintro i ⟨h1,h2⟩
 by_cases hi:i<k.length
 ·have a1:=rX k[i].rg s hs
  have a2:=QP k[i].set r c (hk.at hi)
  have hsn:cp (k.take (i+1)) s r c=(cO k[i].rg s&&iI k[i].set r c):=by
   unfold cp at h2 ⊢
   rw[bc k i hi,List.any_append,h2];simp
  cases hr:cO k[i].rg s with
  | false=>
   rw[hr]at a1 hsn
   rw[WV]at hsn
   clear hk h2
   (refine bg a1 a2 ?_;repeat' first|apply ah|refine ai fun hc=>?_|((first|apply aB rfl|apply aC rfl|apply aD rfl|apply aF rfl);(focus ((try (apply bI;(focus rfl);apply ag rfl rfl rfl rfl rfl));first|((apply aZ 5;(focus rfl);first|exact bO ⟨rfl,rfl,rfl⟩ rfl inferInstance inferInstance rfl rfl rfl rfl|exact bP ⟨rfl,rfl,rfl⟩ rfl inferInstance inferInstance rfl rfl rfl rfl))));refine bg a1 a2 ?_))
   refine⟨i+1,⟨ab,hsn⟩,ab,?_⟩
   exact ae
  | true=>
   rw[hr]at a1 hsn
   rw[WP]at hsn
   cases hh:iI k[i].set r c with
   | false=>
    rw[hh]at a2 hsn
    clear hk h2
    (refine bg a1 a2 ?_;repeat' first|apply ah|refine ai fun hc=>?_|((first|apply aB rfl|apply aC rfl|apply aD rfl|apply aF rfl);(focus ((try (apply bI;(focus rfl);apply ag rfl rfl rfl rfl rfl));first|((apply aZ 5;(focus rfl);first|exact bO ⟨rfl,rfl,rfl⟩ rfl inferInstance inferInstance rfl rfl rfl rfl|exact bP ⟨rfl,rfl,rfl⟩ rfl inferInstance inferInstance rfl rfl rfl rfl))));refine bg a1 a2 ?_))
    refine⟨i+1,⟨ab,hsn⟩,ab,?_⟩
    exact ae
   | true=>
    rw[hh]at a2 hsn
    have ht:cp k s r c=true:=by
     unfold cp at hsn ⊢
     rw[←WL (i+1) k,List.any_append,hsn];rfl
    rw[ht]
    clear hk h2 hsn
    (refine bg a1 a2 ?_;repeat' first|apply ah|refine ai fun hc=>?_|((first|apply aB rfl|apply aC rfl|apply aD rfl|apply aF rfl);(focus ((try (apply bI;(focus rfl);apply ag rfl rfl rfl rfl rfl));first|((apply aZ 5;(focus rfl);first|exact bO ⟨rfl,rfl,rfl⟩ rfl inferInstance inferInstance rfl rfl rfl rfl|exact bP ⟨rfl,rfl,rfl⟩ rfl inferInstance inferInstance rfl rfl rfl rfl))));refine bg a1 a2 ?_))
    exact dp
 ·rw[Wd ab]at h2
  rw[h2]
  clear hk
  (refine w0 ?_;repeat' first|apply ah|refine ai fun hc=>?_)
  exact dp
theorem CO (l:List Rg)(s:ByteArray)(hok:cb l)(hl:l.length≤1000000000)(hs:s.size≤1000000000):Fn prog 87 [.per (fW l),sC s] (dq (cQ l s)):=by
 have h0:=jv l hl true (by simp[hok])
 have h1:Fn prog 160 [.per (fW l)] (.per (fW l)):=by
  refine fi func160 ntmps160 ?_
  (refine aq h0 ?_;repeat' first|apply ah|refine ai fun hc=>?_)
  exact OZ
 obtain⟨p,hp,hlt⟩:=GB hok s
 have h2:=CL l s hs hl p hp hlt
 have hA:=MT hok hlt
 rw[hA]
 clear hA hlt hok h0
 by_cases hn:p<l.length
 ·have h3:=qM l[p] s hs
  rw[V4 hn]
  simp only
  refine fi func87 ntmps87 ?_
  (refine fO h1 h2 h3 ?_;repeat' first|apply ah|refine ai fun hc=>?_)
  exact dp
 ·rw[Wq ab]
  simp only
  refine fi func87 ntmps87 ?_
  (refine bg h1 h2 ?_;repeat' first|apply ah|refine ai fun hc=>?_)
  exact dp
end Go.Proofs.YtaclhhkblbacgaaGreat
namespace Go.Proofs.YtaclhhkblbacgaaGreat
open Go.RowKit Go.Deep Go.ChangeShapes Go.WideShapes Go.Proofs.Tryz
def Rd (P:Program)(w:World)(t:TypeId)(Q:List Value→Prop):Prop:=
 ∀(H:Type)(enc:TypeId×Value→H)(spare:Nat→Bool)(held:Bool)(fuel:Nat)(cs:List Value)(x:DataW H×List MemPlace),DataW.trod enc P w 0 spare held fuel t cs=some x→Q cs
section
variable {P:Program} {w:World} {t:TypeId}
theorem Rd.mono {Q Q':List Value→Prop}(h:Rd P w t Q)(hq:∀cs,Q cs→Q' cs):Rd P w t Q':=fun H enc sp hd f cs x hx=>hq _ (h H enc sp hd f cs x hx)
theorem Rd.int {k:IntKind}(ht:P.underlying t=some (.int k)):Rd P w t (fun cs=>∃n,cs=[.int k n]∧(Lit.int k n).wf=true):=by
 intro H enc sp hd f cs x hx
 obtain⟨n,h1,_,h2⟩:=DataW.trod_int ht hx
 exact⟨n,h1,h2⟩
theorem Rd.bool (ht:P.underlying t=some .bool):Rd P w t (fun cs=>∃b,cs=[.bool b]):=by
 intro H enc sp hd f cs x hx
 obtain⟨n,h1,_⟩:=DataW.trod_bool ht hx
 exact⟨n,h1⟩
theorem Rd.string (ht:P.underlying t=some .string):Rd P w t (fun cs=>∃s,cs=[.string s]∧s.size≤maxLen):=by
 intro H enc sp hd f cs x hx
 obtain⟨n,h1,_,h2⟩:=DataW.trod_string ht hx
 exact⟨n,h1,h2⟩
theorem Rd.struct {fs:Array Field}(ht:P.underlying t=some (.struct fs)) :
 Rd P w t (fun cs=>cs.length=P.cellsOf t∧∀(i:Nat)(f:Field),fs[i]?=some f→∀Q,Rd P w f.type Q→Q ((cs.drop f.offset).take (P.cellsOf f.type))):=by
 intro H enc sp hd f cs x hx
 obtain⟨xs,n,_,_,hl,hs,hall⟩:=DataW.trod_struct ht hx
 refine⟨hl,fun i f hf Q hQ=>?_⟩
 have hi:i<fs.size:=by
  rcases Wm i fs.size with h|h
  ·exact h
  ·rw[Array.getElem?_eq_none h]at hf;cases hf
 have:=hall i f hf
 rw[V4 ab]at this
 exact hQ _ _ _ _ _ _ _ this
theorem Rd.struct' {fs:Array Field}(ht:P.underlying t=some (.struct fs)) :
 Rd P w t (fun cs=>cs.length=P.cellsOf t∧∀(i off:Nat)(ty:TypeId)(sz:Nat)(Q:List Value→Prop),(fs[i]?).map (fun f=>(f.offset,f.type))=some (off,ty)→P.cellsOf ty=sz→Rd P w ty Q→Q ((cs.drop off).take sz)):=by
 refine(Rd.struct ht).mono ?_
 rintro cs ⟨h1,h2⟩
 refine⟨h1,fun i off ty sz Q hi hsz hQ=>?_⟩
 cases hf:fs[i]? with
 | none=>rw[hf]at hi;cases hi
 | some f=>
  rw[hf]at hi
  simp at hi
  obtain⟨rfl,rfl⟩:=hi
  subst hsz
  exact h2 i f hf Q hQ
theorem Rd.array {n:Nat}{e:TypeId}(ht:P.underlying t=some (.array n e)){Q:List Value→Prop}(hQ:Rd P w e Q) :
 Rd P w t (fun cs=>cs.length=P.cellsOf t∧∀i,i<n→Q ((cs.drop (i*P.cellsOf e)).take (P.cellsOf e))):=by
 intro H enc sp hd f cs x hx
 obtain⟨xs,m,_,_,hl,hs,hall⟩:=DataW.trod_array ht hx
 refine⟨hl,fun i hi=>?_⟩
 have:=hall i hi
 rw[V4 ab]at this
 exact hQ _ _ _ _ _ _ _ this
theorem qT {α:Type}{G:Nat→α→Prop}:∀(n:Nat),(∀i,i<n→∃x,G i x)→∃l:List α,l.length=n∧∀(i:Nat)(x:α),l[i]?=some x→G i x:=by
 intro n
 induction n with
 | zero=>intro _;exact⟨[],rfl,fun i x h=>by simp at h⟩
 | succ n ih=>
  intro h
  obtain⟨l,hl,hg⟩:=ih (fun i hi=>h i ab)
  obtain⟨x,hx⟩:=h n ab
  refine⟨l++[x],by simp[hl],fun i y hy=>?_⟩
  rcases Wm i n with hi|hi
  ·rw[Wl ab]at hy;exact hg i y hy
  ·rw[List.getElem?_append_right ab]at hy
   have:i=n:=by
    by_cases h0:i=n
    ·exact h0
    ·rw[Wq bn]at hy;cases hy
   subst this
   rw[hl]at hy;simp at hy;subst hy;exact hx
theorem Rd.slice {α:Type}{e:TypeId}{k:Nat}{enc:α→List Value}{Qe:List Value→Prop}{G:α→Prop}(ht:P.underlying t=some (.slice e))(hk:P.cellsOf e=k)(hk0:0<k)
 (hQ:Rd P w e Qe) (hdec:∀cs,Qe cs→∃x:α,cs=enc x∧G x) :
 Rd P w t (fun cs=>∃v l,cs=[v]∧Sl k enc w v l∧∀x∈l,G x):=by
 intro H en sp hd f cs x hx
 subst hk
 rcases DataW.trod_slice ht hx with⟨rfl,_⟩|⟨a,len,cap,elems,rest,n,_,rfl,_,hb,hl,hm,hlen,hel,_,_⟩
 ·exact⟨_,[],rfl,⟨none,0,0,0,rfl,au,by unfold maxLen;omega,au,fun _=>rfl,fun i x hx=>by simp at hx⟩,au⟩
 ·have key:∀i,i<len→∃x:α,w.cells? 0 (a.add (i*P.cellsOf e)) (P.cellsOf e)=some (enc x)∧G x:=by
   intro i hi
   have:=hel i hi
   rw[V4 ab]at this
   cases hc:w.cells? 0 (a.add (i*P.cellsOf e)) (P.cellsOf e)with
   | none=>rw[hc]at this;simp at this
   | some cs'=>
    rw[hc]at this
    obtain⟨x,rfl,hg⟩:=hdec cs' (hQ _ _ _ _ _ _ _ this)
    exact⟨x,rfl,hg⟩
  obtain⟨l,hll,hcells⟩:=qT len key
  subst hll
  refine⟨_,l,rfl,?_,fun x hx=>?_⟩
  ·have hsp:0<l.length→a=⟨a.block,a.off,none⟩:=by
    intro h0
    obtain⟨c0,hc0⟩:=World.cells?_some (hcells 0 l[0] (by simp[h0])).1
    have h00:=hc0.2 0 ab
    rw[Nat.zero_mul]at h00
    have hz:a.add 0=a:=by simp[Addr.add]
    rw[hz,hz]at h00
    have:0<(enc l[0]).length:=ab
    rw[V4 this]at h00
    have:=World.cell?_spot h00
    cases a;simp_all
   refine⟨some a,cap,a.block,a.off,rfl,hl,hm,fun h0=>by rw[←hsp h0],(fun h=>by cases h),?_⟩
   intro i x hx j y hy
   have hi:i<l.length:=by
    rcases Wm i l.length with h|h
    ·exact h
    ·rw[Wq h]at hx;cases hx
   obtain⟨c0,hc0⟩:=World.cells?_some (hcells i x hx).1
   have hj:j<P.cellsOf e:=by
    rcases Wm j (enc x).length with h|h
    ·omega
    ·rw[Wq h]at hy;cases hy
   have:=hc0.2 j hj
   rw[add_add,hy]at this
   rw[hsp ab,Addr.add_lit]at this
   rw[show a.off+i*P.cellsOf e+j=a.off+(i*P.cellsOf e+j)by omega];exact this
  ·obtain⟨i,hi,rfl⟩:=List.getElem_of_mem hx
   exact(hcells i _ (by simp[hi])).2
end
section
variable {P:Program} {w:World} {t e s:TypeId}
theorem Rd.u8dec:∀cs,(∃n,cs=[Value.int .u8 n]∧(Lit.int .u8 n).wf=true)→∃x:UInt8,cs=encB x∧True:=by
 rintro cs ⟨n,rfl,h⟩
 have:=bounds_u8 h
 refine⟨UInt8.ofNat n.toNat,?_,trivial⟩
 unfold encB
 congr 2
 rw[Xd]
 omega
theorem Rd.bytes (ht:P.underlying t=some (.slice e))(he:P.underlying e=some (.int .u8))(hc:P.cellsOf e=1) :
 Rd P w t (fun cs=>∃v l,cs=[v]∧Bs w v l):=
 (Rd.slice ht hc bz (Rd.int he) Rd.u8dec).mono fun cs ⟨v,l,h1,h2,_⟩=>⟨v,l,h1,h2⟩
end
section
variable {P:Program}
structure r8 (P:Program)(w:World)(t:TypeId)(v:Value):Prop where
 ok:∃b,Value.okWide P w .any b t v
 rd:∀Q,Rd P w t Q→Q v.cells.toList
def pW (P:Program)(w:World):List TypeId→List Value→Prop
 | [],[]=>True
 | t::ts,v::vs=>r8 P w t v∧pW P w ts vs
 | _,_=>False
section
variable {w:World} {t e s:TypeId} {v:Value}
theorem r8.cells (h:r8 P w t v)(ht:(match P.underlying t with|some (.struct _)=>true|some (.array _ _)=>true|_=>false)=true):∃cs:Array Value,v=.agg cs:=by
 obtain⟨b,hb⟩:=h.ok
 unfold Value.okWide at hb
 split at hb
 ·obtain⟨cs,h1,_⟩:=hb;exact⟨cs,h1⟩
 ·obtain⟨cs,h1,_⟩:=hb;exact⟨cs,h1⟩
 ·rename_i h1 h2
  split at ht
  ·rename_i hu;exact absurd hu (h1 _)
  ·rename_i hu;exact absurd hu (h2 _ _)
  ·cases ht
theorem r8.int (h:r8 P w t v){k:IntKind}(ht:P.underlying t=some (.int k)):∃n,v=.int k n∧(Lit.int k n).wf=true:=by
 obtain⟨b,hb⟩:=h.ok
 obtain⟨n,rfl⟩:=okWide_int ht hb
 obtain⟨m,h1,h2⟩:=h.rd _ (Rd.int ht)
 simp[Value.cells]at h1;subst h1
 exact⟨n,rfl,h2⟩
theorem r8.bool (h:r8 P w t v)(ht:P.underlying t=some .bool):∃n,v=.bool n:=by
 obtain⟨b,hb⟩:=h.ok
 exact okWide_bool ht hb
theorem r8.string (h:r8 P w t v)(ht:P.underlying t=some .string):∃n,v=.string n∧n.size≤maxLen:=by
 obtain⟨b,hb⟩:=h.ok
 obtain⟨n,rfl⟩:=okWide_string ht hb
 obtain⟨m,h1,h2⟩:=h.rd _ (Rd.string ht)
 simp[Value.cells]at h1;subst h1
 exact⟨n,rfl,h2⟩
theorem r8.slice (h:r8 P w t v)(ht:P.underlying t=some (.slice e)){Q:Value→Prop}(hq:Rd P w t (fun cs=>∃v,cs=[v]∧Q v)):Q v:=by
 obtain⟨b,hb⟩:=h.ok
 obtain⟨a,l,c,rfl⟩:=okWide_slice ht hb
 obtain⟨x,h1,h2⟩:=h.rd _ hq
 simp[Value.cells]at h1;subst h1
 exact h2
theorem r8.bytes (h:r8 P w t v)(ht:P.underlying t=some (.slice e))(he:P.underlying e=some (.int .u8))(hc:P.cellsOf e=1):∃l,Bs w v l:=
 h.slice (Q:=fun v=>∃l,Bs w v l) ht ((Rd.bytes ht he hc).mono fun _ ⟨v,l,h1,h2⟩=>⟨v,h1,l,h2⟩)
theorem r8.flats {α:Type}{k:Nat}{enc:α→List Value}{Qe:List Value→Prop}{G:α→Prop}(h:r8 P w t v)(ht:P.underlying t=some (.slice e))(hk:P.cellsOf e=k)(hk0:0<k)
 (hQ:Rd P w e Qe) (hdec:∀cs,Qe cs→∃x:α,cs=enc x∧G x):∃l,Sl k enc w v l∧∀x∈l,G x:=
 h.slice (Q:=fun v=>∃l,Sl k enc w v l∧∀x∈l,G x) ht ((Rd.slice ht hk hk0 hQ hdec).mono fun _ ⟨v,l,h1,h2,h3⟩=>⟨v,h1,l,h2,h3⟩)
end
theorem pW.cons {w:World}{t:TypeId}{ts:List TypeId}{vs:List Value}(h:pW P w (t::ts) vs):∃v vs',vs=v::vs'∧r8 P w t v∧pW P w ts vs':=by
 cases vs with
 | nil=>exact h.elim
 | cons v vs=>exact⟨v,vs,rfl,h.1,h.2⟩
theorem pW.nil {w:World}{vs:List Value}(h:pW P w [] vs):vs=[]:=by
 cases vs with
 | nil=>rfl
 | cons v vs=>exact h.elim
theorem pW.one {w:World}{t0:TypeId}{args:Array Value}(h:pW P w [t0] args.toList):∃v0,args=#[v0]∧r8 P w t0 v0:=by
 obtain⟨v0,_,e,h0,h⟩:=h.cons
 obtain rfl:=h.nil
 exact⟨v0,by cases args;simp_all,h0⟩
theorem pW.two {w:World}{t0 t1:TypeId}{args:Array Value}(h:pW P w [t0,t1] args.toList):∃v0 v1,args=#[v0,v1]∧r8 P w t0 v0∧r8 P w t1 v1:=by
 obtain⟨v0,_,e,h0,h⟩:=h.cons
 obtain⟨v1,_,rfl,h1,h⟩:=h.cons
 obtain rfl:=h.nil
 exact⟨v0,v1,by cases args;simp_all,h0,h1⟩
theorem QQ {H:Type}{enc:TypeId×Value→H}{w:World}:∀(ts:List TypeId)(vs:List Value) (ds:List (DataW H)) (p:List MemPlace),
 DataW.TrodAll enc P w 0 (fun _=>true) true ts vs ds p→(∀(j:Nat) t v,ts[j]?=some t→vs[j]?=some v→∃b,Value.okWide P w .any b t v)→pW P w ts vs:=by
 intro ts
 induction ts with
 | nil=>intro vs ds p h _;obtain⟨rfl,_,_⟩:=trodAll_nil h;trivial
 | cons t ts ih=>
  intro vs ds p h hok
  obtain⟨v,vs',d,ds',p',q,rfl,rfl,rfl,h1,h2⟩:=trodAll_cons h
  refine⟨⟨hok 0 t v rfl rfl,fun Q hQ=>?_⟩,ih _ _ _ h2 fun j t v h h'=>hok (j+1) t v (by simpa using h) (by simpa using h')⟩
  obtain⟨fuel,hf⟩:=h1
  exact hQ _ _ _ _ _ _ _ hf
theorem CP {H:Type}{enc:TypeId×Value→H}{w w':World}(hl:laidOutB P=true)(he:eX w w'):∀(ts:List TypeId)(vs:List Value) (ds:List (DataW H)) (p:List MemPlace),
 (∀t∈ts,P.readableRec t=true∧t<P.types.size) →
 DataW.TrodAll enc P w 0 (fun _=>true) true ts vs ds p→DataW.TrodAll enc P w' 0 (fun b=>decide (b<w.heap.size)) true ts vs ds p:=by
 intro ts
 induction ts with
 | nil=>intro vs ds p _ h;obtain⟨rfl,rfl,rfl⟩:=trodAll_nil h;exact trodAll_mk0
 | cons t ts ih=>
  intro vs ds p hr h
  obtain⟨v,vs',d,ds',p',q,rfl,rfl,rfl,h1,h2⟩:=trodAll_cons h
  have hlt:∀x∈p',x.block<w.heap.size:=by obtain⟨m,hm⟩:=h1;exact DataW.trod_lt m _ _ _ hm
  exact trodAll_cons_mk (Below.trod hl (hr t au).1 (hr t au).2 h1 he hlt) (ih _ _ _ (fun t ht=>hr t (by simp[ht])) h2)
theorem Fd {C:Checked}{f:FuncId}{fn:Func}{s:ChangeSpec}{T:TypeId}(own:ownKnob C.prog.godebug=none)(laidOut:laidOutB C.prog=true)
 (noInit:C.prog.inits.idxOf? f=none) (hfn:C.prog.funcs[f]?=some fn) (hres:fn.resultTypes=#[T]) (hT:C.prog.underlying T=some .bool)
 (hread:fn.params.toList.all (fun t=>C.prog.readableRec t&&decide (t<C.prog.types.size))=true)
 (hvars:s.vars=[]) (hspec:∀(H:Type) (ds:List (DataW H)),ds.length=fn.params.size→(s.fn H (ds++[])).results=[.lit (.bool true)]∧(s.fn H (ds++[])).args=ds∧(s.fn H (ds++[])).vars=[])
 (walk:∀(w:World)(args:Array Value),pW C.prog w fn.params.toList args.toList→Calls C.prog f args w fun e w'=>e=.returned (.bool true)∧eX w w')
 {conds:List PathCond} (os:Os) (started:os.Started) (H:Type) (enc:TypeId×Value→H)
 (witness:∃(w:World)(tape:Tape)(i:Input),w.os=os∧(w.forCall tape i).Shaped C.prog∧i.vars=[]∧Input.okWide C.prog (w.forCall tape i) .any w.heap.size f i ∧
   s.pre6 enc C.prog fn conds false (w.forCall tape i).memory i.args∧({}:Assume).holds C.prog (lone (Frame.enter C.prog f i.args .normal) [] (w.forCall tape i))) :
 ReturnsInHanded {} C os f .any (s.pre6 enc C.prog fn conds false) (s.post enc C.prog fn false true false false):=by
 refine returnsInHanded_of_change (C:=C) own started noInit hfn witness ?_
 intro W base args ds gs before hval hW hcnd _
 have hW':=hW
 obtain⟨p,q,hA,hV,rfl,hfz,hnd⟩:=hW
 rw[hvars]at hV
 obtain⟨rfl,rfl⟩:=trodVars_none hV
 have hargs:pW C.prog W fn.params.toList args.toList:=QQ _ _ _ _ hA fun j t v h h'=>⟨base,hval j t v (by simpa using h) (by simpa using h')⟩
 have hlen:ds.length=fn.params.size:=by
  have:∀(ts:List TypeId)(vs:List Value) (ds:List (DataW H)) (p:List MemPlace),DataW.TrodAll enc C.prog W 0 (fun _=>true) true ts vs ds p→ds.length=ts.length:=by
   intro ts
   induction ts with
   | nil=>intro vs ds p h;obtain⟨_,rfl,_⟩:=trodAll_nil h;rfl
   | cons t ts ih=>intro vs ds p h;obtain⟨_,_,_,_,_,_,rfl,rfl,rfl,_,h2⟩:=trodAll_cons h;simp[ih _ _ _ h2]
  rw[this _ _ _ _ hA];simp
 obtain⟨e1,e2,e3⟩:=hspec H ds hlen
 refine(walk W args hargs).mono fun e W' ⟨he,bel⟩=>?_
 subst he
 refine⟨_,rfl,ds,[],_,[],p,[],hW',?_,?_,?_,bel.below.frame _,fun h=>by cases h⟩
 ·rw[e1,hres];exact trodAll_mk1 (shut_bool hT true)
 ·rw[e2]
  refine CP laidOut bel _ _ _ _ (fun t ht=>?_) hA
  have:=WJ.1 hread t ht
  simpa using this
 ·rw[e3,hvars];rfl
end
end Go.Proofs.YtaclhhkblbacgaaGreat
namespace Go.Proofs.YtaclhhkblbacgaaGreat
open Go.RowKit Go.Proofs.Tryz
theorem Ul {α:Type}(l:List α)(h:l.length=7):∃a b c d e f g,l=[a,b,c,d,e,f,g]:=by
 match l,h with|[a,b,c,d,e,f,g],_=>exact⟨a,b,c,d,e,f,g,rfl⟩
theorem Nz {α:Type}(l:List α)(h:l.length=2):∃a b,l=[a,b]:=by
 match l,h with|[a,b],_=>exact⟨a,b,rfl⟩
theorem Um (w:World):Rd prog w 80 (fun cs=>∃r c,cs=[Value.int .i64 r,.int .i64 c]∧(Lit.int .i64 r).wf=true∧(Lit.int .i64 c).wf=true):=by
 refine(Rd.struct' underlying80).mono ?_
 rintro cs ⟨hl,hf⟩
 obtain⟨c0,c1,rfl⟩:=Nz cs (hl.trans (by kernel_rfl))
 obtain⟨r,h1,w1⟩:=hf 0 0 3 1 _ rfl (by kernel_rfl) (Rd.int underlying3)
 obtain⟨c,h2,w2⟩:=hf 1 1 3 1 _ rfl (by kernel_rfl) (Rd.int underlying3)
 simp at h1 h2
 subst h1 h2
 exact⟨r,c,rfl,w1,w2⟩
def QR (x:It):Prop:=x.key.size≤maxLen∧x.body.size≤maxLen∧(Lit.int .i64 x.rep).wf=true∧(Lit.int .i64 x.cnt).wf=true∧(Lit.int .i64 x.rank).wf=true∧(Lit.int .i64 x.prio).wf=true
theorem SV (w:World):Rd prog w 82 (fun cs=>∃x,cs=encIt x∧QR x):=by
 refine(Rd.struct' underlying82).mono ?_
 rintro cs ⟨hl,hf⟩
 obtain⟨c0,c1,c2,c3,c4,c5,c6,rfl⟩:=Ul cs (hl.trans (by kernel_rfl))
 obtain⟨s0,h0,w0⟩:=hf 0 0 9 1 _ rfl (by kernel_rfl) (Rd.string underlying9)
 obtain⟨r,c,h1,w1,w1'⟩:=hf 1 1 80 2 _ rfl (by kernel_rfl) (Um w)
 obtain⟨n2,h2,w2⟩:=hf 2 3 3 1 _ rfl (by kernel_rfl) (Rd.int underlying3)
 obtain⟨n3,h3,w3⟩:=hf 3 4 3 1 _ rfl (by kernel_rfl) (Rd.int underlying3)
 obtain⟨b4,h4⟩:=hf 4 5 4 1 _ rfl (by kernel_rfl) (Rd.bool underlying4)
 obtain⟨s5,h5,w5⟩:=hf 5 6 9 1 _ rfl (by kernel_rfl) (Rd.string underlying9)
 simp at h0 h1 h2 h3 h4 h5
 obtain⟨rfl,rfl⟩:=h1
 subst h0 h2 h3 h4 h5
 exact⟨⟨s0,r,c,n2,n3,b4,s5⟩,rfl,w0,w5,w1,w1',w2,w3⟩
theorem r8.items {w:World}{v:Value}(h:r8 prog w 23 v):∃l,Vd w v l∧∀x∈l,QR x:=
 h.flats underlying23 (by kernel_rfl) bz (SV w) fun cs ⟨x,h1,h2⟩=>⟨x,h1,h2⟩
end Go.Proofs.YtaclhhkblbacgaaGreat
