/- Lemmas, walks. -/
import Derived.Test.YtecdgdoledkdfaaGreatJ34
set_option maxRecDepth 10000
set_option maxHeartbeats 8000000
namespace Go.Proofs.YtecdgdoledkdfaaGreat
open Go.RowKit Go.Proofs.Tryz
theorem y8 {N:BP}{w:World}{k:Nat}{es:List (List PV)}{v:Value}(h:(cn k es).p N w v):v.oneCell'=true:=by obtain⟨a,c,b,o,rfl,_⟩:=h;rfl
theorem ZS {α:Type}(l:List α)(h:l.length=5):∃a0 a1 a2 a3 a4,l=[a0,a1,a2,a3,a4]:=by match l,h with|[a0,a1,a2,a3,a4],_=>exact⟨a0,a1,a2,a3,a4,rfl⟩
def ZT (s:Sta):Prop:=(∀r∈s.flt,Gd r)/\(∀p∈s.know,Gd p.rg)/\(∀x∈s.its,Vg x)
theorem ZU (w:World):Rd prog w 26 (λcs=>∃s:Sta,ZT s/\Wr w 5 sY cs s):=by
 refine(Rd.struct' underlying26).mono ?_
 rintro cs ⟨hl,hf⟩
 obtain⟨c0,c1,c2,c3,c4,rfl⟩:=ZS cs (hl.trans (by kernel_rfl))
 obtain⟨n0,h0,_⟩:=hf 0 0 3 1 _ rfl (by kernel_rfl) (Rd.int underlying3)
 obtain⟨v1,l1,h1,p1,w1⟩:=hf 1 1 22 1 _ rfl (by kernel_rfl) ((Gc.flat Eb (Ta w)).slice underlying22 (by kernel_rfl) bP)
 obtain⟨v2,l2,h2,p2,w2⟩:=hf 2 2 23 1 _ rfl (by kernel_rfl) ((Gc.flat D8 (XS w)).slice underlying23 (by kernel_rfl) bP)
 obtain⟨v3,l3,h3,p3,w3⟩:=hf 3 3 24 1 _ rfl (by kernel_rfl) ((WX w).slice underlying24 (by kernel_rfl) bP)
 obtain⟨n4,h4,_⟩:=hf 4 4 3 1 _ rfl (by kernel_rfl) (Rd.int underlying3)
 simp at h0 h1 h2 h3 h4
 subst h0 h1 h2 h3 h4
 refine⟨⟨n0,l1,l2,l3,n4⟩,⟨w1,w3,w2⟩,rfl,rfl,λj A u hj hu=>?_⟩
 match j,hj,hu with
 | 0,hj,hu|4,hj,hu=>cases hj;cases hu;exact⟨rfl,rfl⟩
 | 1,hj,hu=>cases hj;cases hu;exact⟨y8 p1,p1⟩
 | 2,hj,hu=>cases hj;cases hu;exact⟨y8 p2,p2⟩
 | 3,hj,hu=>cases hj;cases hu;exact⟨y8 p3,p3⟩
 | _+5,hj,_=>simp at hj
theorem tD.state {w:World}{v:Value}(h:tD prog w 26 v):∃s:Sta,ZT s/\In w v (kq s):=by
 obtain⟨cs,rfl⟩:=h.cells (by rw[underlying26])
 obtain⟨s,h1,h2,h3,h4⟩:=h.rd _ (ZU w)
 refine⟨s,h1,cs,rfl,?_,λj A hj=>?_⟩
 ·have:cs.toList.length=5:=h2
  simpa using this
 ·have hjl:j<cs.toList.length:=by
   have:=(aaM.1 hj).1
   show j<(Value.agg cs).cells.toList.length
   rw[h2];exact this
  obtain⟨q1,q2⟩:=h4 j A cs.toList[j] hj (aaa hjl)
  exact⟨cs.toList[j],by simp at hjl ⊢,q1,q2⟩
structure Sy where
 m:Msg
 raw:List UInt8
 near:Bool
abbrev Tb (s:Sy):List PV:=bR s.m++[aK s.raw,ai (.bool s.near)]
abbrev zz (l:List Sy):PV:=cn 21 (l.map Tb)
theorem aau (w:World):Gc prog w 49 21 Tb (λs=>YB s.m):=by
 refine(Rd.struct' underlying49).mono ?_
 rintro cs ⟨hl,hf⟩
 have hl:cs.length=21:=hl.trans (by kernel_rfl)
 obtain⟨m,wm,q1,q2,q3⟩:=hf 0 0 43 19 _ rfl (by kernel_rfl) (aat w)
 obtain⟨v19,l19,h19,p19,_⟩:=hf 1 19 35 1 _ rfl (by kernel_rfl) ((Gc.flat cb (ZR w)).slice underlying35 (by kernel_rfl) bP)
 obtain⟨b20,h20⟩:=hf 2 20 4 1 _ rfl (by kernel_rfl) (Rd.bool underlying4)
 have h19:cs[19]?=some v19:=by have:=aaA (·[0]?) h19;simpa using this
 have h20:cs[20]?=some (.bool b20):=by have:=aaA (·[0]?) h20;simpa using this
 refine⟨⟨m,l19,b20⟩,wm,hl,rfl,λj A u hj hu=>?_⟩
 rcases aaF j 19 with h|h
 ·rw[show Tb ⟨m,l19,b20⟩=bR m++[aK l19,ai (.bool b20)]from rfl,aaz (by rw[q2];exact h)]at hj
  exact q3 j A u hj (by rw[List.getElem?_take_of_lt h];exact hu)
 ·obtain⟨k,rfl⟩:∃k,j=19+k:=⟨j-19,ae⟩
  match k,hj,hu with
  | 0,hj,hu=>cases hj;cases h19.symm.trans hu;exact⟨tB p19,p19⟩
  | 1,hj,hu=>cases hj;cases h20.symm.trans hu;exact⟨rfl,rfl⟩
  | k+2,hj,_=>rw[List.getElem?_eq_none (by show 21<=_;omega)]at hj;cases hj
theorem tD.says {w:World}{v:Value}(h:tD prog w 27 v):∃l:List Sy,In w v (.per (zz l))/\∀a∈l,YB a.m:=
 (aau w).arg h underlying27 (by kernel_rfl) bP
def CZ (x:Srv)(y:Sy):Msg:=if y.near then { y.m with ses:=x.ses,num:=x.num+1 }else y.m
def mC (x:Srv)(y:Sy):List UInt8:=if(eV (CZ x y)).2=0 then(eV (CZ x y)).1 else y.raw
def y9 (l:List Sy):Bool:=decide (l.length>30)||l.any λy=>md y.m||decide (y.raw.length>300)
theorem Bm (x:Srv)(y:Sy):md (CZ x y)=md y.m:=by
 unfold CZ
 split<;>rfl
theorem Gf (x:Srv)(y:Sy):(CZ x y).sum=y.m.sum:=by
 unfold CZ
 split<;>rfl
theorem Tc (l:List Rg):l.length<=(fc l).length:=by
 have key:∀l:List Rg,l.length<=(l.flatMap ue).length:=by
  intro l
  induction l with
  | nil=>simp
  | cons r l ih=>
   have h1:1<=(ue r).length:=by
    have:=OX r.lo.size
    unfold ue bi
    rw[aai,aai]
    omega
   rw[List.flatMap_cons,aai,aaD]
   omega
 have:=key l
 unfold fc
 rw[aai]
 omega
theorem Wc (x:Srv){y:Sy}(hl:md y.m=false)(hr:y.raw.length<=300)(hs:y.m.sum<18446744073709551616):(mC x y).length<=40000/\((lW (mC x y)).1.kind=1->(lW (mC x y)).1.flt.length<=310):=by
 have h1:=Bm x y
 have h2:=Gf x y
 unfold mC
 generalize CZ x y=m at *
 have hB:=(Kw (h1.trans hl)).1
 have hln:=jW m
 split
 ·rename_i c
  refine⟨hln,λ_=>?_⟩
  rw[(CQ hB ae c).1]
  have:m.flt.length<=12:=by
   rw[hl]at h1
   unfold md iG at h1
   simp only[Bool.or_eq_false_iff,abb]at h1
   have:=h1.1.1
   omega
  show(pg m).flt.length<=310
  unfold pg
  split
  ·show m.flt.length<=310;omega
  all_goals (repeat' split)<;>simp
 ·refine⟨ae,λhk=>?_⟩
  by_cases e:(lW y.raw).2=0
  ·have hb:=tn e
   generalize (lW y.raw).1=q at *
   unfold eV at hb
   split at hb
   ·split at hb
    ·have h3:=aaA (λz=>z.1.length) hb
     simp only[B9]at h3
     have h4:=qt (m:=q) (p:=fc q.flt) (by unfold ew;rw[aae hk];simp)
     have h5:=Tc q.flt
     omega
    ·exact absurd (aaA Prod.snd hb) aA
   ·exact absurd (aaA Prod.snd hb) aA
  ·have:(lW y.raw).1={}:=by
    unfold lW vW at e ⊢
    grind
   rw[this]
   simp
theorem Nd (x:Srv)(y:Sy)(hl:md y.m=false)(hs:y.m.sum<18446744073709551616)(h0:0<=x.num/\x.num<=1000000):bZ prog 12 [.ptr 1000 0 0,.per (cu (Tb y))] (cF x) (.per (aK (mC x y))) (cF x):=by
 have h1:=Bm x y
 have h2:=Gf x y
 have a1:=(IY (CZ x y) (Kw (h1.trans hl)).1 ae).frz
 unfold mC
 rw[show CZ x y=if y.near then { y.m with ses:=x.ses,num:=x.num+1 }else y.m from rfl]at *
 cases hn:y.near
 all_goals
  rw[hn]at a1
  simp only[if_true,if_false,aaL]at a1 ⊢
 ·generalize eV y.m=q at *
  by_cases c:q.2=0
  ·rw[aae c]
   refine cp func12 ntmps12 ?_
   (refine au a1 ?_;repeat' first|apply aw|refine ah λhc=>?_)
   refine jB (qP) ?_
   exact bA rfl rfl
  ·rw[aab c]
   refine cp func12 ntmps12 ?_
   (refine au a1 ?_;repeat' first|apply aw|refine ah λhc=>?_)
   refine jB (qP) ?_
   exact bA rfl rfl
 ·generalize eV { y.m with ses:=x.ses,num:=x.num+1 }=q at *
  by_cases c:q.2=0
  ·rw[aae c]
   refine cp func12 ntmps12 ?_
   (refine au a1 ?_;repeat' first|apply aw|refine ah λhc=>?_)
   refine jB (qP) ?_
   exact bA rfl rfl
  ·rw[aab c]
   refine cp func12 ntmps12 ?_
   (refine au a1 ?_;repeat' first|apply aw|refine ah λhc=>?_)
   refine jB (qP) ?_
   exact bA rfl rfl
theorem uV (l:List Sy):Fn prog 6 [.per (zz l)] (dE (y9 l)):=by
 unfold y9
 by_cases hl:l.length>30
 ·rw[aao hl,Bool.true_or]
  refine fi func6 ntmps6 ?_
  (refine w0 ?_;refine ah λhc=>?_)
  exact dz
 ·rw[aap hl,abl]
  generalize hR:(l.any λy=>md y.m||decide (y.raw.length>300))=R
  refine fi func6 ntmps6 ?_
  (refine w0 ?_;refine ah λhc=>?_)
  refine aj (X:=Nat) (λi=>i<=l.length/\((l.drop i).any λy=>md y.m||decide (y.raw.length>300))=R) (λi=>aF [(8,.per (zz l)),(9,iC .i64 (l.length:Nat)),(10,iC .i64 (i:Nat))] []) (λi=>l.length-i) 0 ⟨aag _,hR⟩ ?_
  rintro i ⟨h1,h2⟩
  by_cases hi:i<l.length
  ·have a1:=VK l[i].m
   rw[List.drop_eq_getElem_cons hi,List.any_cons]at h2
   cases hm:md l[i].m with
   | true=>
    rw[hm]at a1 h2
    subst h2
    (refine au a1 ?_;repeat' first|apply aw|refine ah λhc=>?_)
    exact dz
   | false=>
    rw[hm,abl]at h2
    rw[hm]at a1
    by_cases hr:l[i].raw.length>300
    ·rw[aao hr,Bool.true_or]at h2
     subst h2
     (refine au a1 ?_;repeat' first|apply aw|refine ah λhc=>?_)
     all_goals first
      | (exfalso;omega)
      | (refine dr ?_
         exact aP rfl rfl)
    ·rw[aap hr,abl]at h2
     (refine au a1 ?_;repeat' first|apply aw|refine ah λhc=>?_)
     all_goals first
      | (exfalso;omega)
      | skip
     refine⟨i+1,⟨hi,h2⟩,ae,?_⟩
     exact ab
  ·rw[aay ae]at h2
   subst h2
   (refine w0 ?_;refine ah λhc=>?_)
   exact dz
abbrev lwC:Option DsS->Cnt
 | none=>.per nptQ
 | some _=>.ptr 503 0 0
abbrev lwE:Option DsS->List (Nat×Blk)
 | none=>[]
 | some d=>[(503,.box 140 [.ptr 504 0 0,.row 510 0,.row 511 0,iC .i64 d.ak]),(504,.box 296 [.row 512 0,iC .u64 d.sd,iC .i64 d.b]),(510,ZG d.L),(511,.row 40 3 (d.fd.map rgP)),(512,.obj (qA d.t))]
abbrev lwP (x:Srv)(p:PV)(d:Option DsS):List (Nat×Blk):=(500,.box 58 ((WP x).map Cnt.per++[lwC d,.per p,.per (aK x.rep)]))::(53,.box 47 ((sY x.s++(ai (.int .i64 x.ses)::ai (.int .i64 x.num)::bR x.hello)).map Cnt.per++[.row 520 0,.per (cn 1 (x.bat.map λc=>[cX c])),.per (ib x.lrn),.per (aK x.rep)]))::(520,iO x.ans)::lwE d
abbrev YC:List (Nat×Nat):=[(1000,500),(2003,503),(2004,504),(2000,510),(2001,511),(2002,512)]
abbrev Z9:List (Nat×Nat):=[(1000,53),(2000,520)]
theorem Jh (s:Sta)(l:List Sy)(a1:Fn prog 5 [kq s] (dE false))(a2:Fn prog 8 [kq s] (dE false))(hl:y9 l=false)(a5:bZ prog 7 [kq s] [] (.tup2 (.per nptQ) (.per (ai (.int .i64 41)))) []) :
 Fn prog 3 [kq s,.per (zz l)] (dE true):=by
 have a0:=CY
 have a3:=uV l
 rw[hl]at a3
 obtain⟨n1,n2,n3⟩:=V4
 refine fi func3 ntmps3 ?_
 (have kc1:=a0;have kc2:=a1;have kc3:=a3;have km1:=(show fK [] _ _ _ _ _ _ from a5);have kc4:=a2;have kc5:=n1;have kc6:=n2;have kc7:=n3;refine w0 ?_;(repeat' first|apply aw|refine ah λhc=>?_|((first|apply aH rfl|apply cB rfl|apply aJ rfl|apply cC rfl);(focus (try apply ag rfl rfl rfl rfl rfl);((apply bn 8;(focus rfl);exact XQ ⟨rfl,rfl,rfl⟩ rfl aS rfl rfl (by first|exact .inl ⟨rfl,rfl⟩|exact .inr ⟨rfl,rfl⟩))));refine w0 ?_));all_goals clear kc7 kc6 kc5 kc4 km1 kc3 kc2 kc1)
 all_goals
  refine dr ?_
  refine aP rfl ?_
  first|rfl|(simp;done)
theorem Nf (s:Sta)(l:List Sy)(r:Bool)(h:(r||y9 l)=true)(a1:Fn prog 5 [kq s] (dE r)) :
 Fn prog 3 [kq s,.per (zz l)] (dE true):=by
 have a0:=CY
 have a3:=uV l
 cases r with
 | true=>
  refine fi func3 ntmps3 ?_
  (refine bt a0 a1 ?_;repeat' first|apply aw|refine ah λhc=>?_)
  exact dz
 | false=>
  rw[abl]at h
  rw[h]at a3
  refine fi func3 ntmps3 ?_
  (refine fF a0 a1 a3 ?_;repeat' first|apply aw|refine ah λhc=>?_)
  exact dz
abbrev srZ:Blk:=.box 58 (([dS,cA,cA,cA,dS,dS,je,dS,dS,dS,dS,dS,dS,dS,dS,je,je,je,cA,cA,cA,eP,eP,je,ai (.int .u64 0),cA,dS,nptQ,nptQ,cA]).map Cnt.per)
theorem Td:bZ prog 9 [.ptr 1000 0 0,.per cA] [(1000,srZ)] (.per (aK [])) [(1000,srZ)]/\bZ prog 10 [.ptr 1000 0 0] [(1000,srZ)] (iC .i64 0) [(1000,srZ)]:=by
 refine⟨?_,?_⟩
 ·refine cp func9 ntmps9 ?_
  (refine w0 ?_;refine ah λhc=>?_)
  refine kC ?_
  exact fW (bA rfl rfl) ct
 ·refine cp func10 ntmps10 ?_
  (refine w0 ?_;refine ah λhc=>?_)
  refine kC ?_
  exact bh rfl rfl
structure aaw (x z:Srv)(y:Sy)(B R:List UInt8)(p q:PV)(d e:Option DsS):Prop where
 b:bZ prog 12 [.ptr 1000 0 0,.per (cu (Tb y))] (cF x) (.per (aK B)) (cF x)
 w:bZ prog 13 [.ptr 1000 0 0,.per (aK B)] (cF x) (.per (aK R)) (cF z)
 t:bZ prog 9 [.ptr 1000 0 0,.per (aK B)] (bB x p d) (.per (aK R)) (bB z q e)
 u:R≠[]->bZ prog 9 [.ptr 1000 0 0,.per (aK B)] (bB z q e) (.per (aK R)) (bB z q e)
 s:bZ prog 10 [.ptr 1000 0 0] (bB z q e) (.per (ai (.int .i64 z.ses))) (bB z q e)
 a:bZ prog 11 [.ptr 1000 0 0] (bB z q e) (iC .i64 (z.ans.length:Nat)) (bB z q e)
 l:R.length<=1000000
theorem YD {x:Srv}{n:Nat}(h:pA x n)(hn:n<=30){y:Sy}(hl:md y.m=false)(hr:y.raw.length<=300)(hs:y.m.sum<18446744073709551616) :
 ∃z b r,aaw x z y b r (jD x) (jD z) (fX x) (fX z)/\pA z (n+1):=by
 obtain⟨b1,b2⟩:=Wc x hl hr hs
 have hnm:=h.num
 obtain⟨⟨t1,t2⟩,t3,t4⟩:=KF h ae (mC x y) b1 b2
 have htw:=Je oh x (lW (mC x y)).1 (lW (mC x y)).2
 have hu:(x.take oh (mC x y)).2≠[]->WS (x.take oh (mC x y)).1 (x.take oh (mC x y)).1 (mC x y) (x.take oh (mC x y)).2:=λq=>by
  have:=(KF t3 ae (mC x y) b1 b2).1
  rw[show(x.take oh (mC x y)).1.take oh (mC x y)=x.take oh (mC x y)from htw q]at this
  exact this
 refine⟨_,_,_,⟨Nd x y hl hs ae,t2,t1,λq=>(hu q).p,y4 _ _ _,?_,?_⟩,t3⟩
 ·have:=SU (x.take oh (mC x y)).1 (jD (x.take oh (mC x y)).1) (fX (x.take oh (mC x y)).1)
  rw[S8 t3]at this
  exact this
 ·omega
theorem Ji {s:Sta}(h1:oA s=true)(h2:WK s):pA { s:=s } 0:=⟨h1,h2,⟨aby _,(show bU 0=true by decide)⟩,⟨aby _,aby _⟩,aaf _,λ_=>rfl,M1,.inl rfl,λ_=>rfl,aA⟩
theorem Gg (s:Sta)(l:List Sy)(hS:oA s=true)(hL:WK s)(a1:Fn prog 5 [kq s] (dE false))(a2:Fn prog 8 [kq s] (dE true))(hl:y9 l=false)(hw:∀y∈l,y.m.sum<18446744073709551616)
 (a5:bZ prog 7 [kq s] [] (.tup2 (.ptr 3000 0 0) (.per (ai (.int .i64 0)))) [(3000,srB { s:=s } nptQ)]) :
 Fn prog 3 [kq s,.per (zz l)] (dE true):=by
 have a0:=CY
 have a3:=uV l
 rw[hl]at a3
 unfold y9 at hl
 simp only[Bool.or_eq_false_iff,abb,List.any_eq_false]at hl
 obtain⟨hl1,hl2⟩:=hl
 have hst:=Ji hS hL
 refine fi func3 ntmps3 ?_
 (have kc1:=a0;have kc2:=a1;have kc3:=a3;have km1:=(show fK [(3000,500)] _ _ _ _ _ _ from a5);have kc4:=a2;refine w0 ?_;(repeat' first|apply aw|refine ah λhc=>?_);all_goals clear kc4 km1 kc3 kc2 kc1)
 clear a0 a1 a2 a3 a5
 refine bw (cL 53 _ 47 (sY s++[dS,dS,dS,dS,dS,dS,dS,dS,dS,dS,je,je,je,cA,cA,cA,eP,eP,je,ai (.int .u64 0),cA,cA,cA,cA,cA]) (sY s++(dS::dS::(bR {}++[cA,cn 1 [],ib [],aK []]))) rfl rfl (by(repeat (first|exact PW.nil|(refine PW.cons (by first|exact yi.refl|exact ct) ?_))))) ?_
 refine bw (nt 53 26 520 47 4 1 rfl rfl rfl rfl) ?_
 refine ci (X:=Nat×Srv) (λX=>X.1<=l.length/\pA X.2 X.1) (λX=>aF [(5,.ptr 500 0 0),(7,.ptr 53 0 0),(54,.per (zz l)),(55,iC .i64 (l.length:Nat)),(56,iC .i64 (X.1:Nat))] (lwP X.2 (jD X.2) (fX X.2))) (λX=>l.length-X.1) (0,{ s:=s }) ⟨aag _,hst⟩ ?_ ?_
 ·rw[show jD { s:=s }=nptQ from aae rfl,show fX { s:=s }=none from rfl]
  exact ab
 ·rintro⟨i,x⟩ ⟨h1,h2⟩
  simp only at h1 h2 ⊢
  by_cases hi:i<l.length
  ·have hm:=aar hi
   have q:=hl2 _ hm
   simp only[abm,aaI,not_or,aaB]at q
   obtain⟨z,b,r,⟨c1,c2,c3,c4,c5,c6,c7⟩,hz⟩:=YD h2 ae q.1 ae (hw _ hm)
   have c8:=D4 r r ae
   rw[aao rfl]at c8
   generalize jD x=p at *
   generalize hQ:jD z=q' at *
   generalize fX x=d at *
   generalize hE:fX z=e at *
   clear hl2 hw hm q hst h2
   by_cases hr:r=[]
   ·subst hr
    clear c4 c7
    rcases d with _|d<;>rcases e with _|e
    all_goals
     (have km1:=(show fK Z9 _ _ _ _ _ _ from c1);have km2:=(show fK Z9 _ _ _ _ _ _ from c2);have km3:=(show fK YC _ _ _ _ _ _ from c3);have kc1:=c8;have km4:=(show fK YC _ _ _ _ _ _ from c5);have km5:=(show fK YC _ _ _ _ _ _ from c6);refine w0 ?_;(repeat' first|apply aw|refine ah λhc=>?_);all_goals clear km5 km4 kc1 km3 km2 km1)
     all_goals first
      | (refine⟨(i+1,z),⟨hi,hz⟩,aL,?_⟩
         show Le _ _ (aF [(5,.ptr 500 0 0),(7,.ptr 53 0 0),(54,.per (zz l)),(55,iC .i64 (l.length:Nat)),(56,iC .i64 ((i+1:Nat):Int))] (lwP z (jD z) (fX z)))
         rw[hQ,hE]
         exact ab)
      | (exfalso;simp_all;done)
   ·have c4:=c4 hr
    have hrl:0<r.length:=List.length_pos_iff.2 hr
    rcases d with _|d<;>rcases e with _|e
    all_goals
     (have km1:=(show fK Z9 _ _ _ _ _ _ from c1);have km2:=(show fK Z9 _ _ _ _ _ _ from c2);have km3:=(show fK YC _ _ _ _ _ _ from c3);have km4:=(show fK YC _ _ _ _ _ _ from c4);have kc1:=c8;have km5:=(show fK YC _ _ _ _ _ _ from c5);have km6:=(show fK YC _ _ _ _ _ _ from c6);refine w0 ?_;(repeat' first|apply aw|refine ah λhc=>?_);all_goals clear km6 km5 kc1 km4 km3 km2 km1)
     all_goals first
      | (exfalso;omega)
      | (refine⟨(i+1,z),⟨hi,hz⟩,aL,?_⟩
         show Le _ _ (aF [(5,.ptr 500 0 0),(7,.ptr 53 0 0),(54,.per (zz l)),(55,iC .i64 (l.length:Nat)),(56,iC .i64 ((i+1:Nat):Int))] (lwP z (jD z) (fX z)))
         rw[hQ,hE]
         exact ab)
      | (exfalso;simp_all;done)
  ·obtain⟨n1,n2⟩:=Td
   clear hl2 hw hst h2
   generalize jD x=p
   generalize fX x=d
   rcases d with _|d
   all_goals
    (refine nT (gn [(1000,12)] n1) (gn [(1000,12)] n2) ?_;repeat' first|apply aw|refine ah λhc=>?_)
    all_goals
     refine dr ?_
     refine aP rfl ?_
     first|rfl|(simp;done)
theorem YE (s:Sta)(l:List Sy)(hw:∀y∈l,y.m.sum<18446744073709551616):Fn prog 3 [kq s,.per (zz l)] (dE true):=by
 have a1:=Sf s
 by_cases h:(FM s||y9 l)=true
 ·exact Nf s l _ h a1
 ·simp only[abm,not_or,aaB]at h
  obtain⟨h1,h2⟩:=h
  rw[h1]at a1
  have hL:=Sh h1
  have a2:=AV s hL.st
  have a4:=tc s hL.st
  cases hr:oA s with
  | false=>
   rw[hr]at a2 a4
   exact Jh s l a1 a2 h2 (V3 s a4)
  | true=>
   rw[hr]at a2 a4
   exact Gg s l hr hL a1 a2 h2 hw (ST s a4 ((F6 hL.st (by have:=hL.fl;omega) (by have:=hL.il;omega) hr).argsW (.same (.per ct (.per ct .nil)))))
