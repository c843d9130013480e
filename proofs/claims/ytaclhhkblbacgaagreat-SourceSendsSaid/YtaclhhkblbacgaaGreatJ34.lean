/- Texts joined: InW Ref34 RefSplit Concat PlD. -/
import Derived.Test.YtaclhhkblbacgaaGreatJ33
import Derived.Lib.AppendZerosOnto
import Derived.RowKit
import Derived.Test.YtaclhhkblbacgaaGreatJ32
set_option maxRecDepth 10000
set_option maxHeartbeats 8000000
namespace Go.Proofs.YtaclhhkblbacgaaGreat
open Go.RowKit Go.Proofs.Tryz
variable {limit:Int} {l:List It} {x:Nat×List (List It)}
def TF (r:List Rg)(l:List It):List It:=l.filter fun x=>cQ r x.key
theorem G4 (l:List It)(r:List Rg)(hk:ng l)(hl:l.length≤1000000000)(hr:r.length≤12):Fn prog 89 [fj l,ec r] (I2 (TF r l)):=by
 have h1:=(E7 r (by have:=WT fX r;omega) ab).frz
 have h2:∀s:ByteArray,s.size≤1000000000→Fn prog 87 [.per (fW (qI r)),sC s] (dq (cQ r s)):=fun s hs=>by
  have:=GU (qI r) s (by have:=vq r;omega) hs
  rwa [(rT r).2]at this
 generalize qI r=R at *
 unfold TF
 generalize hT:l.filter (fun x=>cQ r x.key)=T
 refine fi func89 ntmps89 ?_
 (refine aq h1 ?_)
 refine bQ (bU 5 600 82 7 rfl rfl) ?_
 refine aj (X:=Nat×List It) (fun x=>x.1≤l.length∧x.2.length≤x.1∧x.2++(l.drop x.1).filter (fun x=>cQ r x.key)=T)
  (fun x=>ay [(1,.per (fW R)),(5,.row 600 0),(10,fj l),(11,iC .i64 (l.length:Nat)),(12,iC .i64 (x.1:Nat))] [(600,gp x.2)]) (fun x=>l.length-x.1) (0,[]) ⟨Wa _,V8 _,by simpa using hT⟩ ?_
 rintro⟨k,ac⟩ ⟨g1,g0,g2⟩
 simp only at g1 g0 g2 ⊢
 by_cases hlt:k<l.length
 ·have h3:=h2 l[k].key (hk _ (Wk hlt))
  rw[List.drop_eq_getElem_cons hlt,List.filter_cons]at g2
  clear h2 hT
  cases hr:cQ r l[k].key with
  | false=>
   rw[hr]at h3 g2
   (refine aq h3 ?_;repeat' first|apply ah|refine ai fun hc=>?_)
   refine⟨(k+1,ac),⟨aA,aA,by simpa using g2⟩,aA,?_⟩
   exact ae
  | true=>
   rw[hr]at h3 g2
   (refine aq h3 ?_;repeat' first|apply ah|refine ai fun hc=>?_)
   refine⟨(k+1,ac++[l[k]]),⟨aA,bn,by simpa using g2⟩,aA,av (aN 600 601) (av (aN 601 600) ?_)⟩
   exact ae
 ·have hkl:k=l.length:=ab
  subst hkl
  rw[Xk]at g2
  simp at g2
  subst g2
  clear h2 hT
  (refine w0 ?_;repeat' first|apply ah|refine ai fun hc=>?_)
  exact dw (cJ rfl rfl rfl rfl)
theorem jd (l:List It)(hl:l.length≤1000000000):Fn prog 245 [fj l] (.per (ak (.int .i64 (ie l:Nat)))):=by
 refine fi func245 ntmps245 ?_
 (refine wH ?_)
 refine uj l.length (fun k=>ay [(0,fj l),(3,iC .i64 (ie (l.take k):Nat)),(4,iC .i64 (k:Nat))] []) ?_ ?_
 ·exact ae
 ·intro k hk
  have hb:=NZ (l.take k)
  rw[WA]at hb
  by_cases hlt:k<l.length
  ·have hb2:=zc l[k]
   have hs:ie (l.take (k+1))=ie (l.take k)+(xy l[k]).length:=by rw[bc l k hlt,pZ]
   by_cases hr:eC l[k]=true
   ·(refine sA (fc l[k]) (LA l[k] hr) ?_;repeat' first|apply ah|refine ai fun hc=>?_)
    refine⟨hlt,?_⟩
    exact ae
   ·have hz:xy l[k]=[]:=by rw[xy,V3 hr]
    rw[hz]at hs
    simp at hs
    (refine kf (fc l[k]) ?_;repeat' first|apply ah|refine ai fun hc=>?_)
    refine⟨hlt,?_⟩
    exact ae
  ·(refine wH ?_;repeat' first|apply ah|refine ai fun hc=>?_)
   refine dw ?_
   exact al rfl (by rw[Wd ab])
abbrev N1 (l:List It):Cnt:=.per (dP l)
abbrev Uu (b:List (List It)):Ret:=.per (cA 1 (b.map fun c=>[dP c]))
def mi (l:List It)(a b:Nat):List It:=(l.drop a).take (b-a)
theorem vX (l:List It)(k:Nat)(h:k<l.length):mi l k (k+1)=[l[k]]:=by
 unfold mi;rw[List.drop_eq_getElem_cons h,show k+1-k=1 by omega];rfl
theorem si (l:List It)(a b:Nat)(h:b<l.length)(hab:a≤b):mi l a (b+1)=mi l a b++[l[b]]:=by
 unfold mi
 rw[show b+1-a=(b-a)+1 by omega,List.take_succ_eq_append_getElem (by rw[Xb];omega),List.getElem_drop]
 congr 3;omega
theorem C4 (l:List It)(a:Nat):mi l a a=[]:=by simp[mi]
def nT (s:Spl):List (List It):=match s.c with
 | none=>[[]]
 | some c=>s.D++[c]
def Jk (limit:Int)(l:List It)(x:Nat×List (List It)):Prop:=
 x.1≤l.length∧((x.1=0∧x.2=[])∨(l=[]∧x.2=[[]]) ∨
  ∃D c left,lz limit (l.take x.1)=⟨D,some c,left⟩∧x.2=D++[c]∧0<x.1∧∀h:x.1<l.length,sM (l[x.1]'h)>left)
theorem N2 (h:Jk limit l x)(h1:l.length≤x.1)(h2:x.2≠[]):x.2=nT (lz limit l):=by
 obtain⟨q,⟨_,h3⟩|⟨rfl,h3⟩|⟨D,c,left,h3,h4,h5,h6⟩⟩:=h
 ·exact absurd h3 h2
 ·rw[h3];rfl
 ·rw[Wd h1]at h3
  rw[h3,h4];rfl
def QY (limit:Int)(l:List It)(x:Nat×List (List It))(to:Nat):Prop:=
 x.1≤to∧to≤l.length∧(to=x.1∨lz limit (l.take to)=⟨x.2,some (mi l x.1 to),limit-ie (mi l x.1 to)⟩)
theorem sj (x:It):ie [x]=(xy x).length:=by simp[ie]
theorem Jl {to:Nat}(h:Jk limit l x)(hq:QY limit l x to)(hlt:to<l.length)(hs:(ie (mi l x.1 (to+1)):Int)≤limit):QY limit l x (to+1):=by
 obtain⟨q1,q2,q3⟩:=hq
 refine⟨ab,hlt,.inr ?_⟩
 have hsz:=pZ (mi l x.1 to) l[to]
 rw[yv limit l to hlt,si l x.1 to hlt q1,hsz]
 rw[si l x.1 to hlt q1,hsz]at hs
 by_cases he:to=x.1
 ·subst he
  rw[C4]
  obtain⟨r1,⟨r2,r3⟩|⟨r2,r3⟩|⟨D,c,left,r2,r3,r4,r5⟩⟩:=h
  ·rw[r3];simp[r2,lz,p0,ie,sM]
  ·subst r2;simp at hlt
  ·rw[r2,C2 (by have:=r5 hlt;unfold sM at this;exact this),r3]
   simp[ie,sM]
 ·have q3:=q3.resolve_left he
  rw[q3,G3 (by push_cast at hs;omega)]
  simp only[Spl.mk.injEq,true_and,sM]
  push_cast;omega
theorem Jm {to:Nat}(h:Jk limit l x)(hr:x.1<l.length∨x.2=[])(hok:∀x∈l,vU limit x)(hq:QY limit l x to)(hs:to<l.length→¬(ie (mi l x.1 (to+1)):Int)≤limit) :
 Jk limit l (to,x.2++[mi l x.1 to])∧(x.1<to∨x.2=[]):=by
 obtain⟨q1,q2,q3⟩:=hq
 have hne:to=x.1→l=[]:=fun he=>by
  subst he
  by_cases hlt:x.1<l.length
  ·have:=hs hlt
   rw[vX l _ hlt,sj]at this
   exact absurd (hok _ (Wk hlt)).2 (by unfold sM;omega)
  ·have h2:=hr.resolve_left hlt
   obtain⟨r1,⟨r2,r3⟩|⟨r2,r3⟩|⟨D,c,left,r2,r3,r4,r5⟩⟩:=h
   ·exact Wf ab
   ·exact r2
   ·rw[r3]at h2;simp at h2
 by_cases he:to=x.1
 ·have hl:=hne he
  subst hl
  have hx2:=hr.resolve_left au
  refine⟨⟨q2,.inr (.inl ⟨rfl,?_⟩)⟩,.inr hx2⟩
  rw[hx2,he,C4];rfl
 ·have q3:=q3.resolve_left he
  refine⟨⟨q2,.inr (.inr ⟨_,_,_,q3,rfl,aA,fun hlt=>?_⟩)⟩,.inl ab⟩
  have:=hs hlt
  rw[si l x.1 to hlt q1,pZ]at this
  unfold sM;push_cast at this;simp only;omega
theorem N3 (h2:limit≤9223372036854775807)(hok:∀x∈l,vU limit x)(h:Jk limit l x):x.2.length≤x.1+1:=by
 obtain⟨q,⟨_,h3⟩|⟨rfl,h3⟩|⟨D,c,left,h3,h4,h5,h6⟩⟩:=h
 ·rw[h3];simp
 ·rw[h3];simp
 ·have:=QX limit (l.take x.1) h2 (fun y hy=>hok y (Xt hy))
  rw[h3]at this
  have hl:=this.len
  have hc:=this.ne c rfl
  simp at hl
  rw[h4];simp;omega
theorem Jn (limit:Int)(l:List It)(hl:l.length≤1000000000)(h2:limit≤9223372036854775807) :
 Fn prog 182 [iC .i64 limit,N1 l] (.tup2 (Uu (sh limit l)) (.per (ak (.int .i64 (jc limit l))))):=by
 obtain⟨m,hm,hall,hbad,hok⟩:=zX limit l
 unfold sh
 refine fi func182 ntmps182 ?_
 (refine wH ?_)
 refine uj m (fun k=>ay [(0,iC .i64 limit),(1,N1 l),(6,iC .i64 (k:Nat))] []) ?_ ?_
 ·exact ae
 ·intro k hk
  by_cases hkm:k<m
  ·have hlt:k<l.length:=ab
   obtain⟨hx1,hx2⟩:=hall l[k] (by rw[List.mem_take_iff_getElem];exact⟨k,ab,rfl⟩)
   have hs1:=vX l k hlt
   unfold mi at hs1
   have hs2:ie ((l.drop k).take (k+1-k))=(xy l[k]).length:=by rw[hs1,sj]
   unfold sM at hx2
   (refine sA (fc l[k]) (jd ((l.drop k).take (k+1-k)) bn) ?_;repeat' first|apply ah|refine ai fun hc=>?_|((first|apply aB rfl|apply aC rfl|apply aD rfl|apply aF rfl);(focus ((try (apply bI;(focus rfl);apply ag rfl rfl rfl rfl rfl));first|(exact jO (h:=k+1) (l:=k) ⟨rfl,rfl,rfl⟩ rfl inferInstance inferInstance rfl rfl (by refine⟨?_,?_,?_,?_⟩<;>first|rfl|exact⟨_,_,rfl,rfl⟩|omega|(simp;done)|(simp;omega)))));refine sA (fc l[k]) (jd ((l.drop k).take (k+1-k)) bn) ?_))
   refine⟨hkm,?_⟩
   exact ae
  have hkm:k=m:=ab
  subst hkm
  by_cases hlt:k<l.length
  ·have hb:=hbad hlt
   clear hbad hok hall
   have hs1:=vX l k hlt
   unfold mi at hs1
   have hs2:ie ((l.drop k).take (k+1-k))=(xy l[k]).length:=by rw[hs1,sj]
   unfold sM at hb
   rcases hb with⟨hb1,hb2⟩|⟨hb1,hb2,hb3⟩
   all_goals
    have hb0:jc limit l≠0:=ab
    rw[V3 hb0]
    (refine sA (fc l[k]) (jd ((l.drop k).take (k+1-k)) bn) ?_;repeat' first|apply ah|refine ai fun hc=>?_|((first|apply aB rfl|apply aC rfl|apply aD rfl|apply aF rfl);(focus ((try (apply bI;(focus rfl);apply ag rfl rfl rfl rfl rfl));first|(exact jO (h:=k+1) (l:=k) ⟨rfl,rfl,rfl⟩ rfl inferInstance inferInstance rfl rfl (by refine⟨?_,?_,?_,?_⟩<;>first|rfl|exact⟨_,_,rfl,rfl⟩|omega|(simp;done)|(simp;omega)))));refine sA (fc l[k]) (jd ((l.drop k).take (k+1-k)) bn) ?_))
    refine d9 ?_ ?_
    ·exact eL rfl
    ·exact al rfl ab
  have hkl:k=l.length:=ab
  subst hkl
  have hb0:=hok rfl
  rw[hb0,V6 rfl]
  have hall':∀x∈l,vU limit x:=fun x hx=>hall x (by rw[WX];exact hx)
  clear hbad hok hall
  (refine wH ?_;repeat' first|apply ah|refine ai fun hc=>?_)
  refine bQ (bU 7 700 23 1 rfl rfl) ?_
  refine aj (Jk limit l) (fun x=>ay [(0,iC .i64 limit),(1,N1 l),(7,.row 700 0),(8,iC .i64 (x.1:Nat))] [(700,.row 23 1 (x.2.map fun c=>[dP c]))]) (fun x=>(l.length-x.1)+(if x.2=[]then 1 else 0)) (0,[]) ⟨Wa _,.inl ⟨rfl,rfl⟩⟩ ?_
  rintro⟨fr,out⟩ hP
  have hfr:=hP.1
  have hol:=N3 h2 hall' hP
  simp only at hfr hol
  (refine wH ?_;repeat' first|apply ah|refine ai fun hc=>?_)
  ·have hr:fr<l.length∨out=[]:=by have:=@List.length_eq_zero_iff _ out;grind
   refine bZ (QY limit l (fr,out)) (fun to=>ay [(0,iC .i64 limit),(1,N1 l),(7,.row 700 0),(8,iC .i64 (fr:Nat)),(9,iC .i64 (to:Nat))] [(700,.row 23 1 (out.map fun c=>[dP c]))]) (fun to=>l.length-to) fr ⟨V8 _,hfr,.inl rfl⟩ ?_ ?_
   ·show Le _ _ (ay _ _)
    exact ae
   ·intro to hQ
    have hto:=hQ.2.1
    have hto1:=hQ.1
    simp only at hto1
    (repeat' (first|refine ck ?_|refine bi ?_|refine bA ?_|refine bB ?_|refine cn ?_|refine aU ?_|refine bV cI ?_|refine ci ?_|refine cj (by kernel_rfl) ?_|refine bD ?_|refine bF ?_|refine bG ?_|refine de ?_|refine dg ?_|refine bH ?_|refine bj rfl ?_|(refine jL rfl rfl (fun hc=>?_) (fun hc=>?_)<;>(try rw[Xp]at hc)<;>(try rw[Bool.not_eq_false']at hc)<;>(try first|rw[Wn]at hc|rw[Wt]at hc|rw[beq_iff_eq]at hc|rw[beq_eq_false_iff_ne]at hc|rw[bne_iff_ne]at hc|rw[bne_eq_false_iff_eq]at hc)<;>(repeat rw[V7]at hc)<;>(try first|contradiction|(exfalso;omega)|(exfalso;simp[*]at hc;done)))|((first|apply aB rfl|apply aC rfl|apply aD rfl|apply aF rfl);focus (first|exact DR|(apply bI;(focus rfl);(first|apply ki rfl rfl rfl rfl rfl (qc rfl)|apply ki rfl rfl rfl rfl rfl rfl);intro g1 g2;(first|(apply aZ 20;(focus rfl);apply yU;(case hp=>exact⟨rfl,rfl,rfl⟩);(case ho=>exact⟨_,rfl⟩);(case' hf=>apply jd ((l.drop fr).take (to+1-fr)));(case hpl=>rfl);(case hg=>(repeat (first|exact GL.nil|(refine GL.cons ?_ ?_;focus (first|exact ep (an rfl (by rw[g2];rfl))|exact ep (ar rfl (by rw[g2];rfl))|exact eR (ar rfl (by rw[g2];rfl))|exact eS (ar rfl (by rw[g2];rfl))|exact ep rfl|exact eR rfl|exact eS rfl)))));all_goals (first|assumption|omega|(simp;done)|(simp;omega)))|(apply aZ 11;(focus rfl);apply jO (h:=to+1) (l:=fr)<;>first|(first|exact an rfl (by rw[g2];rfl)|exact ar rfl (by rw[g2];rfl)|exact an rfl (by rw[g1,g2];rfl)|exact ar rfl (by rw[g1,g2];rfl)|rfl|exact⟨rfl,rfl,rfl⟩|infer_instance|exact an rfl (by simp_all)|exact ar rfl (by simp_all))|(have g3:to<l.length:=(by simpa using g2);refine⟨⟨_,_,an rfl (by rw[g2];rfl),rfl⟩,⟨_,_,an rfl (by rw[g2];rfl),rfl⟩,ab,ab⟩))))|(apply bI;(focus rfl);(first|apply qb rfl rfl rfl rfl rfl (qc rfl)|apply qb rfl rfl rfl rfl rfl rfl);intro g1 g2;(first|(apply aZ 20;(focus rfl);apply yU;(case hp=>exact⟨rfl,rfl,rfl⟩);(case ho=>exact⟨_,rfl⟩);(case' hf=>apply jd ((l.drop fr).take (to+1-fr)));(case hpl=>rfl);(case hg=>(repeat (first|exact GL.nil|(refine GL.cons ?_ ?_;focus (first|exact ep (an rfl (by rw[g2];rfl))|exact ep (ar rfl (by rw[g2];rfl))|exact eR (ar rfl (by rw[g2];rfl))|exact eS (ar rfl (by rw[g2];rfl))|exact ep rfl|exact eR rfl|exact eS rfl)))));all_goals (first|assumption|omega|(simp;done)|(simp;omega)))|(apply aZ 11;(focus rfl);apply jO (h:=to+1) (l:=fr)<;>first|(first|exact an rfl (by rw[g2];rfl)|exact ar rfl (by rw[g2];rfl)|exact an rfl (by rw[g1,g2];rfl)|exact ar rfl (by rw[g1,g2];rfl)|rfl|exact⟨rfl,rfl,rfl⟩|infer_instance|exact an rfl (by simp_all)|exact ar rfl (by simp_all))|(have g3:to<l.length:=(by simpa using g2);refine⟨⟨_,_,an rfl (by rw[g2];rfl),rfl⟩,⟨_,_,an rfl (by rw[g2];rfl),rfl⟩,ab,ab⟩))))|(apply aZ 20;(focus rfl);first|(apply yU;(case hp=>exact⟨rfl,rfl,rfl⟩);(case ho=>exact⟨_,rfl⟩);(case' hf=>apply jd ((l.drop fr).take (to+1-fr)));(case hpl=>rfl);(case hg=>(repeat (first|exact GL.nil|(refine GL.cons ?_ ?_;focus (first|exact ep rfl|exact eR rfl|exact gk rfl rfl rfl|exact eS rfl|exact gl rfl|exact eM rfl)))));all_goals (first|assumption|omega|(simp;done)|(simp;omega)))|(apply uh;(case hp=>exact⟨rfl,rfl,rfl⟩);(case ho=>exact⟨_,rfl⟩);(case' hf=>apply jd ((l.drop fr).take (to+1-fr)));(case hg=>(repeat (first|exact GL.nil|(refine GL.cons ?_ ?_;focus (first|exact ep rfl|exact eR rfl|exact gk rfl rfl rfl|exact eS rfl|exact gl rfl|exact eM rfl)))));all_goals (first|assumption|omega|(simp;done)|(simp;omega)))|(apply sx;(case hp=>exact⟨rfl,rfl,rfl⟩);(case ho=>exact⟨_,rfl⟩);(case' hf=>apply jd ((l.drop fr).take (to+1-fr)));(case hg=>(repeat (first|exact GL.nil|(refine GL.cons ?_ ?_;focus (first|exact ep rfl|exact eR rfl|exact gk rfl rfl rfl|exact eS rfl|exact gl rfl|exact eM rfl)))));all_goals (first|assumption|omega|(simp;done)|(simp;omega))))))))
    ·have hc':to<l.length∧(ie (mi l fr (to+1)):Int)≤limit:=by unfold mi;grind
     refine⟨to+1,Jl hP hQ hc'.1 hc'.2,ab,?_⟩
     show Le _ _ (ay _ _)
     exact ae
    ·have hc':to<l.length→¬(ie (mi l fr (to+1)):Int)≤limit:=by unfold mi;grind
     obtain⟨p1,p2⟩:=Jm hP hr hall' hQ hc'
     refine⟨(to,out++[mi l fr to]),p1,?_,?_⟩
     ·rcases p2 with p2|p2
      ·simp only at p2 ⊢
       rw[V3 au];split<;>omega
      ·simp only at p2 ⊢
       rw[V3 au,V6 p2];omega
     ·show Le _ _ (ay _ _)
      exact ae
  ·have he:=N2 hP (by simp only;grind) (by simp only;have:=@List.length_eq_zero_iff _ out;grind)
   simp only at he
   refine d9 ?_ ?_
   ·exact Sa rfl rfl rfl he
   ·exact al rfl rfl
abbrev RR (F:List Rg)(K:List Pc)(lim:Int)(R:List Rg)(th:PV):List PV:=[fW F,gG K,ak (.int .i64 lim),fW R,th]
abbrev sk (F:List Rg)(K:List Pc)(lim:Int)(R:List Rg)(th:PV):Cnt:=.per (cB (RR F K lim R th))
def N4 (r f k:Bool):Int:=if r=false then 41 else if(f&&k)=false then 2 else 0
abbrev G5 (B:List (List It))(K:List Pc):PV:=cB [cA 1 (B.map fun c=>[dP c]),gG K]
theorem S9 (s:Sta)(F:List Rg)(K:List Pc)(lim:Int)(R:List Rg)(th:PV)(r f k:Bool)(a1:Fn prog 38 [ji s] (dq r))(a2:Fn prog 80 [ec F] (dq f))(a3:Fn prog 82 [dC K] (dq k)) :
 Fn prog 269 [ji s,sk F K lim R th] (el (N4 r f k)):=by
 cases r<;>cases f<;>cases k
 all_goals
  refine fi func269 ntmps269 ?_
  (refine fO a1 a2 a3 ?_;repeat' first|apply ah|refine ai fun hc=>?_)
  exact wo
theorem Fq (s:Sta)(F:List Rg)(K:List Pc)(lim:Int)(R:List Rg)(th:PV)(IN:List It)(f:It→Bool)(hl:IN.length≤1000000)
 (a1:Fn prog 89 [fj s.its,ec F] (.per (dP IN))) (a2:∀x∈IN,Fn prog 88 [dC K,sC x.key,sD x.rep x.cnt] (dq (f x))) :
 Fn prog 271 [ji s,sk F K lim R th] (I2 (IN.filter fun x=>!f x)):=by
 generalize hT:(IN.filter fun x=>!f x)=T
 refine fi func271 ntmps271 ?_
 (refine aq a1 ?_)
 clear a1
 refine bQ (bU 5 600 82 7 rfl rfl) ?_
 refine aj (X:=Nat×List It) (fun x=>x.1≤IN.length∧x.2.length≤x.1∧x.2++(IN.drop x.1).filter (fun x=>!f x)=T)
  (fun x=>ay [(3,.ptr 3 0 0),(5,.row 600 0),(12,.per (dP IN)),(13,iC .i64 (IN.length:Nat)),(14,iC .i64 (x.1:Nat))] [(3,.box 308 ((RR F K lim R th).map Cnt.per)),(600,gp x.2)]) (fun x=>IN.length-x.1) (0,[]) ⟨Wa _,au,by simpa using hT⟩ ?_
 rintro⟨i,ac⟩ ⟨h1,h2,h3⟩
 simp only at h1 h2 h3 ⊢
 by_cases hi:i<IN.length
 ·have c2:=a2 _ (Wk hi)
  rw[List.drop_eq_getElem_cons hi,List.filter_cons]at h3
  clear a2
  cases hf:f IN[i]with
  | true=>
   rw[hf]at h3 c2
   (refine aq c2 ?_;repeat' first|apply ah|refine ai fun hc=>?_)
   refine⟨(i+1,ac),⟨aA,aA,by simpa using h3⟩,aA,?_⟩
   exact ae
  | false=>
   rw[hf]at h3 c2
   (refine aq c2 ?_;repeat' first|apply ah|refine ai fun hc=>?_)
   refine⟨(i+1,ac++[IN[i]]),⟨aA,bn,by simpa using h3⟩,aA,av (aN 600 601) (av (aN 601 600) ?_)⟩
   exact ae
 ·have h3:ac=T:=by rw[←h3,Wv ab];simp
  clear a2
  (refine w0 ?_;repeat' first|apply ah|refine ai fun hc=>?_)
  refine dw ?_
  exact cJ rfl rfl rfl (by rw[h3])
theorem QZ (F:List Rg)(K:List Pc)(lim:Int)(R:List Rg)(th:PV)(U Q:List It)(B:List (List It))(e:Int)(a1:Fn prog 315 [ec R,.per th,fj U] (.per (dP Q)))(a2:Fn prog 314 [iC .i64 lim,fj Q] (.tup2 (.per (cA 1 (B.map fun c=>[dP c]))) (el e))) :
 Fn prog 270 [sk F K lim R th,.per (dP U)] (.tup2 (.per (cA 1 (B.map fun c=>[dP c]))) (el e)):=by
 refine fi func270 ntmps270 ?_
 (refine bg a1 a2 ?_)
 exact d9 (dA rfl) (al rfl rfl)
theorem N5 (s:Sta)(F:List Rg)(K:List Pc)(lim:Int)(R:List Rg)(th:PV)(e:Int)(he:e≠0)(a1:Fn prog 269 [ji s,sk F K lim R th] (el e)) :
 Fn prog 240 [ji s,sk F K lim R th] (.tup2 (.per (G5 [] [])) (el e)):=by
 refine fi func240 ntmps240 ?_
 (refine aq a1 ?_;repeat' first|apply ah|refine ai fun hc=>?_)
 refine d9 ?_ ?_
 ·exact lD
 ·exact al rfl rfl
theorem N6 (s:Sta)(F:List Rg)(K:List Pc)(lim:Int)(R:List Rg)(th:PV)(U:List It)(B:List (List It))(e:Int)(J:List Pc)(a1:Fn prog 269 [ji s,sk F K lim R th] (el 0))(a2:Fn prog 271 [ji s,sk F K lim R th] (.per (dP U)))
 (a3:Fn prog 270 [sk F K lim R th,.per (dP U)] (.tup2 (.per (cA 1 (B.map fun c=>[dP c]))) (el e))) (a4:e=0→Fn prog 84 [nc s.know,.per (fW F)] (.per (gG J))) :
 Fn prog 240 [ji s,sk F K lim R th] (.tup2 (.per (if e=0 then G5 B J else G5 [] [])) (el e)):=by
 by_cases he:e=0
 ·rw[V6 he]
  subst he
  have a4:=a4 rfl
  refine fi func240 ntmps240 ?_
  (refine pj a1 a2 a3 a4 ?_;repeat' first|apply ah|refine ai fun hc=>?_)
  refine d9 ?_ ?_
  ·exact Sk
  ·exact al rfl rfl
 ·rw[V3 he]
  clear a4
  refine fi func240 ntmps240 ?_
  (refine fO a1 a2 a3 ?_;repeat' first|apply ah|refine ai fun hc=>?_)
  refine d9 ?_ ?_
  ·exact lD
  ·exact al rfl rfl
end Go.Proofs.YtaclhhkblbacgaaGreat
