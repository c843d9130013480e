/- Lemmas, walks. -/
import Derived.Test.YtecdgdoledkdfaaGreatJ20
import Derived.Lib.AppendZerosOnto
import Derived.RowKit
set_option maxRecDepth 10000
set_option maxHeartbeats 8000000
namespace Go.Proofs.YtecdgdoledkdfaaGreat
open Go.RowKit Go.Proofs.Tryz
variable {limit:Int} {l:List It} {x:Nat×List (List It)}
def Vm (r:List Rg)(l:List It):List It:=l.filter λx=>cz r x.key
theorem CA (l:List It)(r:List Rg)(hk:n8 l)(hl:l.length<=1000000000)(hr:bT r)(hz:r.length<=1000000000):Fn prog 64 [eS l,cU r] (Ic (Vm r l)):=by
 have h1:=(sW r hr hz).frz
 have h2:∀s:ByteArray,s.size<=1000000000->Fn prog 62 [.per (gd r),sC s] (dE (cz r s)):=λs hs=>sS r s hr hz hs
 unfold Vm
 generalize hT:l.filter (λx=>cz r x.key)=T
 refine fi func64 ntmps64 ?_
 (refine au h1 ?_)
 refine bw (bS 5 600 79 7 rfl rfl) ?_
 refine aj (X:=Nat×List It) (λx=>x.1<=l.length/\x.2.length<=x.1/\x.2++(l.drop x.1).filter (λx=>cz r x.key)=T)
  (λx=>aF [(1,.per (gd r)),(5,.row 600 0),(10,eS l),(11,iC .i64 (l.length:Nat)),(12,iC .i64 (x.1:Nat))] [(600,gz x.2)]) (λx=>l.length-x.1) (0,[]) ⟨aag _,aaf _,by simpa using hT⟩ ?_
 rintro⟨k,ac⟩ ⟨g1,g0,g2⟩
 simp only at g1 g0 g2 ⊢
 by_cases hlt:k<l.length
 ·have h3:=h2 l[k].key (hk _ (aar hlt))
  rw[List.drop_eq_getElem_cons hlt,List.filter_cons]at g2
  clear h2 hT
  cases hr:cz r l[k].key with
  | false=>
   rw[hr]at h3 g2
   (refine au h3 ?_;repeat' first|apply aw|refine ah λhc=>?_)
   refine⟨(k+1,ac),⟨aL,aL,by simpa using g2⟩,aL,?_⟩
   exact ab
  | true=>
   rw[hr]at h3 g2
   (refine au h3 ?_;repeat' first|apply aw|refine ah λhc=>?_)
   refine⟨(k+1,ac++[l[k]]),⟨aL,bD,by simpa using g2⟩,aL,az (aU 600 601) (az (aU 601 600) ?_)⟩
   exact ab
 ·have hkl:k=l.length:=ae
  subst hkl
  rw[aba]at g2
  simp at g2
  subst g2
  clear h2 hT
  (refine w0 ?_;refine ah λhc=>?_)
  exact dr (cJ rfl rfl rfl rfl)
theorem X2 (l:List It)(r:List Rg)(hk:n8 l)(hl:l.length<=1000000000)(hr:r.length<=1000000000):Fn prog 174 [eS l,cU r] (Ic (Vm r l)):=by
 have h2:∀s:ByteArray,s.size<=1000000000->Fn prog 30 [cU r,sC s] (dE (cz r s)):=λs hs=>ly r s hr hs
 unfold Vm
 generalize hT:l.filter (λx=>cz r x.key)=T
 refine fi func174 ntmps174 ?_
 (refine w0 ?_)
 refine bw (bS 5 600 79 7 rfl rfl) ?_
 refine aj (X:=Nat×List It) (λx=>x.1<=l.length/\x.2.length<=x.1/\x.2++(l.drop x.1).filter (λx=>cz r x.key)=T)
  (λx=>aF [(0,eS l),(1,cU r),(5,.row 600 0),(6,iC .i64 (x.1:Nat))] [(600,gz x.2)]) (λx=>l.length-x.1) (0,[]) ⟨aag _,aaf _,by simpa using hT⟩ ?_
 rintro⟨k,ac⟩ ⟨g1,g0,g2⟩
 simp only at g1 g0 g2 ⊢
 by_cases hlt:k<l.length
 ·have h3:=h2 l[k].key (hk _ (aar hlt))
  rw[List.drop_eq_getElem_cons hlt,List.filter_cons]at g2
  clear h2 hT
  cases hr:cz r l[k].key with
  | false=>
   rw[hr]at h3 g2
   (refine au h3 ?_;repeat' first|apply aw|refine ah λhc=>?_)
   refine⟨(k+1,ac),⟨aL,aL,by simpa using g2⟩,aL,?_⟩
   exact ab
  | true=>
   rw[hr]at h3 g2
   (refine au h3 ?_;repeat' first|apply aw|refine ah λhc=>?_)
   refine⟨(k+1,ac++[l[k]]),⟨aL,bD,by simpa using g2⟩,aL,az (aU 600 601) (az (aU 601 600) ?_)⟩
   exact ab
 ·have hkl:k=l.length:=ae
  subst hkl
  rw[aba]at g2
  simp at g2
  subst g2
  clear h2 hT
  (refine w0 ?_;refine ah λhc=>?_)
  exact dr (cJ rfl rfl rfl rfl)
theorem jy (l:List It)(hl:l.length<=1000000000):Fn prog 244 [eS l] (.per (ai (.int .i64 (jd l:Nat)))):=by
 refine fi func244 ntmps244 ?_
 (refine wH ?_)
 refine wD l.length (λk=>aF [(0,eS l),(3,iC .i64 (jd (l.take k):Nat)),(4,iC .i64 (k:Nat))] []) ?_ ?_
 ·exact ab
 ·intro k hk
  have hb:=Rt (l.take k)
  rw[aaK]at hb
  by_cases hlt:k<l.length
  ·have hb2:=BO l[k]
   have hs:jd (l.take (k+1))=jd (l.take k)+(z8 l[k]).length:=by rw[bp l k hlt,ry]
   by_cases hr:dA l[k]=true
   ·(refine u3 (fy l[k]) (O1 l[k] hr) ?_;repeat' first|apply aw|refine ah λhc=>?_)
    refine⟨hlt,?_⟩
    exact ab
   ·have hz:z8 l[k]=[]:=by rw[z8,aab hr]
    rw[hz]at hs
    simp at hs
    (refine kD (fy l[k]) ?_;repeat' first|apply aw|refine ah λhc=>?_)
    refine⟨hlt,?_⟩
    exact ab
  ·(refine wH ?_;refine ah λhc=>?_)
   refine dr ?_
   exact aq rfl (by rw[aaj ae])
abbrev Rv (l:List It):Cnt:=.per (cX l)
abbrev Zo (b:List (List It)):Ret:=.per (cn 1 (b.map λc=>[cX c]))
def m8 (l:List It)(a b:Nat):List It:=(l.drop a).take (b-a)
theorem yB (l:List It)(k:Nat)(h:k<l.length):m8 l k (k+1)=[l[k]]:=by unfold m8;rw[List.drop_eq_getElem_cons h,show k+1-k=1 by omega];rfl
theorem uH (l:List It)(a b:Nat)(h:b<l.length)(hab:a<=b):m8 l a (b+1)=m8 l a b++[l[b]]:=by
 unfold m8
 rw[show b+1-a=(b-a)+1 by omega,List.take_succ_eq_append_getElem (by rw[abe];omega),List.getElem_drop]
 congr 3;omega
theorem Fj (l:List It)(a:Nat):m8 l a a=[]:=by simp[m8]
def pq (s:Spl):List (List It):=match s.c with
 | none=>[[]]
 | some c=>s.D++[c]
def Mc (limit:Int)(l:List It)(x:Nat×List (List It)):Prop:=
 x.1<=l.length/\((x.1=0/\x.2=[])\/(l=[]/\x.2=[[]]) \/
  ∃D c left,mA limit (l.take x.1)=⟨D,some c,left⟩/\x.2=D++[c]/\0<x.1/\∀h:x.1<l.length,wd (l[x.1]'h)>left)
theorem Rx (h:Mc limit l x)(h1:l.length<=x.1)(h2:x.2≠[]):x.2=pq (mA limit l):=by
 obtain⟨q,⟨_,h3⟩|⟨rfl,h3⟩|⟨D,c,left,h3,h4,h5,h6⟩⟩:=h
 ·exact absurd h3 h2
 ·rw[h3];rfl
 ·rw[aaj h1]at h3
  rw[h3,h4];rfl
def Vo (limit:Int)(l:List It)(x:Nat×List (List It))(to:Nat):Prop:=
 x.1<=to/\to<=l.length/\(to=x.1\/mA limit (l.take to)=⟨x.2,some (m8 l x.1 to),limit-jd (m8 l x.1 to)⟩)
theorem uI (x:It):jd [x]=(z8 x).length:=by simp[jd]
theorem Md {to:Nat}(h:Mc limit l x)(hq:Vo limit l x to)(hlt:to<l.length)(hs:(jd (m8 l x.1 (to+1)):Int)<=limit):Vo limit l x (to+1):=by
 obtain⟨q1,q2,q3⟩:=hq
 refine⟨ae,hlt,.inr ?_⟩
 have hsz:=ry (m8 l x.1 to) l[to]
 rw[AU limit l to hlt,uH l x.1 to hlt q1,hsz]
 rw[uH l x.1 to hlt q1,hsz]at hs
 by_cases he:to=x.1
 ·subst he
  rw[Fj]
  obtain⟨r1,⟨r2,r3⟩|⟨r2,r3⟩|⟨D,c,left,r2,r3,r4,r5⟩⟩:=h
  all_goals grind[mA,rz,jd,wd]
 grind[Kc,wd]
theorem Mf {to:Nat}(h:Mc limit l x)(hr:x.1<l.length\/x.2=[])(hok:∀x∈l,yx limit x)(hq:Vo limit l x to)(hs:to<l.length->¬(jd (m8 l x.1 (to+1)):Int)<=limit) :
 Mc limit l (to,x.2++[m8 l x.1 to])/\(x.1<to\/x.2=[]):=by
 obtain⟨q1,q2,q3⟩:=hq
 have hne:to=x.1->l=[]:=λhe=>by
  subst he
  by_cases hlt:x.1<l.length
  ·have:=hs hlt
   rw[yB l _ hlt,uI]at this
   exact absurd (hok _ (aar hlt)).2 (by unfold wd;omega)
  ·have h2:=hr.resolve_left hlt
   obtain⟨r1,⟨r2,r3⟩|⟨r2,r3⟩|⟨D,c,left,r2,r3,r4,r5⟩⟩:=h
   all_goals simp_all
 by_cases he:to=x.1
 ·have hl:=hne he
  subst hl
  have hx2:=hr.resolve_left aA
  refine⟨⟨q2,.inr (.inl ⟨rfl,?_⟩)⟩,.inr hx2⟩
  rw[hx2,he,Fj];rfl
 ·have q3:=q3.resolve_left he
  refine⟨⟨q2,.inr (.inr ⟨_,_,_,q3,rfl,aL,λhlt=>?_⟩)⟩,.inl ae⟩
  have:=hs hlt
  rw[uH l x.1 to hlt q1,ry]at this
  grind[wd]
theorem Ry (h2:limit<=9223372036854775807)(hok:∀x∈l,yx limit x)(h:Mc limit l x):x.2.length<=x.1+1:=by
 obtain⟨q,⟨_,h3⟩|⟨rfl,h3⟩|⟨D,c,left,h3,h4,h5,h6⟩⟩:=h
 ·rw[h3];simp
 ·rw[h3];simp
 ·have:=Vl limit (l.take x.1) h2 (λy hy=>hok y (abC hy))
  rw[h3]at this
  have hl:=this.len
  have hc:=this.ne c rfl
  grind
theorem Mg (limit:Int)(l:List It)(hl:l.length<=1000000000)(h2:limit<=9223372036854775807) :
 Fn prog 177 [iC .i64 limit,Rv l] (.tup2 (Zo (uG limit l)) (.per (ai (.int .i64 (jC limit l))))):=by
 obtain⟨m,hm,hall,hbad,hok⟩:=Cz limit l
 unfold uG
 refine fi func177 ntmps177 ?_
 (refine wH ?_)
 refine wD m (λk=>aF [(0,iC .i64 limit),(1,Rv l),(6,iC .i64 (k:Nat))] []) ?_ ?_
 ·exact ab
 ·intro k hk
  by_cases hkm:k<m
  ·have hlt:k<l.length:=ae
   obtain⟨hx1,hx2⟩:=hall l[k] (by rw[List.mem_take_iff_getElem];exact⟨k,ae,rfl⟩)
   have hs1:=yB l k hlt
   unfold m8 at hs1
   have hs2:jd ((l.drop k).take (k+1-k))=(z8 l[k]).length:=by rw[hs1,uI]
   unfold wd at hx2
   (refine u3 (fy l[k]) (jy ((l.drop k).take (k+1-k)) bD) ?_;repeat' first|apply aw|refine ah λhc=>?_|((first|apply aH rfl|apply aJ rfl);(focus (try apply ag rfl rfl rfl rfl rfl);(exact kc (h:=k+1) (l:=k) ⟨rfl,rfl,rfl⟩ rfl aS aS rfl rfl (by refine⟨?_,?_,?_,?_⟩<;>first|rfl|exact⟨_,_,rfl,rfl⟩|omega|(simp;done)|(simp;omega))));refine u3 (fy l[k]) (jy ((l.drop k).take (k+1-k)) bD) ?_))
   refine⟨hkm,?_⟩
   exact ab
  have hkm:k=m:=ae
  subst hkm
  by_cases hlt:k<l.length
  ·have hb:=hbad hlt
   clear hbad hok hall
   have hs1:=yB l k hlt
   unfold m8 at hs1
   have hs2:jd ((l.drop k).take (k+1-k))=(z8 l[k]).length:=by rw[hs1,uI]
   unfold wd at hb
   rcases hb with⟨hb1,hb2⟩|⟨hb1,hb2,hb3⟩
   all_goals
    have hb0:jC limit l≠0:=ae
    rw[aab hb0]
    (refine u3 (fy l[k]) (jy ((l.drop k).take (k+1-k)) bD) ?_;repeat' first|apply aw|refine ah λhc=>?_|((first|apply aH rfl|apply aJ rfl);(focus (try apply ag rfl rfl rfl rfl rfl);(exact kc (h:=k+1) (l:=k) ⟨rfl,rfl,rfl⟩ rfl aS aS rfl rfl (by refine⟨?_,?_,?_,?_⟩<;>first|rfl|exact⟨_,_,rfl,rfl⟩|omega|(simp;done)|(simp;omega))));refine u3 (fy l[k]) (jy ((l.drop k).take (k+1-k)) bD) ?_))
    refine dV ?_ ?_
    ·exact eZ rfl
    ·exact aq rfl ae
  have hkl:k=l.length:=ae
  subst hkl
  have hb0:=hok rfl
  rw[hb0,aae rfl]
  have hall':∀x∈l,yx limit x:=λx hx=>hall x (by rw[aa9];exact hx)
  clear hbad hok hall
  (refine wH ?_;refine ah λhc=>?_)
  refine bw (bS 7 700 23 1 rfl rfl) ?_
  refine aj (Mc limit l) (λx=>aF [(0,iC .i64 limit),(1,Rv l),(7,.row 700 0),(8,iC .i64 (x.1:Nat))] [(700,.row 23 1 (x.2.map λc=>[cX c]))]) (λx=>(l.length-x.1)+(if x.2=[]then 1 else 0)) (0,[]) ⟨aag _,.inl ⟨rfl,rfl⟩⟩ ?_
  rintro⟨fr,out⟩ hP
  have hfr:=hP.1
  have hol:=Ry h2 hall' hP
  simp only at hfr hol
  (refine wH ?_;repeat' first|apply aw|refine ah λhc=>?_)
  ·have hr:fr<l.length\/out=[]:=by have:=@List.length_eq_zero_iff _ out;grind
   refine ci (Vo limit l (fr,out)) (λto=>aF [(0,iC .i64 limit),(1,Rv l),(7,.row 700 0),(8,iC .i64 (fr:Nat)),(9,iC .i64 (to:Nat))] [(700,.row 23 1 (out.map λc=>[cX c]))]) (λto=>l.length-to) fr ⟨aaf _,hfr,.inl rfl⟩ ?_ ?_
   ·show Le _ _ (aF _ _)
    exact ab
   ·intro to hQ
    have hto:=hQ.2.1
    have hto1:=hQ.1
    simp only at hto1
    (repeat' (first|refine tL ?_|refine mF ?_|refine pD ?_|refine pE ?_|refine tM ?_|refine kQ ?_|refine bW cI ?_|refine tH ?_|refine tK (by kernel_rfl) ?_|refine pK ?_|refine pL ?_|refine pM ?_|refine zL ?_|refine zM ?_|refine pN ?_|refine mH rfl ?_|(refine j7 rfl rfl (λhc=>?_) (λhc=>?_)<;>(try rw[abq]at hc)<;>(try rw[Bool.not_eq_false']at hc)<;>(try first|rw[aaI]at hc|rw[abb]at hc|rw[beq_iff_eq]at hc|rw[beq_eq_false_iff_ne]at hc|rw[bne_iff_ne]at hc|rw[bne_eq_false_iff_eq]at hc)<;>(repeat rw[aad]at hc)<;>(try first|contradiction|(exfalso;omega)|(exfalso;simp[*]at hc;done)))|((first|apply aH rfl|apply cB rfl|apply aJ rfl|apply cC rfl);focus (first|exact GG|(apply gR;(focus rfl);(first|apply kE rfl rfl rfl rfl rfl (rL rfl)|apply kE rfl rfl rfl rfl rfl rfl);intro g1 g2;(first|(apply bn 20;(focus rfl);apply BA;(case hp=>exact⟨rfl,rfl,rfl⟩);(case ho=>exact⟨_,rfl⟩);(case' hf=>apply jy ((l.drop fr).take (to+1-fr)));(case hpl=>rfl);(case hg=>(repeat (first|exact GL.nil|(refine GL.cons ?_ ?_;focus (first|exact eF (av rfl (by rw[g2];rfl))|exact eF (ay rfl (by rw[g2];rfl))|exact ff (ay rfl (by rw[g2];rfl))|exact fg (ay rfl (by rw[g2];rfl))|exact eF rfl|exact ff rfl|exact fg rfl)))));all_goals (first|assumption|omega|(simp;done)|(simp;omega)))|(apply bn 11;(focus rfl);apply kc (h:=to+1) (l:=fr)<;>first|(first|exact av rfl (by rw[g2];rfl)|exact ay rfl (by rw[g2];rfl)|exact av rfl (by rw[g1,g2];rfl)|exact ay rfl (by rw[g1,g2];rfl)|rfl|exact⟨rfl,rfl,rfl⟩|infer_instance|exact av rfl (by simp_all)|exact ay rfl (by simp_all))|(have g3:to<l.length:=(by simpa using g2);refine⟨⟨_,_,av rfl (by rw[g2];rfl),rfl⟩,⟨_,_,av rfl (by rw[g2];rfl),rfl⟩,ae,ae⟩))))|(apply gR;(focus rfl);(first|apply rK rfl rfl rfl rfl rfl (rL rfl)|apply rK rfl rfl rfl rfl rfl rfl);intro g1 g2;(first|(apply bn 20;(focus rfl);apply BA;(case hp=>exact⟨rfl,rfl,rfl⟩);(case ho=>exact⟨_,rfl⟩);(case' hf=>apply jy ((l.drop fr).take (to+1-fr)));(case hpl=>rfl);(case hg=>(repeat (first|exact GL.nil|(refine GL.cons ?_ ?_;focus (first|exact eF (av rfl (by rw[g2];rfl))|exact eF (ay rfl (by rw[g2];rfl))|exact ff (ay rfl (by rw[g2];rfl))|exact fg (ay rfl (by rw[g2];rfl))|exact eF rfl|exact ff rfl|exact fg rfl)))));all_goals (first|assumption|omega|(simp;done)|(simp;omega)))|(apply bn 11;(focus rfl);apply kc (h:=to+1) (l:=fr)<;>first|(first|exact av rfl (by rw[g2];rfl)|exact ay rfl (by rw[g2];rfl)|exact av rfl (by rw[g1,g2];rfl)|exact ay rfl (by rw[g1,g2];rfl)|rfl|exact⟨rfl,rfl,rfl⟩|infer_instance|exact av rfl (by simp_all)|exact ay rfl (by simp_all))|(have g3:to<l.length:=(by simpa using g2);refine⟨⟨_,_,av rfl (by rw[g2];rfl),rfl⟩,⟨_,_,av rfl (by rw[g2];rfl),rfl⟩,ae,ae⟩))))|(apply bn 20;(focus rfl);first|(apply BA;(case hp=>exact⟨rfl,rfl,rfl⟩);(case ho=>exact⟨_,rfl⟩);(case' hf=>apply jy ((l.drop fr).take (to+1-fr)));(case hpl=>rfl);(case hg=>(repeat (first|exact GL.nil|(refine GL.cons ?_ ?_;focus (first|exact eF rfl|exact ff rfl|exact gF rfl rfl rfl|exact fg rfl|exact gG rfl|exact fa rfl)))));all_goals (first|assumption|omega|(simp;done)|(simp;omega)))|(apply wA;(case hp=>exact⟨rfl,rfl,rfl⟩);(case ho=>exact⟨_,rfl⟩);(case' hf=>apply jy ((l.drop fr).take (to+1-fr)));(case hg=>(repeat (first|exact GL.nil|(refine GL.cons ?_ ?_;focus (first|exact eF rfl|exact ff rfl|exact gF rfl rfl rfl|exact fg rfl|exact gG rfl|exact fa rfl)))));all_goals (first|assumption|omega|(simp;done)|(simp;omega)))|(apply uX;(case hp=>exact⟨rfl,rfl,rfl⟩);(case ho=>exact⟨_,rfl⟩);(case' hf=>apply jy ((l.drop fr).take (to+1-fr)));(case hg=>(repeat (first|exact GL.nil|(refine GL.cons ?_ ?_;focus (first|exact eF rfl|exact ff rfl|exact gF rfl rfl rfl|exact fg rfl|exact gG rfl|exact fa rfl)))));all_goals (first|assumption|omega|(simp;done)|(simp;omega))))))))
    ·have hc':to<l.length/\(jd (m8 l fr (to+1)):Int)<=limit:=by unfold m8;grind
     refine⟨to+1,Md hP hQ hc'.1 hc'.2,ae,?_⟩
     show Le _ _ (aF _ _)
     exact ab
    ·have hc':to<l.length->¬(jd (m8 l fr (to+1)):Int)<=limit:=by unfold m8;grind
     obtain⟨p1,p2⟩:=Mf hP hr hall' hQ hc'
     refine⟨(to,out++[m8 l fr to]),p1,?_,?_⟩
     ·rcases p2 with p2|p2
      ·simp only at p2 ⊢
       rw[aab aA];split<;>omega
      ·simp only at p2 ⊢
       rw[aab aA,aae p2];omega
     ·show Le _ _ (aF _ _)
      exact ab
  ·have he:=Rx hP (by simp only;grind) (by simp only;have:=@List.length_eq_zero_iff _ out;grind)
   simp only at he
   refine dV ?_ ?_
   ·exact W5 rfl rfl rfl he
   ·exact aq rfl rfl
abbrev WD (F:List Rg)(K:List Pc)(lim:Int)(R:List Rg)(th:PV):List PV:=[gd F,ib K,ai (.int .i64 lim),gd R,th]
abbrev uJ (F:List Rg)(K:List Pc)(lim:Int)(R:List Rg)(th:PV):Cnt:=.per (cu (WD F K lim R th))
def Rz (r f k:Bool):Int:=if r=false then 41 else if(f&&k)=false then 2 else 0
abbrev Kd (B:List (List It))(K:List Pc):PV:=cu [cn 1 (B.map λc=>[cX c]),ib K]
theorem X3 (s:Sta)(F:List Rg)(K:List Pc)(lim:Int)(R:List Rg)(th:PV)(r f k:Bool)(a1:Fn prog 21 [kq s] (dE r))(a2:Fn prog 55 [cU F] (dE f))(a3:Fn prog 57 [dN K] (dE k)) :
 Fn prog 268 [kq s,uJ F K lim R th] (eA (Rz r f k)):=by
 cases r<;>cases f<;>cases k
 all_goals
  refine fi func268 ntmps268 ?_
  (refine fF a1 a2 a3 ?_;repeat' first|apply aw|refine ah λhc=>?_)
  exact uZ
theorem IB (s:Sta)(F:List Rg)(K:List Pc)(lim:Int)(R:List Rg)(th:PV)(IN:List It)(f:It->Bool)(hl:IN.length<=1000000)
 (a1:Fn prog 64 [eS s.its,cU F] (.per (cX IN))) (a2:∀x∈IN,Fn prog 63 [dN K,sC x.key,vb x.rep x.cnt] (dE (f x))) :
 Fn prog 270 [kq s,uJ F K lim R th] (Ic (IN.filter λx=>!f x)):=by
 generalize hT:(IN.filter λx=>!f x)=T
 refine fi func270 ntmps270 ?_
 (refine au a1 ?_)
 clear a1
 refine bw (bS 5 600 79 7 rfl rfl) ?_
 refine aj (X:=Nat×List It) (λx=>x.1<=IN.length/\x.2.length<=x.1/\x.2++(IN.drop x.1).filter (λx=>!f x)=T)
  (λx=>aF [(3,.ptr 3 0 0),(5,.row 600 0),(12,.per (cX IN)),(13,iC .i64 (IN.length:Nat)),(14,iC .i64 (x.1:Nat))] [(3,.box 302 ((WD F K lim R th).map Cnt.per)),(600,gz x.2)]) (λx=>IN.length-x.1) (0,[]) ⟨aag _,aA,by simpa using hT⟩ ?_
 rintro⟨i,ac⟩ ⟨h1,h2,h3⟩
 simp only at h1 h2 h3 ⊢
 by_cases hi:i<IN.length
 ·have c2:=a2 _ (aar hi)
  rw[List.drop_eq_getElem_cons hi,List.filter_cons]at h3
  clear a2
  cases hf:f IN[i]with
  | true=>
   rw[hf]at h3 c2
   (refine au c2 ?_;repeat' first|apply aw|refine ah λhc=>?_)
   refine⟨(i+1,ac),⟨aL,aL,by simpa using h3⟩,aL,?_⟩
   exact ab
  | false=>
   rw[hf]at h3 c2
   (refine au c2 ?_;repeat' first|apply aw|refine ah λhc=>?_)
   refine⟨(i+1,ac++[IN[i]]),⟨aL,bD,by simpa using h3⟩,aL,az (aU 600 601) (az (aU 601 600) ?_)⟩
   exact ab
 ·have h3:ac=T:=by rw[<-h3,aay ae];simp
  clear a2
  (refine w0 ?_;refine ah λhc=>?_)
  refine dr ?_
  exact cJ rfl rfl rfl (by rw[h3])
theorem Vp (F:List Rg)(K:List Pc)(lim:Int)(R:List Rg)(th:PV)(U Q:List It)(B:List (List It))(e:Int)(a1:Fn prog 314 [cU R,.per th,eS U] (.per (cX Q)))(a2:Fn prog 313 [iC .i64 lim,eS Q] (.tup2 (.per (cn 1 (B.map λc=>[cX c]))) (eA e))) :
 Fn prog 269 [uJ F K lim R th,.per (cX U)] (.tup2 (.per (cn 1 (B.map λc=>[cX c]))) (eA e)):=by
 refine fi func269 ntmps269 ?_
 (refine bt a1 a2 ?_)
 exact dV (cS rfl) (aq rfl rfl)
theorem RA (s:Sta)(F:List Rg)(K:List Pc)(lim:Int)(R:List Rg)(th:PV)(e:Int)(he:e≠0)(a1:Fn prog 268 [kq s,uJ F K lim R th] (eA e)) :
 Fn prog 232 [kq s,uJ F K lim R th] (.tup2 (.per (Kd [] [])) (eA e)):=by
 refine fi func232 ntmps232 ?_
 (refine au a1 ?_;refine ah λhc=>?_)
 refine dV ?_ ?_
 ·exact m5
 ·exact aq rfl rfl
theorem RB (s:Sta)(F:List Rg)(K:List Pc)(lim:Int)(R:List Rg)(th:PV)(U:List It)(B:List (List It))(e:Int)(J:List Pc)(a1:Fn prog 268 [kq s,uJ F K lim R th] (eA 0))(a2:Fn prog 270 [kq s,uJ F K lim R th] (.per (cX U)))
 (a3:Fn prog 269 [uJ F K lim R th,.per (cX U)] (.tup2 (.per (cn 1 (B.map λc=>[cX c]))) (eA e))) (a4:e=0->Fn prog 59 [ox s.know,.per (gd F)] (.per (ib J))) :
 Fn prog 232 [kq s,uJ F K lim R th] (.tup2 (.per (if e=0 then Kd B J else Kd [] [])) (eA e)):=by
 by_cases he:e=0
 ·rw[aae he]
  subst he
  have a4:=a4 rfl
  refine fi func232 ntmps232 ?_
  (refine u0 a1 a2 a3 a4 ?_;repeat' first|apply aw|refine ah λhc=>?_)
  refine dV ?_ ?_
  ·exact Od
  ·exact aq rfl rfl
 ·rw[aab he]
  clear a4
  refine fi func232 ntmps232 ?_
  (refine fF a1 a2 a3 ?_;repeat' first|apply aw|refine ah λhc=>?_)
  refine dV ?_ ?_
  ·exact m5
  ·exact aq rfl rfl
def iu (l:List Snt):List Snt:=eC cP l
theorem IC (l:List Snt):iu l=eC cP l:=rfl
theorem lB (l:List Snt):(iu l).length=l.length:=lu l
theorem CB {x y:Snt}:cP x y=true↔vj x y<0:=by grind[cP]
theorem CC {x y:Snt}:cP x y=false↔¬vj x y<0:=by grind[cP]
theorem wg {l:List Snt}(h:lX cP l):iu l=l:=j0 ey h
theorem te (l:List Snt):lX cP (iu l):=(ec ey l).1
theorem tf (l:List Snt):iH cP l (iu l):=(ec ey l).2
theorem Vq {M N:List Snt}(h1:lX cP N)(h2:iH cP M N):iu M=N:=sF ey h1 h2
theorem iE {l r:List Snt}(h:m7 r)(hs:∀x∈l,x∈r):m7 l:=λx hx=>h x (hs x hx)
theorem yC (A X B Y Z:List Snt)(a b n:Int)(ha:a=(A.length:Nat))(hb:b=((A.length+X.length+B.length:Nat):Int))(hn:n=(X.length:Nat))(hxy:X.length=Y.length)(hl:A.length+X.length+B.length+Y.length+Z.length<=1000000000) :
 bZ prog 362 [.row 1000 0,iC .i64 a,iC .i64 b,iC .i64 n,jG] [(1000,eD (A++X++B++Y++Z))] .any [(1000,eD (A++Y++B++X++Z))]:=by
 subst ha hb hn
 generalize hR:A++Y++B++X++Z=R
 refine cp func362 ntmps362 ?_
 (refine w0 ?_)
 refine ci (X:=List Snt×List Snt×List Snt×List Snt) (λx=>x.1.length+x.2.1.length=X.length/\x.1.length=x.2.2.1.length/\x.2.1.length=x.2.2.2.length/\A++(x.2.2.1++x.2.2.2)++B++(x.1++x.2.1)++Z=R)
  (λx=>aF [(0,.row 1000 0),(1,iC .i64 (A.length:Nat)),(2,iC .i64 ((A.length+X.length+B.length:Nat):Int)),(3,iC .i64 (X.length:Nat)),(10,iC .i64 (x.1.length:Nat))] [(1000,eD (A++x.2.2.1++(x.2.1++(B++(x.1++(x.2.2.2++Z))))))]) (λx=>x.2.1.length) ([],X,[],Y) ⟨aA,rfl,hxy,by simpa using hR⟩ ?_ ?_
 ·have e:A++[]++(X++(B++([]++(Y++Z))))=A++X++B++Y++Z:=aA
  rw[e]
  exact ab
 ·rintro⟨x1,x2,y1,y2⟩ ⟨h1,h2,h3,h4⟩
  simp only at h1 h2 h3 h4 ⊢
  cases x2 with
  | nil=>
   have hy2:y2=[]:=aax (by simpa using h3.symm)
   subst hy2
   have hi:x1.length=X.length:=by simpa using h1
   have e:A++y1++([]++(B++(x1++([]++Z))))=R:=by rw[<-h4];simp
   rw[e,hi]
   (refine w0 ?_;refine ah λhc=>?_)
   exact kJ
  | cons x x2=>
   obtain⟨y,y2,rfl⟩:∃y y2',y2=y::y2':=by cases y2<;>grind
   simp only[aaD]at h1 h3
   obtain⟨i,hi⟩:∃i,x1.length=i:=⟨_,rfl⟩
   obtain⟨a,ha⟩:∃a,A.length=a:=⟨_,rfl⟩
   obtain⟨b,hb⟩:∃b,A.length+X.length+B.length=b:=⟨_,rfl⟩
   obtain⟨q,hq⟩:∃q,X.length=q:=⟨_,rfl⟩
   generalize hD:A++y1++(x::x2++(B++(x1++(y::y2++Z))))=D
   have hlen:D.length=A.length+X.length+B.length+Y.length+Z.length:=by rw[<-hD];simp;omega
   have HA:(D.map sntP)[((a:Int)+(i:Int)).toNat]?=some (sntP x):=by rw[List.getElem?_map,<-hD,show A++y1++(x::x2++(B++(x1++(y::y2++Z))))=(A++y1)++x::(x2++(B++(x1++(y::y2++Z))))by simp,bX _ _ _ _ bD];rfl
   have HB:(D.map sntP)[((b:Int)+(i:Int)).toNat]?=some (sntP y):=by rw[List.getElem?_map,<-hD,show A++y1++(x::x2++(B++(x1++(y::y2++Z))))=(A++y1++x::x2++B++x1)++y::(y2++Z)by simp,bX _ _ _ _ bD];rfl
   have HS1:(D.map sntP).set ((a:Int)+(i:Int)).toNat (cN (sntP x) 0 (sntP y))=(A++y1++y::(x2++(B++(x1++(y::y2++Z))))).map sntP:=by rw[show(D.map sntP).set ((a:Int)+(i:Int)).toNat (cN (sntP x) 0 (sntP y))=(D.set ((a:Int)+(i:Int)).toNat y).map sntP from cO sntP _ _ _,<-hD,show A++y1++(x::x2++(B++(x1++(y::y2++Z))))=(A++y1)++x::(x2++(B++(x1++(y::y2++Z))))by simp,gk _ _ _ _ _ bD]
   generalize hD1:A++y1++y::(x2++(B++(x1++(y::y2++Z))))=D1 at HS1
   have hlen1:D1.length=D.length:=by rw[hlen,<-hD1];simp;omega
   have HB1:(D1.map sntP)[((b:Int)+(i:Int)).toNat]?=some (sntP y):=by rw[List.getElem?_map,<-hD1,show A++y1++y::(x2++(B++(x1++(y::y2++Z))))=(A++y1++y::x2++B++x1)++y::(y2++Z)by simp,bX _ _ _ _ bD];rfl
   have HS2:(D1.map sntP).set ((b:Int)+(i:Int)).toNat (cN (sntP y) 0 (sntP x))=(A++(y1++[y])++(x2++(B++(x1++[x]++(y2++Z))))).map sntP:=by
    rw[show(D1.map sntP).set ((b:Int)+(i:Int)).toNat (cN (sntP y) 0 (sntP x))=(D1.set ((b:Int)+(i:Int)).toNat x).map sntP from cO sntP _ _ _,<-hD1,show A++y1++y::(x2++(B++(x1++(y::y2++Z))))=(A++y1++y::x2++B++x1)++y::(y2++Z)by simp,gk _ _ _ _ _ bD]
    simp
   rw[hi,hb,ha,hq]
   (refine w0 ?_;repeat' first|apply aw|refine ah λhc=>?_|((first|apply aH rfl|apply cB rfl|apply aJ rfl|apply cC rfl);(focus (try apply ag rfl rfl rfl rfl rfl);first|((apply bn 5;(focus rfl);first|exact aD ⟨rfl,rfl,rfl⟩ rfl aS aS rfl rfl rfl HA rfl rfl rfl|exact aD ⟨rfl,rfl,rfl⟩ rfl aS aS rfl rfl rfl HB rfl rfl rfl))|((apply bn 6;(focus rfl);first|exact aW ⟨rfl,rfl⟩ rfl aS rfl rfl rfl rfl HA rfl (.inl rfl) rfl HS1|exact aW ⟨rfl,rfl⟩ rfl aS rfl rfl rfl rfl HB1 rfl (.inl rfl) rfl HS2)));refine w0 ?_))
   refine⟨(x1++[x],x2,y1++[y],y2),⟨bD,bD,aL,by rw[<-h4];simp⟩,aA,?_⟩
   simp only[aai,aaD,List.length_nil,hi]
   exact ab
theorem Vr (A U V Z:List Snt)(a m b:Int)(ha:a=(A.length:Nat))(hm:m=((A.length+U.length:Nat):Int))(hb:b=((A.length+U.length+V.length:Nat):Int))(hU:0<U.length)(hV:0<V.length)(hl:A.length+U.length+V.length+Z.length<=1000000000) :
 bZ prog 361 [.row 1000 0,iC .i64 a,iC .i64 m,iC .i64 b,jG] [(1000,eD (A++U++V++Z))] .any [(1000,eD (A++V++U++Z))]:=by
 generalize hR:A++V++U++Z=R
 obtain⟨k,hk⟩:∃k:Nat,A.length+U.length=k:=⟨_,rfl⟩
 obtain⟨u,hu⟩:∃u:Nat,U.length=u:=⟨_,rfl⟩
 obtain⟨v,hv⟩:∃v:Nat,V.length=v:=⟨_,rfl⟩
 rw[hk]at hm hb
 have ea:m-a=(u:Nat):=ae
 have eb:b-m=(v:Nat):=ae
 subst hm
 refine cp func361 ntmps361 ?_
 (refine oX ea eb ?_)
 refine ci (X:=List Snt×List Snt×List Snt×List Snt) (λx=>x.1.length+x.2.1.length=k/\0<x.2.1.length/\0<x.2.2.1.length/\x.1.length+x.2.1.length+x.2.2.1.length+x.2.2.2.length<=1000000000/\x.1++x.2.2.1++x.2.1++x.2.2.2=R)
  (λx=>aF [(0,.row 1000 0),(2,iC .i64 (k:Nat)),(4,jG),(10,iC .i64 (x.2.1.length:Nat)),(11,iC .i64 (x.2.2.1.length:Nat))] [(1000,eD (x.1++x.2.1++x.2.2.1++x.2.2.2))]) (λx=>x.2.1.length+x.2.2.1.length) (A,U,V,Z) ⟨aL,hU,hV,hl,hR⟩ ?_ ?_
 ·rw[hu,hv]
  exact ab
 ·rintro⟨A,U,V,Z⟩ ⟨h1,h2,h3,h4,h5⟩
  simp only at h1 h2 h3 h4 h5 ⊢
  clear hR hu hv ea eb hk ha hb hl hU hV
  obtain⟨i,hi⟩:∃i:Nat,U.length=i:=⟨_,rfl⟩
  obtain⟨j,hj⟩:∃j:Nat,V.length=j:=⟨_,rfl⟩
  rcases abG i j with hij|hij|hij
  ·obtain⟨B,Y,rfl,hB⟩:=fB V (j-i) ae
   have hy:Y.length=i:=by simp at hj;omega
   have h:=yC A U B Y Z ((k:Int)-(i:Int)) ((k:Int)+(j:Int)-(i:Int)) (i:Int) ae ae ae ae (by simp at h4;omega)
   rw[show A++U++(B++Y)++Z=A++U++B++Y++Z by simp,hi,hj]
   (refine ee (im h) ?_;repeat' first|apply aw|refine ah λhc=>?_)
   have hji:((B.length:Nat):Int)=(j:Int)-(i:Int):=ae
   refine⟨(A,Y,B,U++Z),⟨aL,aL,aL,by simp at h4 ⊢;omega,by rw[<-h5];simp⟩,aL,?_⟩
   have e:A++Y++B++(U++Z)=A++Y++B++U++Z:=aA
   simp only[e,hy,hji]
   exact ab
  ·subst hij
   have h:=yC A U [] V Z ((k:Int)-(i:Int)) (k:Int) (i:Int) ae bD ae ae bD
   rw[aan,aan,h5]at h
   rw[hi,hj]
   (refine ee (im h) ?_;refine ah λhc=>?_)
   exact kJ
  ·obtain⟨X,B,rfl,hX⟩:=fB U j ae
   have hB:B.length=i-j:=by simp at hi;omega
   have h:=yC A X B V Z ((k:Int)-(i:Int)) (k:Int) (j:Int) (by simp at h1 hi;omega) (by simp at h1;omega) ae ae (by simp at h4;omega)
   rw[show A++(X++B)++V++Z=A++X++B++V++Z by simp,hi,hj]
   (refine ee (im h) ?_;repeat' first|apply aw|refine ah λhc=>?_)
   have hji:((B.length:Nat):Int)=(i:Int)-(j:Int):=ae
   refine⟨(A++V,B,X,Z),⟨by simp at h1 ⊢;omega,aL,aL,by simp at h4 ⊢;omega,by rw[<-h5];simp⟩,aL,?_⟩
   simp only[hX,hji]
   exact ab
abbrev Nl (a m b:Int)(D D':List Snt):Prop:=bZ prog 359 [.row 1000 0,iC .i64 a,iC .i64 m,iC .i64 b,jG] [(1000,eD D)] .any [(1000,eD D')]
theorem Vs (A:List Snt)(x:Snt)(R Z:List Snt)(a m b:Int)(ha:a=(A.length:Nat))(hm:m=((A.length+1:Nat):Int))(hb:b=((A.length+1+R.length:Nat):Int))(hR:lX cP R)(hkx:qK x)(hkR:m7 R)(hl:A.length+1+R.length+Z.length<=1000000000) :
 Nl a m b (A++[x]++R++Z) (A++iu ([x]++R)++Z):=by
 obtain⟨ka,hka⟩:∃k:Nat,A.length=k:=⟨_,rfl⟩
 obtain⟨kb,hkb⟩:∃k:Nat,ka+1+R.length=k:=⟨_,rfl⟩
 rw[hka]at ha hm hb
 rw[hkb]at hb
 subst ha hm hb
 obtain⟨Q,hQ⟩:∃Q,Q=A++iu ([x]++R)++Z:=⟨_,rfl⟩
 have hfin:∀R1 R2,R=R1++R2->(∀y,R1.getLast?=some y->cP y x=true)->(∀y,R2.head?=some y->cP y x=false)->Q=A++R1++x::(R2++Z):=by
  rintro R1 R2 rfl h1 h2
  have hs:=List.pairwise_append.1 hR
  have hc:=ja ey (L1:=[]) (L2:=[x]) (R1:=R1) (R2:=R2) (abi _ _) hR (λ_ _ h=>by cases h) (λu v hu hv=>by grind)
  have e2:eC cP ([x]++R2)=[x]++R2:=j0 ey (List.pairwise_cons.2 ⟨λy hy=>by
   cases R2 with
   | nil=>simp at hy
   | cons z R2=>
    have h0:=h2 z rfl
    rcases aaU.1 hy with e|e
    ·subst e;exact h0
    ·exact ey.ntr y z x ((List.pairwise_cons.1 hs.2.1).1 y e) h0,hs.2.1⟩)
  rw[hQ,IC,show [x]++(R1++R2)=([]++[x])++(R1++R2)by simp,hc,e2,show eC cP ([]++R1)=R1 from j0 ey hs.1]
  simp
 rw[<-hQ]
 unfold Nl
 generalize hD:A++[x]++R++Z=D
 have hDl:D.length=kb+Z.length:=by rw[<-hD];simp;omega
 have hkD:∀i (h:i<D.length),ka<=i->i<kb->qK (D[i]'h):=by
  intro i h h1 h2
  have:D[i]'h∈[x]++R:=by
   have e:D[i]?=(([x]++R)++Z)[i-ka]?:=by rw[<-hD,show A++[x]++R++Z=A++([x]++R++Z)by simp,List.getElem?_append_right ae,hka]
   rw[aaz bD,aaa h]at e
   grind
  rcases aaS.1 this with q|q
  ·grind
  ·exact hkR _ q
 have HX:D[ka]?=some x:=by rw[<-hD,show A++[x]++R++Z=A++x::(R++Z)by simp,bX _ _ _ _ hka.symm]
 have HXm:(D.map sntP)[ka]?=some (sntP x):=by rw[List.getElem?_map,HX];rfl
 refine cp func359 ntmps359 ?_
 (refine w0 ?_;refine ah λhc=>?_)
 refine aj (X:=Nat×Nat) (λy=>ka+1<=y.1/\y.1<=y.2/\y.2<=kb/\(∀z,ka+1<y.1->D[y.1-1]?=some z->cP z x=true)/\(∀z,y.2<kb->D[y.2]?=some z->cP z x=false))
  (λy=>aF [(0,.row 1000 0),(1,iC .i64 (ka:Nat)),(4,jG),(10,iC .i64 (y.1:Nat)),(11,iC .i64 (y.2:Nat))] [(1000,eD D)]) (λy=>y.2-y.1) (ka+1,kb) ⟨aaf _,aL,aaf _,λz h=>by simp at h,λz h=>by simp at h⟩ ?_
 rintro⟨i,j⟩ ⟨h1,h2,h3,h4,h5⟩
 simp only at h1 h2 h3 h4 h5 ⊢
 by_cases hij:i<j
 ·obtain⟨h,hh⟩:∃h:Nat,((i:Int)+(j:Int)) / 2=(h:Nat):=⟨(i+j) / 2,ae⟩
  have hih:i<=h:=ae
  have hhj:h<j:=ae
  have hlt:h<D.length:=ae
  have hmm:=td D[h] x (hkD h hlt ae ae) hkx
  have HJ:(D.map sntP)[h]?=some (sntP D[h]):=by rw[List.getElem?_map,aaa hlt];rfl
  (refine oY hh ?_;repeat' first|apply aw|refine ah λhc=>?_|((first|apply aH rfl|apply aJ rfl);(focus (try apply ag rfl rfl rfl rfl rfl);first|((apply bn 5;(focus rfl);exact aD ⟨rfl,rfl,rfl⟩ rfl aS aS rfl rfl rfl HJ rfl rfl rfl))|((apply bn 5;(focus rfl);exact aD ⟨rfl,rfl,rfl⟩ rfl aS aS rfl rfl rfl HXm rfl rfl rfl))|(exact Nk [] hmm));refine oY hh ?_))
  ·refine⟨(h+1,j),⟨aL,aL,h3,λz _ hz=>?_,h5⟩,aL,?_⟩
   ·grind[CB]
   ·exact ab
  ·refine⟨(i,h),⟨h1,hih,aL,h4,λz _ hz=>?_⟩,aL,?_⟩
   ·grind[CC]
   ·exact ab
 ·have hij':j=i:=ae
  subst hij'
  obtain⟨R1,R2,rfl,hR1⟩:=fB R (j-(ka+1)) ae
  have hq:=hfin R1 R2 rfl (λy hy=>?_) (λy hy=>?_)
  ·have hD':A++[x]++R1++(R2++Z)=D:=by rw[<-hD];simp
   clear h4 h5 hfin hR hkR HX HXm hkD
   subst hq
   (refine w0 ?_;refine ah λhc=>?_)
   refine ci (X:=List Snt×List Snt) (λy=>y.1++y.2=R1)
    (λy=>aF [(0,.row 1000 0),(10,iC .i64 (j:Nat)),(13,iC .i64 ((ka+y.1.length:Nat):Int))] [(1000,eD (A++y.1++x::(y.2++(R2++Z))))]) (λy=>y.2.length) ([],R1) rfl ?_ ?_
   ·rw[<-hD']
    have e:A++[x]++R1++(R2++Z)=A++[]++x::(R1++(R2++Z)):=aA
    rw[e]
    exact ab
   ·rintro⟨p,q⟩ hpq
    simp only at hpq ⊢
    obtain⟨k,hk⟩:∃k,ka+p.length=k:=⟨_,rfl⟩
    have hln:p.length+q.length=R1.length:=by rw[<-hpq];simp
    rw[hk]
    cases q with
    | nil=>
     have hp:p=R1:=by simpa using hpq
     subst hp
     simp at hln
     (refine w0 ?_;refine ah λhc=>?_)
     exact kJ
    | cons y q=>
     simp at hln
     generalize hE:A++p++x::(y::q++(R2++Z))=E
     have hEl:k+1<E.length:=by rw[<-hE];simp;omega
     have H0:(E.map sntP)[k]?=some (sntP x):=by rw[List.getElem?_map,<-hE,bX _ _ _ _ bD];rfl
     have H1:(E.map sntP)[k+1]?=some (sntP y):=by rw[List.getElem?_map,<-hE,show A++p++x::(y::q++(R2++Z))=(A++p++[x])++y::(q++(R2++Z))by simp,bX _ _ _ _ bD];rfl
     have S0:(E.map sntP).set k (cN (sntP x) 0 (sntP y))=(A++p++y::(y::q++(R2++Z))).map sntP:=by rw[show(E.map sntP).set k (cN (sntP x) 0 (sntP y))=(E.set k y).map sntP from cO sntP _ _ _,<-hE,gk _ _ _ _ _ bD]
     generalize hE1:A++p++y::(y::q++(R2++Z))=E1 at S0
     have hEl1:k+1<E1.length:=by rw[<-hE1];simp;omega
     have H2:(E1.map sntP)[k+1]?=some (sntP y):=by rw[List.getElem?_map,<-hE1,show A++p++y::(y::q++(R2++Z))=(A++p++[y])++y::(q++(R2++Z))by simp,bX _ _ _ _ bD];rfl
     have S1:(E1.map sntP).set (k+1) (cN (sntP y) 0 (sntP x))=(A++(p++[y])++x::(q++(R2++Z))).map sntP:=by
      rw[show(E1.map sntP).set (k+1) (cN (sntP y) 0 (sntP x))=(E1.set (k+1) x).map sntP from cO sntP _ _ _,<-hE1,show A++p++y::(y::q++(R2++Z))=(A++p++[y])++y::(q++(R2++Z))by simp,gk _ _ _ _ _ bD]
      simp
     (refine w0 ?_;repeat' first|apply aw|refine ah λhc=>?_|((first|apply aH rfl|apply cB rfl|apply aJ rfl|apply cC rfl);(focus (try apply ag rfl rfl rfl rfl rfl);first|((apply bn 5;(focus rfl);exact aD ⟨rfl,rfl,rfl⟩ rfl aS aS rfl rfl rfl H0 rfl rfl rfl))|((apply bn 5;(focus rfl);exact aD ⟨rfl,rfl,rfl⟩ rfl aS aS rfl rfl rfl H1 rfl rfl rfl))|((apply bn 6;(focus rfl);exact aW ⟨rfl,rfl⟩ rfl aS rfl rfl rfl rfl H0 rfl (.inl rfl) rfl S0))|((apply bn 6;(focus rfl);exact aW ⟨rfl,rfl⟩ rfl aS rfl rfl rfl rfl H2 rfl (.inl rfl) rfl S1)));refine w0 ?_))
     refine⟨(p++[y],q),by simpa using hpq,aA,?_⟩
     have ek:((ka+(p++[y]).length:Nat):Int)=(k:Int)+1:=bD
     simp only[ek]
     exact ab
  ·obtain⟨R1',rfl⟩:=j2 hy
   simp at hR1
   refine h4 y ae ?_
   rw[<-hD,show A++[x]++(R1'++[y]++R2)++Z=(A++[x]++R1')++y::(R2++Z)by simp,bX _ _ _ _ bD]
  ·obtain⟨R2',rfl⟩:=ma hy
   simp at hkb
   refine h5 y ae ?_
   rw[<-hD,show A++[x]++(R1++y::R2')++Z=(A++[x]++R1)++y::(R2'++Z)by simp,bX _ _ _ _ bD]
theorem RC (A L:List Snt)(y:Snt)(Z:List Snt)(a m b:Int)(ha:a=(A.length:Nat))(hm:m=((A.length+L.length:Nat):Int))(hb:b=((A.length+L.length+1:Nat):Int))(h1L:L.length≠1)(hL:lX cP L)(hkL:m7 L)(hky:qK y)(hl:A.length+L.length+1+Z.length<=1000000000) :
 Nl a m b (A++L++[y]++Z) (A++iu (L++[y])++Z):=by
 obtain⟨ka,hka⟩:∃k:Nat,A.length=k:=⟨_,rfl⟩
 obtain⟨km,hkm⟩:∃k:Nat,ka+L.length=k:=⟨_,rfl⟩
 rw[hka]at ha hm hb
 rw[hkm]at hm hb
 subst ha hm hb
 obtain⟨Q,hQ⟩:∃Q,Q=A++iu (L++[y])++Z:=⟨_,rfl⟩
 have hfin:∀L1 L2,L=L1++L2->(∀x,L1.getLast?=some x->cP y x=false)->(∀x,L2.head?=some x->cP y x=true)->Q=A++L1++y::(L2++Z):=by
  rintro L1 L2 rfl h1 h2
  have hs:=List.pairwise_append.1 hL
  have hc:=ja ey (L1:=L1) (L2:=L2) (R1:=[y]) (R2:=[]) hL (abi _ _) (λ_ _ _ h=>by cases h) (λu v hu hv=>by grind)
  have e2:eC cP (L1++[y])=L1++[y]:=j0 ey (List.pairwise_append.2 ⟨hs.1,abi _ _,λa ha b hb=>by
   simp at hb;subst hb
   obtain⟨z,hz⟩:∃z,L1.getLast?=some z:=by cases hg:L1.getLast?<;>grind
   have h0:=h1 z hz
   obtain⟨l',rfl⟩:=j2 hz
   rcases aaS.1 ha with e|e
   ·exact ey.ntr b z a h0 ((List.pairwise_append.1 hs.1).2.2 a e z aA)
   grind⟩)
  rw[hQ,IC,show(L1++L2)++[y]=(L1++L2)++([y]++[])by simp,hc,e2,show eC cP (L2++[])=L2 by rw[aan];exact j0 ey hs.2.1]
  simp
 rw[<-hQ]
 unfold Nl
 generalize hD:A++L++[y]++Z=D
 have hDl:D.length=km+1+Z.length:=by rw[<-hD];simp;omega
 have hkD:∀i (h:i<D.length),ka<=i->i<km->qK (D[i]'h):=by
  intro i h h1 h2
  have:D[i]'h∈L:=by
   have e:D[i]?=(L++([y]++Z))[i-ka]?:=by rw[<-hD,show A++L++[y]++Z=A++(L++([y]++Z))by simp,List.getElem?_append_right ae,hka]
   rw[aaz ae,aaa h]at e
   grind
  exact hkL _ this
 have HY:D[km]?=some y:=by rw[<-hD,show A++L++[y]++Z=(A++L)++y::Z by simp,bX _ _ _ _ bD]
 have HYm:(D.map sntP)[km]?=some (sntP y):=by rw[List.getElem?_map,HY];rfl
 refine cp func359 ntmps359 ?_
 (refine w0 ?_;repeat' first|apply aw|refine ah λhc=>?_)
 refine aj (X:=Nat×Nat) (λz=>ka<=z.1/\z.1<=z.2/\z.2<=km/\(∀x,ka<z.1->D[z.1-1]?=some x->cP y x=false)/\(∀x,z.2<km->D[z.2]?=some x->cP y x=true))
  (λz=>aF [(0,.row 1000 0),(2,iC .i64 (km:Nat)),(4,jG),(14,iC .i64 (z.1:Nat)),(15,iC .i64 (z.2:Nat))] [(1000,eD D)]) (λy=>y.2-y.1) (ka,km) ⟨aaf _,aL,aaf _,λz h=>by simp at h,λz h=>by simp at h⟩ ?_
 rintro⟨i,j⟩ ⟨h1,h2,h3,h4,h5⟩
 simp only at h1 h2 h3 h4 h5 ⊢
 by_cases hij:i<j
 ·obtain⟨h,hh⟩:∃h:Nat,((i:Int)+(j:Int)) / 2=(h:Nat):=⟨(i+j) / 2,ae⟩
  have hih:i<=h:=ae
  have hhj:h<j:=ae
  have hlt:h<D.length:=ae
  have hmm:=td y D[h] hky (hkD h hlt ae ae)
  have HJ:(D.map sntP)[h]?=some (sntP D[h]):=by rw[List.getElem?_map,aaa hlt];rfl
  (refine oY hh ?_;repeat' first|apply aw|refine ah λhc=>?_|((first|apply aH rfl|apply aJ rfl);(focus (try apply ag rfl rfl rfl rfl rfl);first|((apply bn 5;(focus rfl);exact aD ⟨rfl,rfl,rfl⟩ rfl aS aS rfl rfl rfl HJ rfl rfl rfl))|((apply bn 5;(focus rfl);exact aD ⟨rfl,rfl,rfl⟩ rfl aS aS rfl rfl rfl HYm rfl rfl rfl))|(exact Nk [] hmm));refine oY hh ?_))
  ·refine⟨(h+1,j),⟨aL,aL,h3,λz _ hz=>?_,h5⟩,aL,?_⟩
   ·grind[CC]
   ·exact ab
  ·refine⟨(i,h),⟨h1,hih,aL,h4,λz _ hz=>?_⟩,aL,?_⟩
   ·grind[CB]
   ·exact ab
 ·have hij':j=i:=ae
  subst hij'
  obtain⟨L1,L2,rfl,hL1⟩:=fB L (j-ka) ae
  have hq:=hfin L1 L2 rfl (λx hx=>?_) (λx hx=>?_)
  ·have hD':A++L1++L2++y::Z=D:=by rw[<-hD];simp
   have hlen:L1.length+L2.length=km-ka:=by simp at hkm;omega
   clear h4 h5 hfin hL HY HYm h1L
   subst hq
   (refine w0 ?_;refine ah λhc=>?_)
   refine ci (X:=List Snt×List Snt) (λz=>z.1++z.2=L2)
    (λz=>aF [(0,.row 1000 0),(14,iC .i64 (j:Nat)),(17,iC .i64 ((j+z.1.length:Nat):Int))] [(1000,eD (A++L1++z.1++y::(z.2++Z)))]) (λz=>z.1.length) (L2,[]) aA ?_ ?_
   ·rw[<-hD']
    have e:((j+L2.length:Nat):Int)=(km:Int):=ae
    simp only[e,aaE]
    exact ab
   ·rintro⟨p,q⟩ hpq
    simp only at hpq ⊢
    have hln:p.length+q.length=L2.length:=by rw[<-hpq];simp
    rcases gl p with rfl|⟨p,x,rfl⟩
    ·have hp:q=L2:=by simpa using hpq
     subst hp
     have e:((j+([]:List Snt).length:Nat):Int)=(j:Int):=aA
     have e2:A++L1++[]++y::(q++Z)=A++L1++y::(q++Z):=aA
     rw[e,e2]
     (refine w0 ?_;refine ah λhc=>?_)
     exact kJ
    ·simp at hln
     obtain⟨k,hk⟩:∃k,j+p.length=k:=⟨_,rfl⟩
     have e:((j+(p++[x]).length:Nat):Int)=((k+1:Nat):Int):=bD
     rw[e]
     generalize hE:A++L1++(p++[x])++y::(q++Z)=E
     have hEl:k+1<E.length:=by rw[<-hE];simp;omega
     have H0:(E.map sntP)[k]?=some (sntP x):=by rw[List.getElem?_map,<-hE,show A++L1++(p++[x])++y::(q++Z)=(A++L1++p)++x::(y::(q++Z))by simp,bX _ _ _ _ bD];rfl
     have H1:(E.map sntP)[k+1]?=some (sntP y):=by rw[List.getElem?_map,<-hE,bX _ _ _ _ bD];rfl
     have S1:(E.map sntP).set (k+1) (cN (sntP y) 0 (sntP x))=(A++L1++(p++[x])++x::(q++Z)).map sntP:=by rw[show(E.map sntP).set (k+1) (cN (sntP y) 0 (sntP x))=(E.set (k+1) x).map sntP from cO sntP _ _ _,<-hE,gk _ _ _ _ _ bD]
     generalize hE1:A++L1++(p++[x])++x::(q++Z)=E1 at S1
     have hEl1:k+1<E1.length:=by rw[<-hE1];simp;omega
     have H2:(E1.map sntP)[k]?=some (sntP x):=by rw[List.getElem?_map,<-hE1,show A++L1++(p++[x])++x::(q++Z)=(A++L1++p)++x::(x::(q++Z))by simp,bX _ _ _ _ bD];rfl
     have S2:(E1.map sntP).set k (cN (sntP x) 0 (sntP y))=(A++L1++p++y::((x::q)++Z)).map sntP:=by
      rw[show(E1.map sntP).set k (cN (sntP x) 0 (sntP y))=(E1.set k y).map sntP from cO sntP _ _ _,<-hE1,show A++L1++(p++[x])++x::(q++Z)=(A++L1++p)++x::(x::(q++Z))by simp,gk _ _ _ _ _ bD]
      simp
     (refine w0 ?_;repeat' first|apply aw|refine ah λhc=>?_|((first|apply aH rfl|apply cB rfl|apply aJ rfl|apply cC rfl);(focus (try apply ag rfl rfl rfl rfl rfl);first|((apply bn 5;(focus rfl);exact aD ⟨rfl,rfl,rfl⟩ rfl aS aS rfl rfl rfl H0 rfl rfl rfl))|((apply bn 5;(focus rfl);exact aD ⟨rfl,rfl,rfl⟩ rfl aS aS rfl rfl rfl H1 rfl rfl rfl))|((apply bn 6;(focus rfl);exact aW ⟨rfl,rfl⟩ rfl aS rfl rfl rfl rfl H1 rfl (.inl rfl) rfl S1))|((apply bn 6;(focus rfl);exact aW ⟨rfl,rfl⟩ rfl aS rfl rfl rfl rfl H2 rfl (.inl rfl) rfl S2)));refine w0 ?_))
     refine⟨(p,x::q),by simpa using hpq,aA,?_⟩
     simp only[hk]
     exact ab
  ·obtain⟨L1',rfl⟩:=j2 hx
   simp at hL1
   refine h4 x ae ?_
   rw[<-hD,show A++(L1'++[x]++L2)++[y]++Z=(A++L1')++x::(L2++[y]++Z)by simp,bX _ _ _ _ bD]
  ·obtain⟨L2',rfl⟩:=ma hx
   simp at hkm
   refine h5 x ae ?_
   rw[<-hD,show A++(L1++x::L2')++[y]++Z=(A++L1)++x::(L2'++[y]++Z)by simp,bX _ _ _ _ bD]
abbrev roF (a m b:Int)(D D':List Snt):Prop:=bZ prog 361 [.row 1000 0,iC .i64 a,iC .i64 m,iC .i64 b,jG] [(1000,eD D)] .any [(1000,eD D')]
structure Ke (ka km kb mid st e:Nat)(D Q:List Snt):Prop where
 h:∃D2 D3,((st<km/\km<e/\roF (st:Nat) (km:Nat) (e:Nat) D D2)\/(¬(st<km/\km<e)/\D2=D))/\((ka<st/\st<mid/\Nl (ka:Nat) (st:Nat) (mid:Nat) D2 D3)\/(¬(ka<st/\st<mid)/\D3=D2))/\((mid<e/\e<kb/\Nl (mid:Nat) (e:Nat) (kb:Nat) D3 Q)\/(¬(mid<e/\e<kb)/\Q=D3))
theorem Mh (D:List Snt)(ka km kb mid n p:Nat)(hDk:kb<=D.length)(hl:kb<=1000000000)(hkD:∀i (h:i<D.length),ka<=i->i<kb->qK (D[i]'h))(hn:mid+km=n)(hp:n=p+1)(Q:List Snt)
 (hfin':∀i:Nat,ka<=i->i<=km->i<=mid->n-i<=kb->(∀x y,ka<i->n-i<kb->D[i-1]?=some x->D[n-i]?=some y->cP y x=false)->(∀x y,i<km->km<n-i->D[n-i-1]?=some x->D[i]?=some y->cP x y=true)->Ke ka km kb mid i (n-i) D Q)
 (hmidE:((ka:Int)+(kb:Int)) / 2=(mid:Nat)) (hnE:(mid:Int)+(km:Int)=(n:Nat)) (hpE:(n:Int)-1=(p:Nat)) (hm1:ka+2<=km) (hm2:km+2<=kb) (_hm3:ka+kb<2*mid+2) (_hm4:2*mid<=ka+kb) (hmk:mid<km) :
 Nl (ka:Nat) (km:Nat) (kb:Nat) D Q:=by
 unfold Nl
 refine cp func359 ntmps359 ?_
 obtain⟨s0,hs⟩:∃s0:Nat,n=s0+kb:=⟨n-kb,ae⟩
 have hs3:(n:Int)-(kb:Int)=(s0:Nat):=ae
 (refine zW hnE hpE hs3 hmidE ?_;repeat' first|apply aw|refine ah λhc=>?_)
 refine aj (X:=Nat×Nat) (λz=>s0<=z.1/\z.1<=z.2/\z.2<=mid/\(∀x y,s0<z.1->D[z.1-1]?=some x->D[n-z.1]?=some y->cP y x=false)/\(∀x y,z.2<mid->D[n-z.2-1]?=some x->D[z.2]?=some y->cP x y=true))
  (λz=>aF [(0,.row 1000 0),(1,iC .i64 (ka:Nat)),(2,iC .i64 (km:Nat)),(3,iC .i64 (kb:Nat)),(4,jG),(18,iC .i64 (mid:Nat)),(19,iC .i64 (n:Nat)),(20,iC .i64 (z.1:Nat)),(21,iC .i64 (z.2:Nat)),(22,iC .i64 (p:Nat))] [(1000,eD D)]) (λy=>y.2-y.1) (s0,mid) ⟨aaf _,aL,aaf _,λx y h=>by simp at h,λx y h=>by simp at h⟩ ?_
 rintro⟨i,j⟩ ⟨h1,h2,h3,h4,h5⟩
 simp only at h1 h2 h3 h4 h5 ⊢
 by_cases hij:i<j
 ·obtain⟨h,hh⟩:∃h:Nat,((i:Int)+(j:Int)) / 2=(h:Nat):=⟨(i+j) / 2,ae⟩
  have hih:i<=h:=ae
  have hhj:h<j:=ae
  have hlt:h<D.length:=ae
  obtain⟨q,hq⟩:∃q:Nat,p=q+h:=⟨p-h,ae⟩
  have hqE:(p:Int)-(h:Int)=(q:Nat):=ae
  have hlq:q<D.length:=ae
  have hmm:=td D[q] D[h] (hkD q hlq ae ae) (hkD h hlt ae ae)
  have HJ:(D.map sntP)[h]?=some (sntP D[h]):=by rw[List.getElem?_map,aaa hlt];rfl
  have HQ:(D.map sntP)[q]?=some (sntP D[q]):=by rw[List.getElem?_map,aaa hlq];rfl
  (refine iY hqE hh ?_;repeat' first|apply aw|refine ah λhc=>?_|((first|apply aH rfl|apply aJ rfl);(focus (try apply ag rfl rfl rfl rfl rfl);first|((apply bn 5;(focus rfl);exact aD ⟨rfl,rfl,rfl⟩ rfl aS aS rfl rfl rfl HJ rfl rfl rfl))|((apply bn 5;(focus rfl);exact aD ⟨rfl,rfl,rfl⟩ rfl aS aS rfl rfl rfl HQ rfl rfl rfl))|(exact Nk [] hmm));refine iY hqE hh ?_))
  ·refine⟨(h+1,j),⟨aL,aL,h3,λx y _ hx hy=>?_,h5⟩,aL,?_⟩
   ·simp only[aa8]at hx
    rw[aaa hlt]at hx;cases hx
    rw[show n-(h+1)=q by omega,aaa hlq]at hy;grind[CC]
   ·exact ab
  ·refine⟨(i,h),⟨h1,hih,aL,h4,λx y _ hx hy=>?_⟩,aL,?_⟩
   ·simp only at hx hy
    rw[aaa hlt]at hy;cases hy
    rw[show n-h-1=q by omega,aaa hlq]at hx;grind[CB]
   ·exact ab
 ·have hij':j=i:=ae
  subst hij'
  obtain⟨D2,D3,e1,e2,e3⟩:=(hfin' j ae ae ae ae (λx y g1 g2 g3 g4=>h4 x y ae g3 g4) (λx y g1 g2 g3 g4=>h5 x y ae g3 g4)).h
  obtain⟨e,he⟩:∃e:Nat,n=e+j:=⟨n-j,ae⟩
  have heE:(n:Int)-(j:Int)=(e:Nat):=ae
  rw[show n-j=e by omega]at e1 e3
  clear h4 h5 hfin' hkD
  rcases e1 with⟨a1,a2,f1⟩|⟨a1,rfl⟩<;>rcases e2 with⟨b1,b2,f2⟩|⟨b1,rfl⟩<;>rcases e3 with⟨c1,c2,f3⟩|⟨c1,rfl⟩
  ·(refine pZ heE (im f1) (im f2) (im f3) ?_;repeat' first|apply aw|refine ah λhc=>?_)
   exact kJ
  ·(refine fm heE (im f1) (im f2) ?_;repeat' first|apply aw|refine ah λhc=>?_)
   all_goals first|(exfalso;omega)|skip
   all_goals exact kJ
  ·(refine fm heE (im f1) (im f3) ?_;refine ah λhc=>?_)
   all_goals first|(exfalso;omega)|skip
   all_goals exact kJ
  ·(refine eo heE (im f1) ?_;repeat' first|apply aw|refine ah λhc=>?_)
   all_goals first|(exfalso;omega)|skip
   all_goals exact kJ
  ·(refine fm heE (im f2) (im f3) ?_;refine ah λhc=>?_)
   all_goals first|(exfalso;omega)|skip
   all_goals exact kJ
  ·(refine eo heE (im f2) ?_;refine ah λhc=>?_)
   all_goals first|(exfalso;omega)|skip
   all_goals exact kJ
  ·(refine eo heE (im f3) ?_;repeat' first|apply aw|refine ah λhc=>?_)
   all_goals first|(exfalso;omega)|skip
   all_goals exact kJ
  ·(refine eG heE ?_;refine ah λhc=>?_)
   all_goals first|(exfalso;omega)|skip
   all_goals exact kJ
theorem Mi (D:List Snt)(ka km kb mid n p:Nat)(hDk:kb<=D.length)(hl:kb<=1000000000)(hkD:∀i (h:i<D.length),ka<=i->i<kb->qK (D[i]'h))(hn:mid+km=n)(hp:n=p+1)(Q:List Snt)
 (hfin':∀i:Nat,ka<=i->i<=km->i<=mid->n-i<=kb->(∀x y,ka<i->n-i<kb->D[i-1]?=some x->D[n-i]?=some y->cP y x=false)->(∀x y,i<km->km<n-i->D[n-i-1]?=some x->D[i]?=some y->cP x y=true)->Ke ka km kb mid i (n-i) D Q)
 (hmidE:((ka:Int)+(kb:Int)) / 2=(mid:Nat)) (hnE:(mid:Int)+(km:Int)=(n:Nat)) (hpE:(n:Int)-1=(p:Nat)) (hm1:ka+2<=km) (hm2:km+2<=kb) (_hm3:ka+kb<2*mid+2) (_hm4:2*mid<=ka+kb) (hmk:¬mid<km) :
 Nl (ka:Nat) (km:Nat) (kb:Nat) D Q:=by
 unfold Nl
 refine cp func359 ntmps359 ?_
 (refine zV hnE hpE hmidE ?_;repeat' first|apply aw|refine ah λhc=>?_)
 refine aj (X:=Nat×Nat) (λz=>ka<=z.1/\z.1<=z.2/\z.2<=km/\(∀x y,ka<z.1->D[z.1-1]?=some x->D[n-z.1]?=some y->cP y x=false)/\(∀x y,z.2<km->D[n-z.2-1]?=some x->D[z.2]?=some y->cP x y=true))
  (λz=>aF [(0,.row 1000 0),(1,iC .i64 (ka:Nat)),(2,iC .i64 (km:Nat)),(3,iC .i64 (kb:Nat)),(4,jG),(18,iC .i64 (mid:Nat)),(19,iC .i64 (n:Nat)),(20,iC .i64 (z.1:Nat)),(21,iC .i64 (z.2:Nat)),(22,iC .i64 (p:Nat))] [(1000,eD D)]) (λy=>y.2-y.1) (ka,km) ⟨aaf _,aL,aaf _,λx y h=>by simp at h,λx y h=>by simp at h⟩ ?_
 rintro⟨i,j⟩ ⟨h1,h2,h3,h4,h5⟩
 simp only at h1 h2 h3 h4 h5 ⊢
 by_cases hij:i<j
 ·obtain⟨h,hh⟩:∃h:Nat,((i:Int)+(j:Int)) / 2=(h:Nat):=⟨(i+j) / 2,ae⟩
  have hih:i<=h:=ae
  have hhj:h<j:=ae
  have hlt:h<D.length:=ae
  obtain⟨q,hq⟩:∃q:Nat,p=q+h:=⟨p-h,ae⟩
  have hqE:(p:Int)-(h:Int)=(q:Nat):=ae
  have hlq:q<D.length:=ae
  have hmm:=td D[q] D[h] (hkD q hlq ae ae) (hkD h hlt ae ae)
  have HJ:(D.map sntP)[h]?=some (sntP D[h]):=by rw[List.getElem?_map,aaa hlt];rfl
  have HQ:(D.map sntP)[q]?=some (sntP D[q]):=by rw[List.getElem?_map,aaa hlq];rfl
  (refine iY hqE hh ?_;repeat' first|apply aw|refine ah λhc=>?_|((first|apply aH rfl|apply aJ rfl);(focus (try apply ag rfl rfl rfl rfl rfl);first|((apply bn 5;(focus rfl);exact aD ⟨rfl,rfl,rfl⟩ rfl aS aS rfl rfl rfl HJ rfl rfl rfl))|((apply bn 5;(focus rfl);exact aD ⟨rfl,rfl,rfl⟩ rfl aS aS rfl rfl rfl HQ rfl rfl rfl))|(exact Nk [] hmm));refine iY hqE hh ?_))
  ·refine⟨(h+1,j),⟨aL,aL,h3,λx y _ hx hy=>?_,h5⟩,aL,?_⟩
   ·simp only[aa8]at hx
    rw[aaa hlt]at hx;cases hx
    rw[show n-(h+1)=q by omega,aaa hlq]at hy;grind[CC]
   ·exact ab
  ·refine⟨(i,h),⟨h1,hih,aL,h4,λx y _ hx hy=>?_⟩,aL,?_⟩
   ·simp only at hx hy
    rw[aaa hlt]at hy;cases hy
    rw[show n-h-1=q by omega,aaa hlq]at hx;grind[CB]
   ·exact ab
 ·have hij':j=i:=ae
  subst hij'
  obtain⟨D2,D3,e1,e2,e3⟩:=(hfin' j ae ae ae ae (λx y g1 g2 g3 g4=>h4 x y ae g3 g4) (λx y g1 g2 g3 g4=>h5 x y ae g3 g4)).h
  obtain⟨e,he⟩:∃e:Nat,n=e+j:=⟨n-j,ae⟩
  have heE:(n:Int)-(j:Int)=(e:Nat):=ae
  rw[show n-j=e by omega]at e1 e3
  clear h4 h5 hfin' hkD
  rcases e1 with⟨a1,a2,f1⟩|⟨a1,rfl⟩<;>rcases e2 with⟨b1,b2,f2⟩|⟨b1,rfl⟩<;>rcases e3 with⟨c1,c2,f3⟩|⟨c1,rfl⟩
  ·(refine pZ heE (im f1) (im f2) (im f3) ?_;repeat' first|apply aw|refine ah λhc=>?_)
   exact kJ
  ·(refine fm heE (im f1) (im f2) ?_;refine ah λhc=>?_)
   all_goals first|(exfalso;omega)|skip
   all_goals exact kJ
  ·(refine fm heE (im f1) (im f3) ?_;repeat' first|apply aw|refine ah λhc=>?_)
   all_goals first|(exfalso;omega)|skip
   all_goals exact kJ
  ·(refine eo heE (im f1) ?_;repeat' first|apply aw|refine ah λhc=>?_)
   all_goals first|(exfalso;omega)|skip
   all_goals exact kJ
  ·(refine fm heE (im f2) (im f3) ?_;refine ah λhc=>?_)
   all_goals first|(exfalso;omega)|skip
   all_goals exact kJ
  ·(refine eo heE (im f2) ?_;repeat' first|apply aw|refine ah λhc=>?_)
   all_goals first|(exfalso;omega)|skip
   all_goals exact kJ
  ·(refine eo heE (im f3) ?_;refine ah λhc=>?_)
   all_goals first|(exfalso;omega)|skip
   all_goals exact kJ
  ·(refine eG heE ?_;repeat' first|apply aw|refine ah λhc=>?_)
   all_goals first|(exfalso;omega)|skip
   all_goals exact kJ
theorem RD (A L R Z:List Snt)(ka km kb mid:Nat)(hka:A.length=ka)(hkm:ka+L.length=km)(hkb:km+R.length=kb)(hmid:mid=(ka+kb) / 2)(hL0:0<L.length)(hR0:0<R.length)(h1L:L.length≠1)(h1R:R.length≠1)(hkL:m7 L)(hkR:m7 R)(hl:kb+Z.length<=1000000000)
 (Q:List Snt) (hfin:∀L1 L2 R1 R2,L=L1++L2->R=R1++R2->ka+L1.length+R1.length=mid->(∀x y,L1.getLast?=some x->R2.head?=some y->cP y x=false)->(∀x y,R1.getLast?=some x->L2.head?=some y->cP x y=true) ->
   Ke ka km kb mid (ka+L1.length) (km+R1.length) (A++L++R++Z) Q) :
 Nl (ka:Nat) (km:Nat) (kb:Nat) (A++L++R++Z) Q:=by
 generalize hD:A++L++R++Z=D at hfin ⊢
 have hDl:D.length=kb+Z.length:=by rw[<-hD];simp;omega
 have hkD:∀i (h:i<D.length),ka<=i->i<kb->qK (D[i]'h):=by
  intro i h h1 h2
  have:D[i]'h∈L++R:=by grind
  rcases aaS.1 this with q|q
  ·exact hkL _ q
  ·exact hkR _ q
 obtain⟨n,hn⟩:∃n:Nat,mid+km=n:=⟨_,rfl⟩
 obtain⟨p,hp⟩:∃p:Nat,n=p+1:=⟨n-1,ae⟩
 have hfin':∀i:Nat,ka<=i->i<=km->i<=mid->n-i<=kb->(∀x y,ka<i->n-i<kb->D[i-1]?=some x->D[n-i]?=some y->cP y x=false)->(∀x y,i<km->km<n-i->D[n-i-1]?=some x->D[i]?=some y->cP x y=true)->Ke ka km kb mid i (n-i) D Q:=by
  intro i h1 h2 h3 h3' h4 h5
  obtain⟨L1,L2,rfl,hL1⟩:=fB L (i-ka) ae
  obtain⟨R1,R2,rfl,hR1⟩:=fB R (n-i-km) ae
  have e1:ka+L1.length=i:=ae
  have e2:km+R1.length=n-i:=ae
  have:=hfin L1 L2 R1 R2 rfl rfl ae (λx y hx hy=>?_) (λx y hx hy=>?_)
  ·rw[e1,e2]at this;exact this
  ·obtain⟨L1',rfl⟩:=j2 hx
   obtain⟨R2',rfl⟩:=ma hy
   simp only[aai,aaD,List.length_nil]at e1 e2 hkm hkb
   refine h4 x y ae ae ?_ ?_
   ·rw[<-hD,show A++(L1'++[x]++L2)++(R1++y::R2')++Z=(A++L1')++x::(L2++(R1++y::R2')++Z)by simp,bX _ _ _ _ bD]
   ·rw[<-hD,show A++(L1'++[x]++L2)++(R1++y::R2')++Z=(A++(L1'++[x]++L2)++R1)++y::(R2'++Z)by simp,bX _ _ _ _ bD]
  ·obtain⟨R1',rfl⟩:=j2 hx
   obtain⟨L2',rfl⟩:=ma hy
   simp only[aai,aaD,List.length_nil]at e1 e2 hkm hkb
   refine h5 x y ae ae ?_ ?_
   ·rw[<-hD,show A++(L1++y::L2')++(R1'++[x]++R2)++Z=(A++(L1++y::L2')++R1')++x::(R2++Z)by simp,bX _ _ _ _ bD]
   ·rw[<-hD,show A++(L1++y::L2')++(R1'++[x]++R2)++Z=(A++L1)++y::(L2'++(R1'++[x]++R2)++Z)by simp,bX _ _ _ _ bD]
 clear hfin hkL hkR hD
 have hmidE:((ka:Int)+(kb:Int)) / 2=(mid:Nat):=ae
 have hnE:(mid:Int)+(km:Int)=(n:Nat):=ae
 have hpE:(n:Int)-1=(p:Nat):=ae
 have hm1:ka+2<=km:=ae
 have hm2:km+2<=kb:=ae
 have hm3:ka+kb<2*mid+2:=ae
 have hm4:2*mid<=ka+kb:=ae
 by_cases hmk:mid<km
 ·exact Mh D ka km kb mid n p ae ae hkD hn hp Q hfin' hmidE hnE hpE hm1 hm2 hm3 hm4 hmk
 ·exact Mi D ka km kb mid n p ae ae hkD hn hp Q hfin' hmidE hnE hpE hm1 hm2 hm3 hm4 hmk
theorem Kf:∀(N:Nat)(A L R Z:List Snt),L.length+R.length<=N->0<L.length->0<R.length->lX cP L->lX cP R->m7 L->m7 R->A.length+L.length+R.length+Z.length<=1000000000 ->
 Nl (A.length:Nat) ((A.length+L.length:Nat):Int) ((A.length+L.length+R.length:Nat):Int) (A++L++R++Z) (A++iu (L++R)++Z):=by
 intro N
 induction N with
 | zero=>grind
 | succ N ih=>
  intro A L R Z hN hL0 hR0 hL hR hkL hkR hl
  by_cases h1L:L.length=1
  ·obtain⟨x,rfl⟩:=List.length_eq_one_iff.1 h1L
   exact Vs A x R Z _ _ _ rfl rfl rfl hR (hkL x aA) hkR hl
  by_cases h1R:R.length=1
  ·obtain⟨y,rfl⟩:=List.length_eq_one_iff.1 h1R
   exact RC A L y Z _ _ _ rfl rfl rfl h1L hL hkL (hkR y aA) hl
  refine RD A L R Z _ _ _ _ rfl rfl rfl rfl hL0 hR0 h1L h1R hkL hkR hl _ ?_
  rintro L1 L2 R1 R2 rfl rfl hm hc1 hc2
  have hs:=ja ey hL hR hc1 hc2
  have hL':=List.pairwise_append.1 hL
  have hR':=List.pairwise_append.1 hR
  have hQ:iu ((L1++L2)++(R1++R2))=iu (L1++R1)++iu (L2++R2):=by grind[IC]
  have hln:(iu (L1++R1)).length=L1.length+R1.length:=by rw[lB];simp
  simp only[aai]at *
  refine⟨A++(L1++R1)++(L2++R2)++Z,A++iu (L1++R1)++(L2++R2)++Z,?_,?_,?_⟩
  ·by_cases h:0<L2.length/\0<R1.length
   ·refine .inl ⟨ae,ae,?_⟩
    have:=Vr (A++L1) L2 R1 (R2++Z) (A.length+L1.length:Nat) (A.length+(L1.length+L2.length):Nat) (A.length+(L1.length+L2.length)+R1.length:Nat) aA bD bD h.1 h.2 bD
    grind
   ·refine .inr ⟨ae,?_⟩
    by_cases h2:L2.length=0
    all_goals grind
  ·by_cases h:0<L1.length/\0<R1.length
   ·refine .inl ⟨ae,ae,?_⟩
    have:=ih A L1 R1 ((L2++R2)++Z) ae h.1 h.2 hL'.1 hR'.1 (iE hkL (by simp +contextual)) (iE hkR (by simp +contextual)) bD
    rw[hm]at this
    simpa using this
   ·refine .inr ⟨ae,?_⟩
    have:iu (L1++R1)=L1++R1:=by
     by_cases h2:L1.length=0
     ·rw[aax h2];exact wg hR'.1
     ·rw[aax (show R1.length=0 by omega),aan];exact wg hL'.1
    rw[this]
  ·rw[hQ]
   by_cases h:0<L2.length/\0<R2.length
   ·refine .inl ⟨ae,ae,?_⟩
    have:=ih (A++iu (L1++R1)) L2 R2 Z ae h.1 h.2 hL'.2.1 hR'.2.1 (iE hkL (by simp +contextual)) (iE hkR (by simp +contextual)) bD
    simp only[aai,hln]at this
    rw[show A.length+(L1.length+R1.length)=(A.length+(L1.length+L2.length+(R1.length+R2.length))+A.length) / 2 by omega]at this
    have e1:(A.length+(L1.length+L2.length+(R1.length+R2.length))+A.length) / 2=(A.length+(A.length+(L1.length+L2.length)+(R1.length+R2.length))) / 2:=ae
    rw[e1]at this
    rw[show(A.length+(A.length+(L1.length+L2.length)+(R1.length+R2.length))) / 2+L2.length=A.length+(L1.length+L2.length)+R1.length by omega,show A.length+(L1.length+L2.length)+R1.length+R2.length=A.length+(L1.length+L2.length)+(R1.length+R2.length)by omega]at this
    simpa using this
   ·refine .inr ⟨ae,?_⟩
    have:iu (L2++R2)=L2++R2:=by
     by_cases h2:L2.length=0
     ·rw[aax h2];exact wg hR'.2.1
     ·rw[aax (show R2.length=0 by omega),aan];exact wg hL'.2.1
    rw[this];simp
def Mj (n:Nat)(Bs:List (List Snt)):Prop:=∀B∈Bs,B.length=n/\lX cP B
theorem Mj.len {n:Nat}{Bs:List (List Snt)}(h:Mj n Bs):Bs.flatten.length=Bs.length*n:=by
 induction Bs with
 | nil=>simp
 | cons B Bs ih=>
  rw[List.flatten_cons,aai,ih (λB' hB=>h B' (aaY _ hB)),(h B aa1).1,aaD,abj];omega
theorem yD {M N:List Snt}(h:m7 M)(ha:iH cP M N):m7 N:=λx hx=>h x (ha.mem ey hx)
theorem RE (M:List Snt)(hk:m7 M)(hl:M.length<=100000000):bZ prog 351 [.row 1000 0,iC .i64 (M.length:Nat),jG] [(1000,eD M)] .any [(1000,eD (iu M))]:=by
 obtain⟨n,hn⟩:∃n,M.length=n:=⟨_,rfl⟩
 rw[hn]
 generalize hR:iu M=R
 refine cp func351 ntmps351 ?_
 (refine w0 ?_)
 refine aj (X:=List (List Snt)×List Snt) (λx=>Mj 20 x.1/\iH cP M (x.1.flatten++x.2))
  (λx=>aF [(0,.row 1000 0),(1,iC .i64 (n:Nat)),(2,jG),(6,iC .i64 20),(7,iC .i64 (x.1.flatten.length:Nat)),(8,iC .i64 ((x.1.flatten.length+20:Nat):Int))] [(1000,eD (x.1.flatten++x.2))]) (λx=>x.2.length) ([],M) ⟨λ_ h=>by simp at h,by simpa using iH.refl M⟩ ?_
 rintro⟨Bs,r⟩ ⟨h1,h2⟩
 simp only at h1 h2 ⊢
 have hlen:=iH.len ey h2
 rw[aai,hn]at hlen
 have hkr:=yD hk h2
 obtain⟨a,ha⟩:∃a,Bs.flatten.length=a:=⟨_,rfl⟩
 by_cases hb:a+20<=n
 ·obtain⟨B,r',rfl,hB⟩:=fB r 20 ae
  have h:=AR Bs.flatten B r' (iE hkr (by simp +contextual)) (by grind)
  have hap:Bs.flatten++B++r'=Bs.flatten++(B++r'):=aA
  rw[ha,hB,hap]at h
  rw[ha]
  (refine ee (im h) ?_;refine ah λhc=>?_)
  refine⟨(Bs++[iu B],r'),⟨λB' hB'=>?_,?_⟩,bD,?_⟩
  ·rcases aaS.1 hB' with q|q
   ·exact h1 B' q
   grind[lB,te]
  ·refine h2.trans ?_
   have:=((iH.refl (lt:=cP) Bs.flatten).app (tf B)).app (iH.refl r')
   simpa using this
  ·have e1:(Bs++[iu B]).flatten++r'=Bs.flatten++iu B++r':=aA
   have e2:(Bs++[iu B]).flatten.length=a+20:=by grind[lB]
   simp only[e1,e2]
   exact ab
 ·have h:=AR Bs.flatten r [] (iE hkr (by simp +contextual)) (by grind)
  rw[ha,aan,aan,show a+r.length=n by omega]at h
  rw[ha]
  (refine ee (im h) ?_;refine ah λhc=>?_)
  refine aj (X:=Nat×List (List Snt)×List Snt) (λx=>20<=x.1/\x.1<=2*n+20/\Mj x.1 x.2.1/\lX cP x.2.2/\x.2.2.length<x.1/\iH cP M (x.2.1.flatten++x.2.2))
   (λx=>aF [(0,.row 1000 0),(1,iC .i64 (n:Nat)),(2,jG),(6,iC .i64 (x.1:Nat))] [(1000,eD (x.2.1.flatten++x.2.2))]) (λx=>n-x.1) (20,Bs,iu r) ⟨aaf _,aL,h1,te r,by grind[lB],h2.trans ((iH.refl _).app (tf r))⟩ ?_
  clear h1 h2 hlen hkr ha hb h
  rintro⟨bs,Bs,r⟩ ⟨h0,h00,h1,h2,h3,h4⟩
  simp only at h0 h00 h1 h2 h3 h4 ⊢
  have hlen:=iH.len ey h4
  have hkr:=yD hk h4
  rw[aai,hn]at hlen
  by_cases hbn:bs<n
  ·obtain⟨b2,hb2⟩:∃b2:Nat,2*bs=b2:=⟨_,rfl⟩
   have hb2E:(2:Int)*(bs:Int)=(b2:Nat):=ae
   (refine eG hb2E ?_;refine ah λhc=>?_)
   refine aj (X:=List (List Snt)×List (List Snt)) (λx=>Mj b2 x.1/\Mj bs x.2/\iH cP M (x.1.flatten++(x.2.flatten++r)))
    (λx=>aF [(0,.row 1000 0),(1,iC .i64 (n:Nat)),(2,jG),(6,iC .i64 (bs:Nat)),(7,iC .i64 (x.1.flatten.length:Nat)),(8,iC .i64 ((x.1.flatten.length+b2:Nat):Int))] [(1000,eD (x.1.flatten++(x.2.flatten++r)))]) (λx=>x.2.length) ([],Bs) ⟨λ_ h=>by simp at h,h1,by simpa using h4⟩ ?_
   clear h1 h4 hkr hlen
   rintro⟨Cs,Bs⟩ ⟨h1,h5,h4⟩
   simp only at h1 h5 h4 ⊢
   have hlen:=iH.len ey h4
   have hkr:=yD hk h4
   rw[aai,aai,hn]at hlen
   obtain⟨a,ha⟩:∃a,Cs.flatten.length=a:=⟨_,rfl⟩
   have hfl:=h5.len
   obtain⟨am,ham⟩:∃am:Nat,a+bs=am:=⟨_,rfl⟩
   have hbsE:(a:Int)+(bs:Int)=(am:Nat):=ae
   match Bs,hfl with
   | [],hfl=>
    clear hfl
    simp only[List.flatten_nil,List.length_nil,aaE]at *
    rw[ha]at hlen ⊢
    (refine oX hbsE hb2E ?_;repeat' first|apply aw|refine ah λhc=>?_)
    refine⟨(b2,Cs,r),⟨aL,aL,h1,h2,aL,h4⟩,aL,?_⟩
    exact ab
   | [B],hfl=>
    clear hfl
    have hB:=h5 B aA
    simp only[List.flatten_cons,List.flatten_nil,aan]at *
    rw[ha]at hlen ⊢
    by_cases hr0:r.length=0
    ·have hr:=aax hr0
     subst hr
     simp only[aan]at *
     (refine oX hbsE hb2E ?_;repeat' first|apply aw|refine ah λhc=>?_)
     refine⟨(b2,Cs,B),⟨aL,aL,h1,hB.2,aL,h4⟩,aL,?_⟩
     exact ab
    ·have h:=Kf _ Cs.flatten B r [] (aaf _) ae ae hB.2 h2 (iE hkr (by simp +contextual)) (iE hkr (by simp +contextual)) (by grind)
     rw[ha,hB.1,aan,aan,ham,show am+r.length=n by omega,aal]at h
     (refine kT hbsE hb2E (im h) ?_;repeat' first|apply aw|refine ah λhc=>?_)
     refine⟨(b2,Cs,iu (B++r)),⟨aL,aL,h1,te _,by grind[lB],h4.trans ((iH.refl _).app (tf _))⟩,aL,?_⟩
     exact ab
   | B::B'::Bs,hfl=>
    have hB:=h5 B aA
    have hB':=h5 B' aA
    have hq:=aag (Bs.length*bs)
    simp only[aaD,abj]at hfl
    have h:=Kf _ Cs.flatten B B' (Bs.flatten++r) (aaf _) ae ae hB.2 hB'.2 (iE hkr (by simp +contextual)) (iE hkr (by simp +contextual)) (by grind)
    have e0:Cs.flatten++B++B'++(Bs.flatten++r)=Cs.flatten++((B::B'::Bs).flatten++r):=aA
    rw[ha,hB.1,hB'.1,show a+bs+bs=a+b2 by omega,ham,e0]at h
    rw[ha]at hlen ⊢
    (refine kT hbsE hb2E (im h) ?_;refine ah λhc=>?_)
    refine⟨(Cs++[iu (B++B')],Bs),⟨λC hC=>?_,λC hC=>h5 C (by simp[hC]),?_⟩,by grind,?_⟩
    ·rcases aaS.1 hC with q|q
     ·exact h1 C q
     grind[lB,te]
    ·refine h4.trans ?_
     have:=((iH.refl (lt:=cP) Cs.flatten).app (tf (B++B'))).app (iH.refl (Bs.flatten++r))
     simpa using this
    ·have e1:(Cs++[iu (B++B')]).flatten++(Bs.flatten++r)=Cs.flatten++iu (B++B')++(Bs.flatten++r):=aA
     have e2:(Cs++[iu (B++B')]).flatten.length=a+b2:=by grind[lB]
     simp only[e1,e2]
     exact ab
  ·have hD:lX cP (Bs.flatten++r):=by
    match Bs,h1 with
    | [],_=>simpa using h2
    | [B],h1=>
     have hB:=h1 B aA
     simp at hlen
     have hr:=aax (show r.length=0 by omega)
     grind
    | B::B'::Bs,h1=>
     have hB:=h1 B aA
     have hB':=h1 B' aA
     simp at hlen
     omega
   have hRD:Bs.flatten++r=R:=by rw[<-hR];grind[Vq]
   rw[hRD]
   (refine w0 ?_;refine ah λhc=>?_)
   exact kJ
theorem Fk (M:List Snt)(hk:m7 M)(hl:M.length<=100000000):bZ prog 335 [.row 1000 0,jG] [(1000,eD M)] .any [(1000,eD (iu M))]:=by
 have h:=RE M hk hl
 generalize iu M=R at *
 refine cp func335 ntmps335 ?_
 (refine ee (im h) ?_)
 exact kJ
theorem RF (R:List Rg)(hR:bT R)(hRl:R.length<=1000000)(th:PV)(hs:Int->Int->Bool)(hH:∀r c,Fn prog 350 [.per th,vb r c] (dE (hs r c)))(l:List It)(hk:n8 l)(hl:l.length<=1000000) :
 Fn prog 314 [cU R,.per th,eS l] (Ic (g8 R hs l)):=Rq R hR hRl th hs hH l hk hl (Fk (l.map (tE R hs)) (XZ hk) (by rw[aad];omega))
