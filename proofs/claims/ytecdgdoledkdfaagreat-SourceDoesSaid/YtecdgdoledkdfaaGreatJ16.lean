/- Lemmas, walks. -/
import Derived.Test.YtecdgdoledkdfaaGreatJ15
set_option maxRecDepth 10000
set_option maxHeartbeats 8000000
namespace Go.Proofs.YtecdgdoledkdfaaGreat
open Go.RowKit Go.Proofs.Tryz
variable {l:List It}
def ao:Option (Nat×It)->Int
 | none=>-1
 | some p=>(p.1:Nat)
theorem U4 (s u:ByteArray):s.toList=u.toList↔s=u:=by rw[<-D9,beq_toListBytes,beq_iff_eq]
abbrev lsB (ls:List (List It)):Cnt:=.bor 1 (ls.map λl=>[cX l])
abbrev Ic (l:List It):Ret:=.own 79 7 (l.map itP)
theorem Ie (ls:List (List It))(hl:(ls.flatten.filter dA).length<=100000000)(hn:ls.length<=1000000000)(hm:∀l∈ls,l.length<=1000000000):Fn prog 65 [lsB ls] (Ic (eJ ls)):=by
 generalize hT:ls.flatten.filter dA=T at *
 have hTr:∀x∈T,dA x=true:=λx hx=>by rw[<-hT]at hx;grind
 have hs:=vB T (LR hTr) hl
 generalize hR:eJ ls=R
 unfold eJ at hR
 rw[hT]at hR
 have hql:=jv T
 generalize fT T=Q at *
 refine fi func65 ntmps65 ?_
 (refine w0 ?_)
 refine bw (bS 3 600 79 7 rfl rfl) ?_
 refine aj (X:=Nat×List It) (λx=>x.1<=ls.length/\x.2++(ls.drop x.1).flatten.filter dA=T)
  (λx=>aF [(3,.row 600 0),(12,lsB ls),(13,iC .i64 (ls.length:Nat)),(14,iC .i64 (x.1:Nat))] [(600,gz x.2)]) (λx=>ls.length-x.1) (0,[]) ⟨aag _,by simp[hT]⟩ ?_
 rintro⟨i,acc⟩ ⟨h1,h2⟩
 simp only at h1 h2 ⊢
 by_cases hlt:i<ls.length
 ·have hml:=hm _ (aar hlt)
  rw[List.drop_eq_getElem_cons hlt,List.flatten_cons,List.filter_append]at h2
  (refine w0 ?_;refine ah λhc=>?_)
  refine aj (X:=Nat×List It) (λx=>x.1<=ls[i].length/\x.2++((ls[i].drop x.1).filter dA++(ls.drop (i+1)).flatten.filter dA)=T)
   (λx=>aF [(3,.row 600 0),(12,lsB ls),(13,iC .i64 (ls.length:Nat)),(14,iC .i64 (i:Nat)),(18,.per (cX ls[i])),(19,iC .i64 (ls[i].length:Nat)),(20,iC .i64 (x.1:Nat))] [(600,gz x.2)]) (λx=>ls[i].length-x.1) (0,acc) ⟨aag _,by simpa using h2⟩ ?_
  rintro⟨k,ac⟩ ⟨g1,g2⟩
  simp only at g1 g2 ⊢
  by_cases hk:k<ls[i].length
  ·have hir:=dL ls[i][k]
   have hlen:ac.length<=100000000:=by
    have:=aaA List.length g2
    grind
   rw[List.drop_eq_getElem_cons hk,List.filter_cons]at g2
   cases hr:dA ls[i][k]with
   | false=>
    rw[hr]at hir g2
    (refine au hir ?_;repeat' first|apply aw|refine ah λhc=>?_)
    refine⟨(k+1,ac),⟨aL,by simpa using g2⟩,aL,?_⟩
    exact ab
   | true=>
    rw[hr]at hir g2
    (refine au hir ?_;repeat' first|apply aw|refine ah λhc=>?_)
    refine⟨(k+1,ac++[ls[i][k]]),⟨aL,by simpa using g2⟩,aL,az (aU 600 601) (az (aU 601 600) ?_)⟩
    exact ab
  ·have hkl:k=ls[i].length:=ae
   rw[hkl,aba,List.filter_nil,aaE]at g2
   (refine w0 ?_;refine ah λhc=>?_)
   refine⟨(i+1,ac),⟨aL,g2⟩,aL,?_⟩
   exact ab
 ·have hil:i=ls.length:=ae
  subst hil
  rw[aba]at h2
  simp at h2
  subst h2
  (refine ee (gn [(1000,600)] hs) ?_;refine ah λhc=>?_)
  clear hs hTr hT hm hn
  refine bw (bS 8 700 79 7 rfl rfl) ?_
  refine aj (X:=Nat×List It) (λx=>x.1<=Q.length/\x.2.length<=x.1/\(Q.drop x.1).foldl sM x.2=R)
   (λx=>aF [(8,.row 700 0),(34,.row 600 0),(35,iC .i64 (Q.length:Nat)),(36,iC .i64 (x.1:Nat))] [(600,gz Q),(700,gz x.2)]) (λx=>Q.length-x.1) (0,[]) ⟨aag _,aaf _,hR⟩ ?_
  rintro⟨k,out⟩ ⟨g1,g2,g3⟩
  simp only at g1 g2 g3 ⊢
  by_cases hk:k<Q.length
  ·have hol:out.length<=100000000:=ae
   have HQ:(Q.map itP)[k]?=some (itP Q[k]):=by rw[List.getElem?_map,aaa hk];rfl
   rw[List.drop_eq_getElem_cons hk,List.foldl_cons,sM]at g3
   rcases gl out with rfl|⟨o,y,rfl⟩
   ·simp only[List.reverse_nil]at g3
    (refine w0 ?_;repeat' first|apply aw|refine ah λhc=>?_|((first|apply aH rfl|apply aJ rfl);(focus (try apply ag rfl rfl rfl rfl rfl);((apply bn 5;(focus rfl);exact aD ⟨rfl,rfl,rfl⟩ rfl aS aS rfl rfl rfl HQ rfl rfl rfl)));refine w0 ?_))
    refine⟨(k+1,[Q[k]]),⟨aL,aA,g3⟩,aL,az (aU 700 701) (az (aU 701 700) ?_)⟩
    exact ab
   ·simp only[List.reverse_append,abE,List.reverse_nil,aaE,abv,aa6]at g3
    have hcm:=O2 Q[k] y
    have hL1:(o++[y]).length=o.length+1:=aA
    generalize hL:o++[y]=L at *
    have HY:(L.map itP)[((L.length:Int)-1).toNat]?=some (itP y):=by
     rw[List.getElem?_map,<-hL,show(((o++[y]).length:Int)-1).toNat=o.length by rw[hL];omega]
     simp
    have HS:(L.map itP).set ((L.length:Int)-1).toNat (cN (itP y) 0 (itP Q[k]))=(o++[Q[k]]).map itP:=by rw[show(L.map itP).set ((L.length:Int)-1).toNat (cN (itP y) 0 (itP Q[k]))=(L.set ((L.length:Int)-1).toNat Q[k]).map itP from cO itP _ _ _,<-hL,gk o y Q[k] [] _ (by rw[hL];omega)]
    by_cases hky:y.key=Q[k].key
    ·rw[aae hky]at g3
     (refine au hcm ?_;repeat' first|apply aw|refine ah λhc=>?_|((first|apply aH rfl|apply cB rfl|apply aJ rfl|apply cC rfl);(focus (try apply ag rfl rfl rfl rfl rfl);first|((apply bn 5;(focus rfl);first|exact bV ⟨rfl,rfl,rfl⟩ rfl aS rfl rfl rfl HY rfl|exact aD ⟨rfl,rfl,rfl⟩ rfl aS aS rfl rfl rfl HY rfl rfl rfl|exact aD ⟨rfl,rfl,rfl⟩ rfl aS aS rfl rfl rfl HQ rfl rfl rfl))|((apply bn 6;(focus rfl);exact aW ⟨rfl,rfl⟩ rfl aS rfl rfl rfl rfl HY rfl (.inl rfl) rfl HS)));refine au hcm ?_))
     ·rw[aae ae]at g3
      refine⟨(k+1,o++[Q[k]]),⟨aL,bD,g3⟩,aL,?_⟩
      exact ab
     ·rw[aab ae]at g3
      refine⟨(k+1,L),⟨aL,aL,g3⟩,aL,?_⟩
      exact ab
    ·rw[aab hky]at g3
     have hne:y.key.toList≠Q[k].key.toList:=λh=>hky ((U4 _ _).1 h)
     (refine au hcm ?_;repeat' first|apply aw|refine ah λhc=>?_|((first|apply aH rfl|apply cB rfl|apply aJ rfl|apply cC rfl);(focus (try apply ag rfl rfl rfl rfl rfl);first|((apply bn 5;(focus rfl);first|exact bV ⟨rfl,rfl,rfl⟩ rfl aS rfl rfl rfl HY rfl|exact aD ⟨rfl,rfl,rfl⟩ rfl aS aS rfl rfl rfl HY rfl rfl rfl|exact aD ⟨rfl,rfl,rfl⟩ rfl aS aS rfl rfl rfl HQ rfl rfl rfl))|((apply bn 6;(focus rfl);exact aW ⟨rfl,rfl⟩ rfl aS rfl rfl rfl rfl HY rfl (.inl rfl) rfl HS)));refine au hcm ?_))
     refine⟨(k+1,L++[Q[k]]),⟨aL,bD,g3⟩,aL,az (aU 700 701) (az (aU 701 700) ?_)⟩
     exact ab
  ·have hkl:k=Q.length:=ae
   rw[hkl,aba,List.foldl_nil]at g3
   (refine w0 ?_;refine ah λhc=>?_)
   refine dr ?_
   exact cJ rfl rfl rfl (by rw[g3])
section
variable {P:Program} {n t:Nat} {ops:Array Oper} {o:Oper} {S:St}
theorem XQ {op:BinOp}{q:Bool}{ty ty':TypeId}{x y:Operand}{u v:Bool}(hp:Pl n o t)(ho:o.op=.binOp op ty x y ty')(hT:gB P ty .bool)(hx:S.opd x=bC u)(hy:S.opd y=bC v)(hq:YR q op):aB n P ops o (aG x++aG y) (bC ((u==v) != q)) [] S:=
 aZ hp λC T g a w hA hR=>by
  have h1:=bf (x:=x) hA (λk h=>by simp[h]) hR hx
  have h2:=bf (x:=y) hA (λk h=>by simp[h]) hR hy
  refine⟨.bool ((u==v) != q),?_,rfl⟩
  rcases hq with⟨rfl,rfl⟩|⟨rfl,rfl⟩
  ·simp[execOp,ho,h1,h2,eqGuard_at_bool,run_eql_bool _ _ _ _ hT.h]
  ·simp[execOp,ho,h1,h2,eqGuard_at_bool,run_neq_bool _ _ _ _ hT.h]
end
def a18:It:=⟨⟨#[107]⟩,1,1,3,0,false,⟨#[]⟩⟩
def vC:Option It->Option It->Option It
 | none,b=>b
 | some a,none=>some a
 | some a,some b=>if Lf b a>0 then some b else some a
theorem uy (a:Option It):vC a none=a:=by cases a<;>rfl
theorem QN (x y:It):Lf x y>0↔(x.rank>y.rank\/x.rank=y.rank/\(x.rep>y.rep\/x.rep=y.rep/\x.cnt>y.cnt)):=by grind[Lf,GZ]
theorem Ig (a b c:Option It):vC (vC a b) c=vC a (vC b c):=by
 cases a with
 | none=>rfl
 | some a=>
  cases b with
  | none=>rfl
  | some b=>
   cases c<;>grind[vC,QN]
def Ze (b:Option It)(x:It):Option It:=vC b (some x)
def f0 (k:ByteArray)(l:List It):Option It:=(l.filter λx=>x.key==k).foldl Ze none
theorem QO (l:List It):∀b,l.foldl Ze b=vC b (l.foldl Ze none):=by
 induction l with
 | nil=>grind[uy]
 | cons x l ih=>
  intro b
  rw[List.foldl_cons,List.foldl_cons,ih (Ze b x),ih (Ze none x)]
  exact Ig b (some x) _
theorem sN (k:ByteArray)(l r:List It):f0 k (l++r)=vC (f0 k l) (f0 k r):=by grind[f0,QO]
theorem EY (k:ByteArray)(x:It):f0 k [x]=if x.key==k then some x else none:=by
 unfold f0
 rw[List.filter_cons]
 split<;>rfl
theorem AE {k:ByteArray}(h:∀x∈l,x.key≠k):f0 k l=none:=by grind[f0,List.filter_eq_nil_iff,D9]
theorem AF:∀(a b:List UInt8),dZ b a = - dZ a b/\(dZ a b=0->a=b):=by
 intro a
 induction a with
 | nil=>intro b;cases b<;>simp[dZ]
 | cons x a ih=>
  intro b
  cases b<;>grind[dZ,abg]
theorem sP (s t:ByteArray):cG s t=0↔s=t:=by
 constructor
 ·intro h
  have:=(AF s.data.toList t.data.toList).2 h
  cases s;simp_all
 ·rintro rfl
  exact(v7 s.data.toList [] []).1
theorem AG (s t:ByteArray):cG t s = - cG s t:=(AF _ _).1
theorem U5 (x y:It):zb ltK x y=(y.key==x.key):=by
 have h1:=sP y.key x.key
 have h2:=AG y.key x.key
 rw[aav,D9,<-h1]
 grind[zb,ltK]
theorem J3 (x:It):zb ltK x=λy=>y.key==x.key:=funext (U5 x)
theorem QP {M N:List It}(h:iH ltK M N)(k:ByteArray):f0 k N=f0 k M:=by
 have:=h ⟨k,0,0,0,0,false,⟨#[]⟩⟩
 grind[J3,f0]
def Up (l:List It):Prop:=l.Pairwise λx y=>ltK x y=true
theorem Up.srt (h:Up l):lX ltK l:=h.imp λh=>fk.asym h
theorem QQ {x y:It}(h:ltK x y=true):x.key≠y.key:=λe=>by rw[pk,e,(sP _ _).2 rfl]at h;omega
theorem U6 {x y:It}(h1:ltK x y=false)(h2:y.key≠x.key):ltK y x=true:=by
 rw[EX]at h1
 have h3:=AG x.key y.key
 have h4:cG y.key x.key≠0:=mt (sP y.key x.key).1 h2
 rw[pk];omega
theorem Up.filter (h:Up l)(k:ByteArray):l.filter (λx=>x.key==k)=(f0 k l).toList:=by
 unfold f0
 suffices hs:∃o:Option It,l.filter (λx=>x.key==k)=o.toList by
  obtain⟨o,ho⟩:=hs
  rw[ho];cases o<;>rfl
 induction l with
 | nil=>exact⟨none,rfl⟩
 | cons x l ih=>
  have h':=List.pairwise_cons.1 h
  rw[List.filter_cons]
  split
  ·rename_i hx
   rw[D9]at hx
   refine⟨some x,?_⟩
   rw[List.filter_eq_nil_iff.2 (λy hy e=>by
    rw[D9]at e
    grind[QQ])]
   rfl
  ·exact ih h'.2
theorem Up.uniq {M N:List It}(hM:Up M)(hN:Up N)(h:∀k,f0 k M=f0 k N):M=N:=
 lX.uniq fk hM.srt hN.srt λx=>by simp only[J3];rw[hN.filter,hM.filter,h]
theorem QR:∀(r P out:List It),lX ltK r->Up out->(∀z∈out,∀x∈r,ltK x z=false)->(∀z∈out,z∈P)->(∀k,f0 k out=f0 k P) ->
 Up (r.foldl sM out)/\(∀z∈r.foldl sM out,z∈P++r)/\∀k,f0 k (r.foldl sM out)=f0 k (P++r):=by
 intro r
 induction r with
 | nil=>grind
 | cons x r ih=>
  intro P out h1 h2 h3 h4 h5
  have h1':=List.pairwise_cons.1 h1
  have key:Up (sM out x)/\(∀z∈sM out x,z=x\/z∈out)/\∀k,f0 k (sM out x)=vC (f0 k out) (f0 k [x]):=by
   unfold sM
   rcases gl out with rfl|⟨o,y,rfl⟩
   ·exact⟨abi _ _,λz hz=>by grind,λk=>rfl⟩
   ·simp only[List.reverse_append,abE,List.reverse_nil,aaE,abv,aa6]
    have hu:=List.pairwise_append.1 h2
    have hyx:=h3 y aA x aA
    split
    ·rename_i hk
     have ho:∀z∈o,z.key≠y.key:=λz hz=>QQ (hu.2.2 z hz y aA)
     split
     ·rename_i hc
      refine⟨List.pairwise_append.2 ⟨hu.1,abi _ _,λz hz w hw=>?_⟩,λz hz=>?_,λk=>?_⟩
      all_goals grind[pk,sN,EY,AE,vC,uy]
     grind[sN,EY,AE,vC,uy]
    ·rename_i hk
     have hlt:=U6 hyx hk
     refine⟨List.pairwise_append.2 ⟨h2,abi _ _,λz hz w hw=>?_⟩,λz hz=>?_,λk=>sN k _ _⟩
     ·simp at hw;subst hw
      rcases aaS.1 hz with q|q
      ·exact fk.tr z y _ (hu.2.2 z q y aA) hlt
      grind
     grind
  obtain⟨k1,k2,k3⟩:=key
  have:=ih (P++[x]) (sM out x) h1'.2 k1 (λz hz w hw=>?_) (λz hz=>?_) (λk=>by rw[k3,sN,h5])
  all_goals grind
theorem kp (ls:List (List It)):Up (eJ ls)/\(∀z∈eJ ls,z∈ls.flatten.filter dA)/\∀k,f0 k (eJ ls)=f0 k (ls.flatten.filter dA):=by
 unfold eJ
 generalize ls.flatten.filter dA=T
 obtain⟨h1,h2,h3⟩:=QR (fT T) [] [] (pm T) abD (λz h=>by simp at h) (λz h=>by simp at h) (λ_=>rfl)
 exact⟨h1,λz hz=>(m1 T).mem fk (by simpa using h2 z hz),λk=>by rw[h3,aaE,QP (m1 T)]⟩
theorem Cn {ls:List (List It)}:(eJ ls).filter dA=eJ ls:=List.filter_eq_self.2 λz hz=>(abt.1 ((kp ls).2.1 z hz)).2
theorem Ih (ls:List (List It)):(eJ ls).length<=(ls.flatten.filter dA).length:=by
 unfold eJ
 generalize ls.flatten.filter dA=T
 have:∀(r out:List It),(r.foldl sM out).length<=out.length+r.length:=by
  intro r
  induction r<;>grind[QJ]
 have:=this (fT T) []
 rw[jv]at this
 simpa using this
def Co (l:List It)(i:Nat):Prop:=∀h:i<l.length,dA l[i]=true/\∀h0:0<i,cG l[i-1].key l[i].key<0
def x8 (l:List It):Prop:=∀i,Co l i
theorem AH (h:x8 l):Up l:=by
 unfold Up
 rw[List.pairwise_iff_getElem]
 intro i j hi hj hij
 induction j with
 | zero=>omega
 | succ j ih=>
  have h1:=(h (j+1) hj).2 ae
  simp only[aa8]at h1
  rcases aaF i j with q|q
  ·exact fk.tr _ _ _ (ih ae q) (by rw[pk];exact h1)
  grind[pk]
theorem Cp (h:x8 l):∀x∈l,dA x=true:=λx hx=>by
 obtain⟨i,hi,rfl⟩:=List.getElem_of_mem hx
 exact(h i hi).1
section
variable {P:Program} {n t:Nat} {ops:Array Oper} {o:Oper} {S:St}
end
theorem uz (l:List It)(hk:n8 l)(hl:l.length<=1000000000)(b:Bool)(hb:b=true↔x8 l):Fn prog 56 [eS l] (dE b):=by
 refine fi func56 ntmps56 ?_
 (refine w0 ?_)
 refine aj (X:=Nat) (λz=>z<=l.length/\∀i,i<z->Co l i)
  (λz=>aF [(0,eS l),(5,eS l),(6,iC .i64 (l.length:Nat)),(7,iC .i64 (z:Nat))] []) (λz=>l.length-z) 0 ⟨aag _,λi h=>absurd h (abc _)⟩ ?_
 rintro z ⟨h1,h2⟩
 by_cases hz:z<l.length
 ·have hir:=dL l[z]
  have hno:¬Co l z->b=false:=λh=>by rw[<-aaB,hb];exact λq=>h (q z)
  cases hr:dA l[z]with
  | false=>
   have hb0:=hno (λh=>by have:=(h hz).1;rw[hr]at this;cases this)
   subst hb0
   clear hb hno h2
   rw[hr]at hir
   (refine au hir ?_;repeat' first|apply aw|refine ah λhc=>?_)
   exact dz
  | true=>
   rw[hr]at hir
   by_cases h0:0<z
   ·obtain⟨q,rfl⟩:∃q,z=q+1:=⟨z-1,ae⟩
    have hqE:((q+1:Nat):Int)-1=(q:Nat):=ae
    have hcm:=hY l[q].key l[q+1].key (by have:=hk l[q] (aar _);omega)
    by_cases hlt:cG l[q].key l[q+1].key<0
    ·have hok:Co l (q+1):=λ_=>⟨hr,λ_=>hlt⟩
     clear hb hno
     (refine bz hqE hir hcm ?_;repeat' first|apply aw|refine ah λhc=>?_)
     refine⟨q+1+1,⟨ae,λi hi=>?_⟩,ae,?_⟩
     ·grind
     ·exact ab
    ·have hb0:=hno (λh=>hlt ((h hz).2 h0))
     subst hb0
     clear hb hno h2
     (refine bz hqE hir hcm ?_;repeat' first|apply aw|refine ah λhc=>?_)
     exact dz
   ·have hok:Co l z:=λ_=>⟨hr,λh=>absurd h h0⟩
    clear hb hno
    (refine au hir ?_;repeat' first|apply aw|refine ah λhc=>?_)
    refine⟨z+1,⟨ae,λi hi=>?_⟩,ae,?_⟩
    ·grind
    ·exact ab
 ·have hb1:b=true:=hb.2 (λi=>by
   rcases aaF i z with q|q
   ·exact h2 i q
   ·exact λh=>ae)
  subst hb1
  clear hb h2
  (refine w0 ?_;refine ah λhc=>?_)
  exact dz
theorem QS (l:List It)(hk:n8 l)(hl:l.length<=1000000000)(b:Bool)(hb:b=true↔x8 l):Fn prog 24 [eS l] (dE b):=by
 refine fi func24 ntmps24 ?_
 (refine w0 ?_)
 refine aj (X:=Nat) (λz=>z<=l.length/\∀i,i<z->Co l i)
  (λz=>aF [(0,eS l),(3,iC .i64 (z:Nat))] []) (λz=>l.length-z) 0 ⟨aag _,λi h=>absurd h (abc _)⟩ ?_
 rintro z ⟨h1,h2⟩
 by_cases hz:z<l.length
 ·have hir:=fy l[z]
  have hno:¬Co l z->b=false:=λh=>by rw[<-aaB,hb];exact λq=>h (q z)
  cases hr:dA l[z]with
  | false=>
   have hb0:=hno (λh=>by have:=(h hz).1;rw[hr]at this;cases this)
   subst hb0
   clear hb hno h2
   rw[hr]at hir
   (refine au hir ?_;repeat' first|apply aw|refine ah λhc=>?_)
   exact dz
  | true=>
   rw[hr]at hir
   by_cases h0:0<z
   ·obtain⟨q,rfl⟩:∃q,z=q+1:=⟨z-1,ae⟩
    have hqE:((q+1:Nat):Int)-1=(q:Nat):=ae
    have hcm:=kf l[q].key l[q+1].key (by have:=hk l[q] (aar _);omega)
    by_cases hlt:cG l[q].key l[q+1].key<0
    ·have hok:Co l (q+1):=λ_=>⟨hr,λ_=>hlt⟩
     rw[aao hlt]at hcm
     clear hb hno
     (refine bz hqE hir hcm ?_;repeat' first|apply aw|refine ah λhc=>?_)
     refine⟨q+1+1,⟨ae,λi hi=>?_⟩,ae,?_⟩
     ·grind
     ·exact ab
    ·have hb0:=hno (λh=>hlt ((h hz).2 h0))
     rw[aap hlt]at hcm
     subst hb0
     clear hb hno h2
     (refine bz hqE hir hcm ?_;repeat' first|apply aw|refine ah λhc=>?_)
     exact dz
   ·have hok:Co l z:=λ_=>⟨hr,λh=>absurd h h0⟩
    clear hb hno
    (refine au hir ?_;repeat' first|apply aw|refine ah λhc=>?_)
    refine⟨z+1,⟨ae,λi hi=>?_⟩,ae,?_⟩
    ·grind
    ·exact ab
 ·have hb1:b=true:=hb.2 (λi=>by
   rcases aaF i z with q|q
   ·exact h2 i q
   ·exact λh=>ae)
  subst hb1
  clear hb h2
  (refine w0 ?_;refine ah λhc=>?_)
  exact dz
structure Sta where
 id:Int:=0
 flt:List Rg:=[]
 its:List It:=[]
 know:List Pc:=[]
 cnt:Int:=0
def lL (k:List Pc)(f:List Rg)(s:ByteArray):List Kn:=if cz f s then mz k s else []
def m3 (k:List Pc)(f:List Rg):List ByteArray:=js [emB] (cV k++f)
def cW (k:List Pc)(f:List Rg):List Pc:=re (lL k f) (m3 k f)
theorem J4 (k:List Pc)(f:List Rg)(s:ByteArray):ck (lL k f s):=by grind[lL,ut,mZ]
theorem uA {k:List Pc}{f:List Rg}{r:Rg}(hr:r∈cV k++f){m:ByteArray}(h:my r m):m∈m3 k f:=(jt _ _ _).2 (.inr ⟨r,hr,h⟩)
theorem U7 (k:List Pc)(f:List Rg):Az (m3 k f):=Cb _ _ aA
theorem U8 (k:List Pc)(f:List Rg):emB∈m3 k f:=(jt _ _ _).2 (.inl aA)
theorem Cq (k:List Pc)(f:List Rg):qG (m3 k f):=λm hm=>by
 rcases(jt _ _ _).1 hm with h|⟨r,_,h1,h2⟩
 ·have h:m=emB:=by simpa using h
  rw[h];decide
 grind[cg]
theorem QT (k:List Pc)(f:List Rg):Qx (lL k f) (m3 k f):=λe n hen h=>by
 have h1:mz k e=mz k n:=JY hen λp hp m hm=>h m (uA (List.mem_append_left _ (List.mem_map_of_mem hp)) hm)
 have h2:cz f e=cz f n:=by
  unfold cz
  rw[aav,List.any_eq_true,List.any_eq_true]
  constructor
  ·rintro⟨r,hr,q⟩
   exact⟨r,hr,by rw[<-uu hen λm hm=>h m (uA (List.mem_append_right _ hr) hm)];exact q⟩
  ·rintro⟨r,hr,q⟩
   exact⟨r,hr,by rw[uu hen λm hm=>h m (uA (List.mem_append_right _ hr) hm)];exact q⟩
 unfold lL
 rw[h1,h2]
theorem lz (k:List Pc)(f:List Rg):aY (cW k f)/\∀s,eI (cW k f) s=lL k f s:=Cd (J4 k f) (U7 k f) (Cq k f) (U8 k f) (QT k f)
def Cr (l:List Rn):Int:=match l.getLast? with|some r=>r.to|none=>0
def x9 (l:List Rn):Int:=Cr (ofR l)
def sQ (s:List Kn)(id:Int):Int:=if 1<=id/\id<=16 then x9 (bx s (id-1).toNat)else 0
def mb (k:List Pc)(id:Int):Int:=k.foldl (λn p=>max n (sQ p.set id)) 0
theorem vg (l:List Rn)(r:Rn):Cr (l++[r])=r.to:=by unfold Cr;simp
def qH (id:Int)(n:Int)(k:Kn):Int:=if k.rep=id then max n (Cr k.runs)else n
theorem QU (id:Int):∀(T:List (List Rn)) (i:Nat) (n:Int),0<=n->(bO ofR i T).foldl (qH id) n=if h:(i:Int)<id/\id<=i+T.length then max n (x9 (T[(id-1-i).toNat]'(ae)))else n:=by
 intro T
 induction T with
 | nil=>intro i n hn;rw[dif_neg (λq=>by have:=q.2;grind)];rfl
 | cons l T ih=>
  intro i n hn
  rw[bO,List.foldl_append]
  by_cases e:id=(i:Int)+1
  ·have h1:(if(ofR l).length=0 then []else [(⟨(i:Int)+1,ofR l⟩:Kn)]).foldl (qH id) n=max n (x9 l):=by
    split
    ·rename_i h0
     have:ofR l=[]:=aax h0
     have hm:x9 l=0:=by unfold x9;rw[this];rfl
     rw[hm];grind
    ·simp only[List.foldl_cons,List.foldl_nil,qH]
     rw[aae e.symm];rfl
   rw[h1,ih (i+1) _ ae,dif_neg bD,dif_pos bD]
   simp_all
  ·have h1:(if(ofR l).length=0 then []else [(⟨(i:Int)+1,ofR l⟩:Kn)]).foldl (qH id) n=n:=by grind[qH]
   rw[h1,ih (i+1) n hn]
   by_cases c:(i:Int)<id/\id<=(i:Int)+((l::T).length:Nat)
   ·simp only[aaD]at c
    rw[dif_pos ae,dif_pos (by grind)]
    obtain⟨m,hm⟩:∃m,(id-1-(i:Int)).toNat=m+1:=⟨(id-1-(i:Int)).toNat-1,ae⟩
    have hm2:(id-1-((i+1:Nat):Int)).toNat=m:=ae
    grind
   ·rw[dif_neg (by grind),dif_neg c]
theorem LW (s:List Kn)(id n:Int)(hn:0<=n):(gQ ofR s).foldl (qH id) n=max n (sQ s id):=by
 unfold gQ
 rw[QU id _ 0 n hn]
 unfold sQ
 by_cases c:1<=id/\id<=16
 ·rw[dif_pos (by rw[dp];omega),aae c]
  have h:=ev s (r:=(id-1).toNat) ae
  have e:(id-1-((0:Nat):Int)).toNat=(id-1).toNat:=ae
  simp only[e]
  rw[aaa (by rw[dp];omega)]at h
  rw[Option.some.inj h]
 grind[dp]
def verOf (x:It):Int×Int:=(x.rep,x.cnt)
def jw (l:List It):Bool:=decide ((l.map verOf).Nodup)
def jb (s:List Kn)(r c:Int):Bool:=gc r c&&d8 (bx s (r-1).toNat) c
def cq (k:List Pc)(s:ByteArray)(r c:Int):Bool:=k.any λp=>ca p.rg s&&jb p.set r c
def fV (l:List It):Bool:=l.all dA&&decide ((l.map It.key).Pairwise (·<·))
def oA (s:Sta):Bool:=
 decide (1<=s.id/\s.id<=16)&&decide (0<=s.cnt/\s.cnt<=1099511627776)&&decide (s.its.length<=4096)&&decide (bT s.flt)&&fV s.its&&decide (aY s.know) &&
 decide (cW s.know s.flt=s.know)&&decide (mb s.know s.id<=s.cnt)&&jw s.its&&s.its.all (λx=>cz s.flt x.key&&cq s.know x.key x.rep x.cnt)
theorem ql (r c:Int):jb [] r c=false:=by grind[jb,bx,d8]
theorem kX:∀{k:List Pc},aY k->∀(s:ByteArray)(r c:Int),cq k s r c=jb (eI k s) r c:=by
 intro k
 induction k with
 | nil=>intro _ s r c;rw[sH,ql];rfl
 | cons p l ih=>
  intro h s r c
  have hl:=((dy p l).1 h).2.2
  have e:cq (p::l) s r c=((ca p.rg s&&jb p.set r c)||cq l s r c):=rfl
  rw[e,ih hl]
  by_cases q:ca p.rg s=true
  ·have hn:eI l s=[]:=by
    by_cases g:eI l s=[]
    ·exact g
    ·obtain⟨g1,g2⟩:=mY h g
     have hr:=(db ((dy p l).1 h).1.1 s).1 q
     grind
   rw[q,lY q,hn,ql];simp
  grind[gy]
theorem kY {s:List Kn}{r c:Int}:jb s r c=true↔gc r c=true/\gw (bx s (r-1).toNat) c:=by grind[jb,kW]
theorem EZ {a b:List Kn}{r c:Int}:jb (gQ ofR (a++b)) r c=true↔jb a r c=true\/jb b r c=true:=by
 rw[kY,kY,kY]
 grind[Ia,qj,LQ,sy,gc]
theorem QV:gQ ofR []=[]:=nM mZ
theorem XR (s:ByteArray):mz [] s=[]:=QV
theorem ye {a b:List Pc}(ha:aY a)(hb:aY b)(s:ByteArray)(r c:Int):cq (zo (a++b)) s r c=(cq a s r c||cq b s r c):=by grind[ri,kX,Ib,EZ,kN]
def C3 (f:List Rg)(l:List It):List It:=l.filter λx=>cz f x.key
def qI (s:Sta)(l:List It)(k:List Pc):Sta×Int:=
 if oA s=false then({},41)
 else if fV l=false\/¬aY k then({},2)
 else if(C3 s.flt l).any (λx=>!cq s.know x.key x.rep x.cnt&&!cq (cW k s.flt) x.key x.rep x.cnt)then({},2)
 else if mb (cW k s.flt) s.id>s.cnt then({},2)
 else if jw (eJ [s.its++C3 s.flt l])=false then({},2)
 else if(eJ [s.its++C3 s.flt l]).length>4096 then({},32)
 else(⟨s.id,s.flt,eJ [s.its++C3 s.flt l],zo (s.know++cW k s.flt),s.cnt⟩,0)
def jU (l:List It)(f:List Rg)(k:List Pc):List It:=l.filter λx=>cz f x.key&&!cq k x.key x.rep x.cnt
theorem U9 {s:Sta}(h:oA s=true):aY s.know/\∀x∈s.its,cq s.know x.key x.rep x.cnt=true:=by grind[oA]
theorem Va:∀(X:List Kn),((List.range 16).flatMap (bx X)).length<=(X.flatMap Kn.runs).length:=by
 intro X
 induction X with
 | nil=>simp[bx];decide
 | cons k X ih=>
  have e:∀R:List Nat,R.Nodup->(R.flatMap (bx (k::X))).length<=k.runs.length+(R.flatMap (bx X)).length:=by
   intro R
   induction R with
   | nil=>intro _;simp
   | cons r R ih2=>
    intro hn
    obtain⟨hr,hn⟩:=List.nodup_cons.1 hn
    have e1:bx (k::X) r=(if k.rep=(r:Int)+1 then k.runs else [])++bx X r:=by grind[bx]
    rw[List.flatMap_cons,List.flatMap_cons,aai,aai,e1,aai]
    by_cases c:k.rep=(r:Int)+1
    ·rw[aae c]
     have e2:R.flatMap (bx (k::X))=R.flatMap (bx X):=by
      rw[List.flatMap_def,List.flatMap_def]
      congr 1
      refine List.map_congr_left λq hq=>?_
      have:¬k.rep=(q:Int)+1:=λw=>hr (by grind)
      grind[bx]
     rw[e2];omega
    grind
  have:=e (List.range 16) List.nodup_range
  rw[List.flatMap_cons,aai]
  omega
theorem Ct:∀(T:List (List Rn)) (i:Nat),((bO ofR i T).flatMap Kn.runs).length<=T.flatten.length:=by
 intro T
 induction T<;>grind[bO,Ca]
theorem AI (X:List Kn):((gQ ofR X).flatMap Kn.runs).length<=(X.flatMap Kn.runs).length:=by
 have h1:=Ct (di X) 0
 have h2:=Va X
 grind[gQ,di]
def rk (k:ByteArray)(r c:Int):List Pc:=if mj k&&gc r c then [⟨⟨k,k++⟨#[0]⟩,false⟩,[⟨r,[⟨c,c⟩]⟩]⟩]else []
abbrev Wy:Cnt:=.per (ai (.func (.func 213) #[] #[]))
abbrev yf (l:List Rg):Blk:=.row 40 3 (l.map rgP)
section
variable {P:Program} {n:Nat} {ops:Array Oper} {o:Oper} {S:St} {t:Nat}
end
abbrev pn (l:List Rg):Ret:=.own 40 3 (l.map rgP)
theorem E3 {Q:List Rg}{k:Nat}(hk:k<Q.length):jF (Q.take (k+1))=HV (jF (Q.take k)) Q[k]:=by grind[jF,List.take_succ_eq_append_getElem]
theorem LX {Q:List Rg}(hR:∀r∈Q,gg r=true)(hS:Q.Pairwise (λx y=>x.lo<=y.lo))(k:Nat):∀r∈jF (Q.take k),gg r=true:=by
 intro r hr
 have h:=(xR (L:=Q.take k) (λx hx=>hR x (abC hx)) (hS.sublist (List.take_sublist _ _))).1
 obtain⟨i,hi,rfl⟩:=List.getElem_of_mem hr
 exact(h i hi).1
theorem Vb (Q:List Rg)(k:Nat):(jF (Q.take k)).length<=k:=by
 have h:=Qp (Q.take k) []
 rw[aaK]at h
 grind[jF]
theorem J5 (l Q:List Rg)(hs:bZ prog 212 [.row 1000 0,Wy] [(1000,yf (l.filter gg))] .any [(1000,yf Q)])(hql:Q.length=(l.filter gg).length)
 (hQr:∀x∈Q,gg x=true) (hQs:Q.Pairwise λx y=>x.lo<=y.lo) (hn:l.length<=1000000000):Fn prog 126 [cU l] (pn (jF Q)):=by
 generalize hT:l.filter gg=T at *
 have hTl:T.length<=1000000000:=by rw[<-hT];grind
 generalize hR:jF Q=R
 refine fi func126 ntmps126 ?_
 (refine w0 ?_)
 refine bw (bS 3 600 40 3 rfl rfl) ?_
 refine aj (X:=Nat×List Rg) (λx=>x.1<=l.length/\x.2++(l.drop x.1).filter gg=T)
  (λx=>aF [(3,.row 600 0),(10,cU l),(11,iC .i64 (l.length:Nat)),(12,iC .i64 (x.1:Nat))] [(600,yf x.2)]) (λx=>l.length-x.1) (0,[]) ⟨aag _,by simp[hT]⟩ ?_
 rintro⟨k,ac⟩ ⟨g1,g2⟩
 simp only at g1 g2 ⊢
 by_cases hk:k<l.length
 ·have hir:=gW l[k]
  have hlen:ac.length<=1000000000:=by
   have:=aaA List.length g2
   grind
  rw[List.drop_eq_getElem_cons hk,List.filter_cons]at g2
  cases hr:gg l[k]with
  | false=>
   rw[hr]at hir g2
   (refine au hir ?_;repeat' first|apply aw|refine ah λhc=>?_)
   refine⟨(k+1,ac),⟨aL,by simpa using g2⟩,aL,?_⟩
   exact ab
  | true=>
   rw[hr]at hir g2
   (refine au hir ?_;repeat' first|apply aw|refine ah λhc=>?_)
   refine⟨(k+1,ac++[l[k]]),⟨aL,by simpa using g2⟩,aL,az (aU 600 601) (az (aU 601 600) ?_)⟩
   exact ab
 ·have hkl:k=l.length:=ae
  subst hkl
  rw[aba]at g2
  simp at g2
  subst g2
  (refine ee (gn [(1000,600)] hs) ?_;refine ah λhc=>?_)
  clear hs hT
  refine bw (bS 6 700 40 3 rfl rfl) ?_
  refine aj (X:=Nat×List Rg) (λx=>x.1<=Q.length/\x.2=jF (Q.take x.1))
   (λx=>aF [(6,.row 700 0),(25,.row 600 0),(26,iC .i64 (Q.length:Nat)),(27,iC .i64 (x.1:Nat))] [(600,yf Q),(700,yf x.2)]) (λx=>Q.length-x.1) (0,[]) ⟨aag _,rfl⟩ ?_
  rintro⟨k,out⟩ ⟨g1,g2⟩
  simp only at g1 g2 ⊢
  by_cases hk:k<Q.length
  ·have hol:out.length<=1000000000:=by have:=Vb Q k;rw[<-g2]at this;omega
   have hor:=LX hQr hQs k
   rw[<-g2]at hor
   have g3:=E3 hk
   rw[<-g2]at g3
   have hxr:=hQr _ (aar hk)
   generalize hx:Q[k]=x at *
   have HQ:(Q.map rgP)[k]?=some (rgP x):=by rw[List.getElem?_map,aaa hk,hx];rfl
   clear hQr hQs hx g2
   rcases gl out with rfl|⟨o,y,rfl⟩
   ·have g4:[x]=jF (Q.take (k+1)):=by rw[g3];rfl
    (refine w0 ?_;repeat' first|apply aw|refine ah λhc=>?_|((first|apply aH rfl|apply aJ rfl);(focus (try apply ag rfl rfl rfl rfl rfl);((apply bn 5;(focus rfl);exact aD ⟨rfl,rfl,rfl⟩ rfl aS aS rfl rfl rfl HQ rfl rfl rfl)));refine w0 ?_))
    refine⟨(k+1,[x]),⟨aL,g4⟩,aL,az (aU 700 701) (az (aU 701 700) ?_)⟩
    exact ab
   ·have hyr:=hor y aA
    clear hor
    have hG:jF (Q.take (k+1))=(if y.op=false/\cG y.hi x.lo<0 then(o++[y])++[x]else if LH y x<0 then o++[⟨y.lo,x.hi,x.op⟩]else o++[y]):=by
     rw[g3,HV]
     grind
    clear g3
    have hcm:=hY y.hi x.lo (by have:=((cg y).1 hyr).2.1;omega)
    have hen:=LM y x hyr hxr
    clear hyr hxr
    have hL1:(o++[y]).length=o.length+1:=aA
    generalize hL:o++[y]=L at *
    have hLi:((L.length:Int)-1).toNat=o.length:=ae
    have HY:(L.map rgP)[((L.length:Int)-1).toNat]?=some (rgP y):=by
     rw[List.getElem?_map,hLi,<-hL]
     simp
    have HS1:(L.map rgP).set ((L.length:Int)-1).toNat (cN (rgP y) 1 [ai (.string x.hi)])=(o++[(⟨y.lo,x.hi,y.op⟩:Rg)]).map rgP:=by rw[show(L.map rgP).set ((L.length:Int)-1).toNat (cN (rgP y) 1 [ai (.string x.hi)])=(L.set ((L.length:Int)-1).toNat ⟨y.lo,x.hi,y.op⟩).map rgP from cO rgP L _ (⟨y.lo,x.hi,y.op⟩:Rg),<-hL,gk o y _ [] _ (by rw[hL];omega)]
    have HY2:((o++[(⟨y.lo,x.hi,y.op⟩:Rg)]).map rgP)[((L.length:Int)-1).toNat]?=some (rgP ⟨y.lo,x.hi,y.op⟩):=by
     rw[List.getElem?_map,hLi]
     simp
    have HS2:((o++[(⟨y.lo,x.hi,y.op⟩:Rg)]).map rgP).set ((L.length:Int)-1).toNat (cN (rgP ⟨y.lo,x.hi,y.op⟩) 2 [ai (.bool x.op)])=(o++[(⟨y.lo,x.hi,x.op⟩:Rg)]).map rgP:=by rw[show((o++[(⟨y.lo,x.hi,y.op⟩:Rg)]).map rgP).set ((L.length:Int)-1).toNat (cN (rgP ⟨y.lo,x.hi,y.op⟩) 2 [ai (.bool x.op)])=((o++[(⟨y.lo,x.hi,y.op⟩:Rg)]).set ((L.length:Int)-1).toNat ⟨y.lo,x.hi,x.op⟩).map rgP from cO rgP (o++[(⟨y.lo,x.hi,y.op⟩:Rg)]) _ (⟨y.lo,x.hi,x.op⟩:Rg),gk o _ _ [] _ ae]
    generalize hE:LH y x=E at *
    generalize hC:cG y.hi x.lo=C at *
    cases hyo:y.op with
    | true=>
     rw[hyo,aab aA]at hG
     have HYt:(L.map rgP)[((L.length:Int)-1).toNat]?=some [ai (.string y.lo),ai (.string y.hi),ai (.bool true)]:=by rw[HY];simp only[rgP,hyo]
     (refine bt hcm hen ?_;repeat' first|apply aw|refine ah λhc=>?_|((first|apply aH rfl|apply cB rfl|apply aJ rfl|apply cC rfl);(focus (try apply ag rfl rfl rfl rfl rfl);first|((apply bn 5;(focus rfl);first|exact bV ⟨rfl,rfl,rfl⟩ rfl aS rfl rfl rfl HYt rfl|exact aD ⟨rfl,rfl,rfl⟩ rfl aS aS rfl rfl rfl HY rfl rfl rfl|exact aD ⟨rfl,rfl,rfl⟩ rfl aS aS rfl rfl rfl HQ rfl rfl rfl))|((apply bn 6;(focus rfl);first|exact aW ⟨rfl,rfl⟩ rfl aS rfl rfl rfl rfl HY rfl (bd rfl rfl rfl) rfl HS1|exact aW ⟨rfl,rfl⟩ rfl aS rfl rfl rfl rfl HY2 rfl (bd rfl rfl rfl) rfl HS2)));refine bt hcm hen ?_))
     ·rw[aae ae]at hG
      refine⟨(k+1,_),⟨aL,hG.symm⟩,aL,?_⟩
      exact ab
     ·rw[aab ae]at hG
      refine⟨(k+1,L),⟨aL,hG.symm⟩,aL,?_⟩
      exact ab
    | false=>
     rw[hyo]at hG
     have HYt:(L.map rgP)[((L.length:Int)-1).toNat]?=some [ai (.string y.lo),ai (.string y.hi),ai (.bool false)]:=by rw[HY];simp only[rgP,hyo]
     by_cases hC0:C<0
     ·rw[aae ⟨rfl,hC0⟩]at hG
      (refine bt hcm hen ?_;repeat' first|apply aw|refine ah λhc=>?_|((first|apply aH rfl|apply cB rfl|apply aJ rfl|apply cC rfl);(focus (try apply ag rfl rfl rfl rfl rfl);first|((apply bn 5;(focus rfl);first|exact bV ⟨rfl,rfl,rfl⟩ rfl aS rfl rfl rfl HYt rfl|exact aD ⟨rfl,rfl,rfl⟩ rfl aS aS rfl rfl rfl HY rfl rfl rfl|exact aD ⟨rfl,rfl,rfl⟩ rfl aS aS rfl rfl rfl HQ rfl rfl rfl))|((apply bn 6;(focus rfl);first|exact aW ⟨rfl,rfl⟩ rfl aS rfl rfl rfl rfl HY rfl (bd rfl rfl rfl) rfl HS1|exact aW ⟨rfl,rfl⟩ rfl aS rfl rfl rfl rfl HY2 rfl (bd rfl rfl rfl) rfl HS2)));refine bt hcm hen ?_))
      refine⟨(k+1,L++[x]),⟨aL,hG.symm⟩,aL,az (aU 700 701) (az (aU 701 700) ?_)⟩
      exact ab
     ·rw[aab (λh=>hC0 h.2)]at hG
      (refine bt hcm hen ?_;repeat' first|apply aw|refine ah λhc=>?_|((first|apply aH rfl|apply cB rfl|apply aJ rfl|apply cC rfl);(focus (try apply ag rfl rfl rfl rfl rfl);first|((apply bn 5;(focus rfl);first|exact bV ⟨rfl,rfl,rfl⟩ rfl aS rfl rfl rfl HYt rfl|exact aD ⟨rfl,rfl,rfl⟩ rfl aS aS rfl rfl rfl HY rfl rfl rfl|exact aD ⟨rfl,rfl,rfl⟩ rfl aS aS rfl rfl rfl HQ rfl rfl rfl))|((apply bn 6;(focus rfl);first|exact aW ⟨rfl,rfl⟩ rfl aS rfl rfl rfl rfl HY rfl (bd rfl rfl rfl) rfl HS1|exact aW ⟨rfl,rfl⟩ rfl aS rfl rfl rfl rfl HY2 rfl (bd rfl rfl rfl) rfl HS2)));refine bt hcm hen ?_))
      ·rw[aae ae]at hG
       refine⟨(k+1,_),⟨aL,hG.symm⟩,aL,?_⟩
       exact ab
      ·rw[aab ae]at hG
       refine⟨(k+1,L),⟨aL,hG.symm⟩,aL,?_⟩
       exact ab
  ·have hkl:k=Q.length:=ae
   subst hkl
   have g3:out=R:=by rw[g2,aa9];exact hR
   (refine w0 ?_;refine ah λhc=>?_)
   refine dr ?_
   exact cJ rfl rfl rfl (by rw[g3])
theorem QW (l:List Rg)(s:ByteArray)(hs:s.size<=1000000000)(hl:l.length<=1000000000)(p:Nat)(hp:p<=l.length)(hlt:∀j (hj:j<l.length),((l[j].op=true\/s<l[j].hi)↔p<=j)) :
 Fn prog 134 [.per (gd l),sC s] (eA (p:Nat)):=by
 refine fi func134 ntmps134 ?_
 (refine w0 ?_)
 refine aj (X:=Nat×Nat) (λz=>z.1<=p/\p<=z.2/\z.2<=l.length)
  (λz=>aF [(0,.per (gd l)),(1,sC s),(5,iC .i64 (z.1:Nat)),(6,iC .i64 (z.2:Nat))] []) (λz=>z.2-z.1) (0,l.length) ⟨aag _,hp,aaf _⟩ ?_
 rintro⟨i,j⟩ ⟨h1,h2,h3⟩
 simp only at h1 h2 h3 ⊢
 by_cases hij:i<j
 ·obtain⟨h,hh'⟩:∃h:Nat,(i:Int)+((j:Int)-(i:Int)) / 2=(h:Nat):=⟨i+(j-i) / 2,ae⟩
  have hih:i<=h:=ae
  have hhj:h<j:=ae
  have hlt':=hlt h ae
  have hmm:=hY s l[h].hi ae
  clear hlt
  cases ho:l[h].op with
  | true=>
   rw[ho]at hlt'
   have:=hlt'.1 (.inl rfl)
   clear hlt'
   (refine cE hh' hmm ?_;repeat' first|apply aw|refine ah λhc=>?_)
   all_goals first|(exfalso;simp_all;done)|skip
   refine⟨(i,h),⟨h1,aL,aL⟩,aL,?_⟩
   exact ab
  | false=>
   rw[ho]at hlt'
   have hq:cG s l[h].hi<0↔p<=h:=by rw[<-hlt',iP];simp
   clear hlt'
   (refine cE hh' hmm ?_;repeat' first|apply aw|refine ah λhc=>?_)
   all_goals first|(exfalso;simp_all;done)|skip
   ·refine⟨(i,h),⟨h1,aL,aL⟩,aL,?_⟩
    exact ab
   ·refine⟨(h+1,j),⟨aL,h2,h3⟩,aL,?_⟩
    exact ab
 ·obtain rfl:i=p:=ae
  (refine w0 ?_;refine ah λhc=>?_)
  exact uZ
theorem Vc:∀(l:List Int)(n:Int)(k:Nat),k<=l.length->(∀j (h:j<l.length),j<k->l[j]<n)->(∀h:k<l.length,¬l[k]<n) ->
 ((∃h:k<l.length,l[k]=n)->lp l n=l)/\((¬∃h:k<l.length,l[k]=n)->lp l n=l.take k++n::l.drop k):=by
 intro l
 induction l with
 | nil=>
  intro n k hk _ _
  obtain rfl:k=0:=by simpa using hk
  exact⟨λ⟨h,_⟩=>by simp at h,λ_=>rfl⟩
 | cons x l ih=>
  intro n k hk h1 h2
  cases k with
  | zero=>
   have:=h2 aA
   grind[lp]
  | succ k=>
   have h3:=h1 0 aA ae
   simp only[List.getElem_cons_zero]at h3
   have:=ih n k (by simpa using hk) (λj hj hjk=>by have:=h1 (j+1) (by simpa using hj) ae;simpa using this) (λh=>by have:=h2 (by simpa using h);simpa using this)
   rw[lp,aae h3]
   simp_all
section
variable {P:Program} {n:Nat} {S:St}
theorem wa {t k:Nat}{es es':List (List PV)}(h:S.get t=.per (cn k es))(e:es=es'):cH P n S (.tmp t) (.per (cn k es')):=cS (e▸h)
end
abbrev inP (n:Int):List PV:=[ai (.int .i64 n)]
abbrev QX (l:List Int):PV:=cn 1 (l.map inP)
abbrev E4 (l:List Int):Cnt:=.per (QX l)
theorem sR (l:List Int)(n:Int)(hl:l.length<=1000000000):Fn prog 306 [E4 l,iC .i64 n] (.per (QX (lp l n))):=by
 generalize hR:lp l n=R
 refine fi func306 ntmps306 ?_
 (refine w0 ?_)
 refine aj (X:=Nat) (λk=>k<=l.length/\∀j (h:j<l.length),j<k->l[j]<n)
  (λk=>aF [(0,E4 l),(1,iC .i64 n),(5,iC .i64 ((k:Nat):Int))] []) (λk=>l.length-k) 0 ⟨aag _,λj _ h=>ae⟩ ?_
 rintro k ⟨h1,h2⟩
 by_cases hgo:∃h:k<l.length,l[k]<n
 ·obtain⟨hk,hlt⟩:=hgo
  have h2':∀j (h:j<l.length),j<k+1->l[j]<n:=λj h hj=>by grind
  clear hR h2
  (refine w0 ?_;repeat' first|apply aw|refine ah λhc=>?_)
  refine⟨k+1,⟨hk,h2'⟩,ae,?_⟩
  exact ab
 ·have hP:=Vc l n k h1 h2 (λh q=>hgo ⟨h,q⟩)
  clear h2
  by_cases hk:k<l.length
  ·have hge:¬l[k]<n:=λq=>hgo ⟨hk,q⟩
   by_cases he:l[k]=n
   ·have hR':l=R:=by rw[<-hR,hP.1 ⟨hk,he⟩]
    clear hR hP hgo
    (refine w0 ?_;repeat' first|apply aw|refine ah λhc=>?_)
    refine dr ?_
    exact lO rfl hR'
   ·have hR':l.take k++n::l.drop k=R:=by rw[<-hR,hP.2 (λ⟨_,q⟩=>he q)]
    clear hR hP hgo
    (refine w0 ?_;repeat' first|apply aw|refine ah λhc=>?_)
    refine aV (bS 34 700 3 1 rfl rfl) ?_
    (refine w0 ?_)
    refine⟨.inl rfl,lQ (iW 700 _ 3 1 rfl rfl) (KS rfl (wa rfl (by rw[<-hR'];simp;rfl)))⟩
  ·have hR':l.take k++n::l.drop k=R:=by rw[<-hR,hP.2 (λ⟨q,_⟩=>hk q)]
   clear hR hP hgo
   (refine w0 ?_;repeat' first|apply aw|refine ah λhc=>?_)
   refine aV (bS 34 700 3 1 rfl rfl) ?_
   (refine w0 ?_)
   refine⟨.inl rfl,lQ (iW 700 _ 3 1 rfl rfl) (KS rfl (wa rfl (by rw[<-hR'];simp;rfl)))⟩
theorem E5:∀(l:List Int)(n:Int),(lp l n).length<=l.length+1:=by
 intro l
 induction l<;>grind[lp]
theorem AJ (e:List Int)(l:List Rn)(k:Nat)(h:k<l.length):gx e (l.take (k+1))=xP (gx e (l.take k)) l[k]:=by grind[gx,List.take_succ_eq_append_getElem]
theorem qJ (e:List Int)(l:List Rn)(k:Nat):(gx e (l.take k)).length<=e.length+2*l.length:=by
 have h:=sA (l.take k) e
 rw[aaK]at h
 omega
theorem Ii (a b:List Rn)(ha:a.length<=100000000)(hb:b.length<=100000000):Fn prog 261 [ia a,ia b] (.per (QX (gx (gx [] a) b))):=by
 have lA:=sA a []
 simp only[List.length_nil,aaJ]at lA
 generalize hR:gx (gx [] a) b=R
 refine fi func261 ntmps261 ?_
 (refine w0 ?_)
 refine bw (bS 5 700 3 1 rfl rfl) (bw (iW 700 _ 3 1 rfl rfl) ?_)
 refine aj (X:=Nat) (λk=>k<=a.length)
  (λk=>aF [(0,ia a),(1,ia b),(5,E4 (gx [] (a.take k))),(6,iC .i64 ((k:Nat):Int))] []) (λk=>a.length-k) 0 (aag _) ?_
 intro k hk
 by_cases hlt:k<a.length
 ·have hs:=AJ [] a k hlt
  have hlen:=qJ [] a k
  simp only[List.length_nil,aaJ]at hlen
  have c0:=sk a[k]
  generalize gx [] (a.take k)=E at *
  clear hR
  cases hr:jN a[k]with
  | true=>
   have hi:=(cK _).1 hr
   rw[hr]at c0
   have c1:=sR E a[k].fr ae
   have hp:=E5 E a[k].fr
   have c2:=sR (lp E a[k].fr) (a[k].to+1) ae
   rw[xP,aae hr]at hs
   generalize lp E a[k].fr=E1 at *
   generalize lp E1 (a[k].to+1)=E2 at *
   (refine lc c0 c1 c2 ?_;repeat' first|apply aw|refine ah λhc=>?_)
   refine⟨k+1,hlt,ae,?_⟩
   rw[hs]
   exact ab
  | false=>
   rw[hr]at c0
   rw[xP,aab (by simp[hr])]at hs
   (refine au c0 ?_;repeat' first|apply aw|refine ah λhc=>?_)
   refine⟨k+1,hlt,ae,?_⟩
   rw[hs]
   exact ab
 ·rw[aaj (show a.length<=k by omega)]
  generalize gx [] a=E0 at *
  (refine w0 ?_;refine ah λhc=>?_)
  refine aj (X:=Nat) (λk=>k<=b.length)
   (λk=>aF [(1,ia b),(5,E4 (gx E0 (b.take k))),(7,iC .i64 ((k:Nat):Int))] []) (λk=>b.length-k) 0 (aag _) ?_
  clear hlt hk
  intro k hk
  by_cases hlt:k<b.length
  ·have hs:=AJ E0 b k hlt
   have hlen:=qJ E0 b k
   have c0:=sk b[k]
   generalize gx E0 (b.take k)=E at *
   clear hR
   cases hr:jN b[k]with
   | true=>
    have hi:=(cK _).1 hr
    rw[hr]at c0
    have c1:=sR E b[k].fr ae
    have hp:=E5 E b[k].fr
    have c2:=sR (lp E b[k].fr) (b[k].to+1) ae
    rw[xP,aae hr]at hs
    generalize lp E b[k].fr=E1 at *
    generalize lp E1 (b[k].to+1)=E2 at *
    (refine lc c0 c1 c2 ?_;repeat' first|apply aw|refine ah λhc=>?_)
    refine⟨k+1,hlt,ae,?_⟩
    rw[hs]
    exact ab
   | false=>
    rw[hr]at c0
    rw[xP,aab (by simp[hr])]at hs
    (refine au c0 ?_;repeat' first|apply aw|refine ah λhc=>?_)
    refine⟨k+1,hlt,ae,?_⟩
    rw[hs]
    exact ab
  ·rw[aaj (show b.length<=k by omega),hR]
   (refine w0 ?_;refine ah λhc=>?_)
   exact dr (lO rfl rfl)
theorem yg (l:List Rn)(n:Int)(hl:l.length<=1000000000):Fn prog 148 [ia l,iC .i64 n] (dE (d8 l n)):=by
 generalize hT:d8 l n=T
 refine fi func148 ntmps148 ?_
 (refine w0 ?_)
 refine aj (X:=Nat) (λi=>i<=l.length/\d8 (l.drop i) n=T)
  (λi=>aF [(0,ia l),(1,iC .i64 n),(5,iC .i64 ((i:Nat):Int))] []) (λi=>l.length-i) 0 ⟨aag _,by simpa using hT⟩ ?_
 rintro i ⟨h1,h2⟩
 clear hT
 by_cases hlt:i<l.length
 ·rw[List.drop_eq_getElem_cons hlt,d8,List.any_cons,<-d8]at h2
  have c0:=sk l[i]
  cases hr:jN l[i]with
  | true=>
   rw[hr]at c0
   rw[hr,aaX]at h2
   by_cases c1:l[i].fr<=n
   ·by_cases c2:n<=l[i].to
    ·rw[aao c1,aao c2,aaX,Bool.true_or]at h2
     subst h2
     (refine au c0 ?_;repeat' first|apply aw|refine ah λhc=>?_)
     exact dz
    ·rw[aao c1,aap c2,aaX,abl]at h2
     (refine au c0 ?_;repeat' first|apply aw|refine ah λhc=>?_)
     refine⟨i+1,⟨hlt,h2⟩,ae,?_⟩
     exact ab
   ·rw[aap c1,aa2,abl]at h2
    (refine au c0 ?_;repeat' first|apply aw|refine ah λhc=>?_)
    refine⟨i+1,⟨hlt,h2⟩,ae,?_⟩
    exact ab
  | false=>
   rw[hr]at c0
   rw[hr,aa2,abl]at h2
   (refine au c0 ?_;repeat' first|apply aw|refine ah λhc=>?_)
   refine⟨i+1,⟨hlt,h2⟩,ae,?_⟩
   exact ab
 ·have h2':false=T:=by
   rw[aay ae]at h2
   exact h2
  subst h2'
  clear h2
  (refine w0 ?_;refine ah λhc=>?_)
  exact dz
