/- Texts joined: Wins Law18 Best LawCh Find StP SwP. -/
import Derived.Test.YtaclhhkblbacgaaGreatJ25
set_option maxRecDepth 10000
set_option maxHeartbeats 8000000
namespace Go.Proofs.YtaclhhkblbacgaaGreat
open Go.RowKit Go.Proofs.Tryz
variable {l:List It}
theorem QD (s u:ByteArray):s.toList=u.toList↔s=u:=by
 rw[←zd,beq_toListBytes,beq_iff_eq]
abbrev Vl (ls:List (List It)):Cnt:=.bor 1 (ls.map fun l=>[dP l])
abbrev I2 (l:List It):Ret:=.own 82 7 (l.map itP)
theorem E3 (ls:List (List It))(hl:(ls.flatten.filter eC).length≤100000000)(hn:ls.length≤1000000000)(hm:∀l∈ls,l.length≤1000000000):Fn prog 90 [Vl ls] (I2 (ey ls)):=by
 generalize hT:ls.flatten.filter eC=T at *
 have hTr:∀x∈T,eC x=true:=fun x hx=>by rw[←hT]at hx;exact(WZ.1 hx).2
 have hs:=sZ T (IY hTr) hl
 generalize hR:ey ls=R
 unfold ey at hR
 rw[hT]at hR
 have hql:=i9 T
 generalize fK T=Q at *
 refine fi func90 ntmps90 ?_
 (refine w0 ?_)
 refine bQ (bU 3 600 82 7 rfl rfl) ?_
 refine aj (X:=Nat×List It) (fun x=>x.1≤ls.length∧x.2++(ls.drop x.1).flatten.filter eC=T)
  (fun x=>ay [(3,.row 600 0),(12,Vl ls),(13,iC .i64 (ls.length:Nat)),(14,iC .i64 (x.1:Nat))] [(600,gp x.2)]) (fun x=>ls.length-x.1) (0,[]) ⟨Wa _,by simp[hT]⟩ ?_
 rintro⟨i,acc⟩ ⟨h1,h2⟩
 simp only at h1 h2 ⊢
 by_cases hlt:i<ls.length
 ·have hml:=hm _ (Wk hlt)
  rw[List.drop_eq_getElem_cons hlt,Xn,List.filter_append]at h2
  (refine w0 ?_;repeat' first|apply ah|refine ai fun hc=>?_)
  refine aj (X:=Nat×List It) (fun x=>x.1≤ls[i].length∧x.2++((ls[i].drop x.1).filter eC++(ls.drop (i+1)).flatten.filter eC)=T)
   (fun x=>ay [(3,.row 600 0),(12,Vl ls),(13,iC .i64 (ls.length:Nat)),(14,iC .i64 (i:Nat)),(18,.per (dP ls[i])),(19,iC .i64 (ls[i].length:Nat)),(20,iC .i64 (x.1:Nat))] [(600,gp x.2)]) (fun x=>ls[i].length-x.1) (0,acc) ⟨Wa _,by simpa using h2⟩ ?_
  rintro⟨k,ac⟩ ⟨g1,g2⟩
  simp only at g1 g2 ⊢
  by_cases hk:k<ls[i].length
  ·have hir:=dU ls[i][k]
   have hlen:ac.length≤100000000:=by
    have:=Wx List.length g2
    simp only[V5]at this;omega
   rw[List.drop_eq_getElem_cons hk,List.filter_cons]at g2
   cases hr:eC ls[i][k]with
   | false=>
    rw[hr]at hir g2
    (refine aq hir ?_;repeat' first|apply ah|refine ai fun hc=>?_)
    refine⟨(k+1,ac),⟨aA,by simpa using g2⟩,aA,?_⟩
    exact ae
   | true=>
    rw[hr]at hir g2
    (refine aq hir ?_;repeat' first|apply ah|refine ai fun hc=>?_)
    refine⟨(k+1,ac++[ls[i][k]]),⟨aA,by simpa using g2⟩,aA,av (aN 600 601) (av (aN 601 600) ?_)⟩
    exact ae
  ·have hkl:k=ls[i].length:=ab
   rw[hkl,Xk,List.filter_nil,Wu]at g2
   (refine w0 ?_;repeat' first|apply ah|refine ai fun hc=>?_)
   refine⟨(i+1,ac),⟨aA,g2⟩,aA,?_⟩
   exact ae
 ·have hil:i=ls.length:=ab
  subst hil
  rw[Xk]at h2
  simp at h2
  subst h2
  (refine fP (xi [(1000,600)] hs) ?_;repeat' first|apply ah|refine ai fun hc=>?_)
  clear hs hTr hT hm hn
  refine bQ (bU 8 700 82 7 rfl rfl) ?_
  refine aj (X:=Nat×List It) (fun x=>x.1≤Q.length∧x.2.length≤x.1∧(Q.drop x.1).foldl pU x.2=R)
   (fun x=>ay [(8,.row 700 0),(34,.row 600 0),(35,iC .i64 (Q.length:Nat)),(36,iC .i64 (x.1:Nat))] [(600,gp Q),(700,gp x.2)]) (fun x=>Q.length-x.1) (0,[]) ⟨Wa _,V8 _,hR⟩ ?_
  rintro⟨k,out⟩ ⟨g1,g2,g3⟩
  simp only at g1 g2 g3 ⊢
  by_cases hk:k<Q.length
  ·have hol:out.length≤100000000:=ab
   have HQ:(Q.map itP)[k]?=some (itP Q[k]):=by rw[List.getElem?_map,V4 hk];rfl
   rw[List.drop_eq_getElem_cons hk,List.foldl_cons,pU]at g3
   rcases fm out with rfl|⟨o,y,rfl⟩
   ·simp only[List.reverse_nil]at g3
    (refine w0 ?_;repeat' first|apply ah|refine ai fun hc=>?_|((first|apply aB rfl|apply aC rfl|apply aD rfl|apply aF rfl);(focus ((try (apply bI;(focus rfl);apply ag rfl rfl rfl rfl rfl));first|((apply aZ 5;(focus rfl);exact ax ⟨rfl,rfl,rfl⟩ rfl inferInstance inferInstance rfl rfl rfl HQ rfl rfl rfl))));refine w0 ?_))
    refine⟨(k+1,[Q[k]]),⟨aA,au,g3⟩,aA,av (aN 700 701) (av (aN 701 700) ?_)⟩
    exact ae
   ·simp only[List.reverse_append,List.reverse_cons,List.reverse_nil,Wu,Xx,Xa]at g3
    have hcm:=LB Q[k] y
    have hL1:(o++[y]).length=o.length+1:=au
    generalize hL:o++[y]=L at *
    have HY:(L.map itP)[((L.length:Int)-1).toNat]?=some (itP y):=by
     rw[List.getElem?_map,←hL,show(((o++[y]).length:Int)-1).toNat=o.length by rw[hL];omega]
     simp
    have HS:(L.map itP).set ((L.length:Int)-1).toNat (cH (itP y) 0 (itP Q[k]))=(o++[Q[k]]).map itP:=by
     rw[show(L.map itP).set ((L.length:Int)-1).toNat (cH (itP y) 0 (itP Q[k]))=(L.set ((L.length:Int)-1).toNat Q[k]).map itP from cg itP _ _ _,←hL,fk o y Q[k] [] _ (by rw[hL];omega)]
    by_cases hky:y.key=Q[k].key
    ·rw[V6 hky]at g3
     (refine aq hcm ?_;repeat' first|apply ah|refine ai fun hc=>?_|((first|apply aB rfl|apply aC rfl|apply aD rfl|apply aF rfl);(focus ((try (apply bI;(focus rfl);apply ag rfl rfl rfl rfl rfl));first|((apply aZ 5;(focus rfl);first|exact bR ⟨rfl,rfl,rfl⟩ rfl inferInstance rfl rfl rfl HY rfl|exact ax ⟨rfl,rfl,rfl⟩ rfl inferInstance inferInstance rfl rfl rfl HY rfl rfl rfl|exact ax ⟨rfl,rfl,rfl⟩ rfl inferInstance inferInstance rfl rfl rfl HQ rfl rfl rfl))|((apply aZ 6;(focus rfl);exact aM ⟨rfl,rfl⟩ rfl inferInstance rfl rfl rfl rfl HY rfl (.inl rfl) rfl HS))));refine aq hcm ?_))
     ·rw[V6 ab]at g3
      refine⟨(k+1,o++[Q[k]]),⟨aA,bn,g3⟩,aA,?_⟩
      exact ae
     ·rw[V3 ab]at g3
      refine⟨(k+1,L),⟨aA,aA,g3⟩,aA,?_⟩
      exact ae
    ·rw[V3 hky]at g3
     have hne:y.key.toList≠Q[k].key.toList:=fun h=>hky ((QD _ _).1 h)
     (refine aq hcm ?_;repeat' first|apply ah|refine ai fun hc=>?_|((first|apply aB rfl|apply aC rfl|apply aD rfl|apply aF rfl);(focus ((try (apply bI;(focus rfl);apply ag rfl rfl rfl rfl rfl));first|((apply aZ 5;(focus rfl);first|exact bR ⟨rfl,rfl,rfl⟩ rfl inferInstance rfl rfl rfl HY rfl|exact ax ⟨rfl,rfl,rfl⟩ rfl inferInstance inferInstance rfl rfl rfl HY rfl rfl rfl|exact ax ⟨rfl,rfl,rfl⟩ rfl inferInstance inferInstance rfl rfl rfl HQ rfl rfl rfl))|((apply aZ 6;(focus rfl);exact aM ⟨rfl,rfl⟩ rfl inferInstance rfl rfl rfl rfl HY rfl (.inl rfl) rfl HS))));refine aq hcm ?_))
     refine⟨(k+1,L++[Q[k]]),⟨aA,bn,g3⟩,aA,av (aN 700 701) (av (aN 701 700) ?_)⟩
     exact ae
  ·have hkl:k=Q.length:=ab
   rw[hkl,Xk,List.foldl_nil]at g3
   (refine w0 ?_;repeat' first|apply ah|refine ai fun hc=>?_)
   refine dw ?_
   exact cJ rfl rfl rfl (by rw[g3])
section
variable {P:Program} {n t:Nat} {ops:Array Oper} {o:Oper} {S:St}
theorem Nh {op:BinOp}{q:Bool}{ty ty':TypeId}{x y:Operand}{u v:Bool}(hp:Pl n o t)(ho:o.op=.binOp op ty x y ty')(hT:gx P ty .bool)(hx:S.opd x=bC u)(hy:S.opd y=bC v)(hq:TP q op):aw n P ops o (az x++az y) (bC ((u==v) != q)) [] S:=
 aV hp fun C T g a w hA hR=>by
  have h1:=aP (x:=x) hA (fun k h=>by simp[h]) hR hx
  have h2:=aP (x:=y) hA (fun k h=>by simp[h]) hR hy
  refine⟨.bool ((u==v) != q),?_,rfl⟩
  rcases hq with⟨rfl,rfl⟩|⟨rfl,rfl⟩
  ·simp[execOp,ho,h1,h2,eqGuard_at_bool,run_eql_bool _ _ _ _ hT.h]
  ·simp[execOp,ho,h1,h2,eqGuard_at_bool,run_neq_bool _ _ _ _ hT.h]
end
def U6:It:=⟨⟨#[107]⟩,1,1,3,0,false,⟨#[]⟩⟩
def tc:Option It→Option It→Option It
 | none,b=>b
 | some a,none=>some a
 | some a,some b=>if wA b a>0 then some b else some a
theorem oP (a:Option It):tc a none=a:=by cases a<;>rfl
theorem vC (x y:It):wA x y>0↔(x.rank>y.rank∨x.rank=y.rank∧(x.rep>y.rep∨x.rep=y.rep∧x.cnt>y.cnt)):=by
 unfold wA Ec
 split
 ·exact⟨fun _=>.inl (by assumption),fun _=>bz⟩
 ·split
  ·exact⟨fun h=>absurd h bz,fun h=>ab⟩
  ·split
   ·exact⟨fun h=>absurd h bz,fun h=>ab⟩
   ·split
    ·exact⟨fun h=>absurd h bz,fun h=>ab⟩
    ·exact⟨fun h=>ab,fun h=>bz⟩
theorem E4 (a b c:Option It):tc (tc a b) c=tc a (tc b c):=by
 cases a with
 | none=>rfl
 | some a=>
  cases b with
  | none=>rfl
  | some b=>
   cases c with
   | none=>simp only[oP]
   | some c=>
    simp only[tc]
    by_cases h1:wA b a>0<;>by_cases h2:wA c b>0<;>simp only[h1,h2,Xq,XC]
    all_goals (rw[vC]at h1 h2)
    ·rw[V6];rw[vC];omega
    ·rw[V3];rw[vC];omega
def Uj (b:Option It)(x:It):Option It:=tc b (some x)
def fQ (k:ByteArray)(l:List It):Option It:=(l.filter fun x=>x.key==k).foldl Uj none
theorem Ni (l:List It):∀b,l.foldl Uj b=tc b (l.foldl Uj none):=by
 induction l with
 | nil=>intro b;exact(oP b).symm
 | cons x l ih=>
  intro b
  rw[List.foldl_cons,List.foldl_cons,ih (Uj b x),ih (Uj none x)]
  exact E4 b (some x) _
theorem nQ (k:ByteArray)(l r:List It):fQ k (l++r)=tc (fQ k l) (fQ k r):=by
 unfold fQ
 rw[List.filter_append,List.foldl_append,Ni]
theorem qQ (k:ByteArray)(x:It):fQ k [x]=if x.key==k then some x else none:=by
 unfold fQ
 rw[List.filter_cons]
 split<;>rfl
theorem x8 {k:ByteArray}(h:∀x∈l,x.key≠k):fQ k l=none:=by
 unfold fQ
 rw[List.filter_eq_nil_iff.2 (fun x hx=>by simpa[zd]using h x hx)];rfl
theorem x9:∀(a b:List UInt8),dr b a = - dr a b∧(dr a b=0→a=b):=by
 intro a
 induction a with
 | nil=>intro b;cases b<;>simp[dr]
 | cons x a ih=>
  intro b
  cases b with
  | nil=>simp[dr]
  | cons y b=>
   obtain⟨h1,h2⟩:=ih b
   simp only[dr]
   refine⟨?_,?_⟩
   ·split
    ·split
     ·omega
     ·rfl
    ·split
     ·rfl
     ·exact h1
   ·split
    ·intro h;cases h
    ·split
     ·intro h;cases h
     ·intro h
      rw[h2 h,show x=y from Xj.1 ab]
theorem tL (s t:ByteArray):cP s t=0↔s=t:=by
 constructor
 ·intro h
  have:=(x9 s.data.toList t.data.toList).2 h
  cases s;cases t;simp only at this;rw[Array.toList_inj.1 this]
 ·rintro rfl
  exact(tJ s.data.toList [] []).1
theorem ye (s t:ByteArray):cP t s = - cP s t:=(x9 _ _).1
theorem QE (x y:It):vp ltK x y=(y.key==x.key):=by
 have h1:=tL y.key x.key
 have h2:=ye y.key x.key
 rw[Wo,zd,←h1]
 unfold vp ltK
 simp only[Wi,Xp,Wt]
 omega
theorem GN (x:It):vp ltK x=fun y=>y.key==x.key:=funext (QE x)
theorem Nj {M N:List It}(h:im ltK M N)(k:ByteArray):fQ k N=fQ k M:=by
 have:=h ⟨k,0,0,0,0,false,⟨#[]⟩⟩
 simp only[GN]at this
 unfold fQ;rw[this]
def Up (l:List It):Prop:=l.Pairwise fun x y=>ltK x y=true
theorem Up.srt (h:Up l):lg ltK l:=h.imp fun h=>eW.asym h
theorem Nk {x y:It}(h:ltK x y=true):x.key≠y.key:=fun e=>by
 rw[m3,e,(tL _ _).2 rfl]at h;omega
theorem QF {x y:It}(h1:ltK x y=false)(h2:y.key≠x.key):ltK y x=true:=by
 rw[CH]at h1
 have h3:=ye x.key y.key
 have h4:cP y.key x.key≠0:=mt (tL y.key x.key).1 h2
 rw[m3];omega
theorem Up.filter (h:Up l)(k:ByteArray):l.filter (fun x=>x.key==k)=(fQ k l).toList:=by
 unfold fQ
 suffices hs:∃o:Option It,l.filter (fun x=>x.key==k)=o.toList by
  obtain⟨o,ho⟩:=hs
  rw[ho];cases o<;>rfl
 induction l with
 | nil=>exact⟨none,rfl⟩
 | cons x l ih=>
  have h':=List.pairwise_cons.1 h
  rw[List.filter_cons]
  split
  ·rename_i hx
   rw[zd]at hx
   refine⟨some x,?_⟩
   rw[List.filter_eq_nil_iff.2 (fun y hy e=>by
    rw[zd]at e
    exact Nk (h'.1 y hy) (hx.trans e.symm))]
   rfl
  ·exact ih h'.2
theorem Up.uniq {M N:List It}(hM:Up M)(hN:Up N)(h:∀k,fQ k M=fQ k N):M=N:=
 lg.uniq eW hM.srt hN.srt fun x=>by simp only[GN];rw[hN.filter,hM.filter,h]
theorem Nl:∀(r P out:List It),lg ltK r→Up out→(∀z∈out,∀x∈r,ltK x z=false)→(∀z∈out,z∈P)→(∀k,fQ k out=fQ k P) →
 Up (r.foldl pU out)∧(∀z∈r.foldl pU out,z∈P++r)∧∀k,fQ k (r.foldl pU out)=fQ k (P++r):=by
 intro r
 induction r with
 | nil=>intro P out _ h2 _ h4 h5;simpa using⟨h2,h4,h5⟩
 | cons x r ih=>
  intro P out h1 h2 h3 h4 h5
  have h1':=List.pairwise_cons.1 h1
  have key:Up (pU out x)∧(∀z∈pU out x,z=x∨z∈out)∧∀k,fQ k (pU out x)=tc (fQ k out) (fQ k [x]):=by
   unfold pU
   rcases fm out with rfl|⟨o,y,rfl⟩
   ·exact⟨Xe _ _,fun z hz=>by simp at hz;exact .inl hz,fun k=>rfl⟩
   ·simp only[List.reverse_append,List.reverse_cons,List.reverse_nil,Wu,Xx,Xa]
    have hu:=List.pairwise_append.1 h2
    have hyx:=h3 y au x au
    split
    ·rename_i hk
     have ho:∀z∈o,z.key≠y.key:=fun z hz=>Nk (hu.2.2 z hz y au)
     split
     ·rename_i hc
      refine⟨List.pairwise_append.2 ⟨hu.1,Xe _ _,fun z hz w hw=>?_⟩,fun z hz=>?_,fun k=>?_⟩
      ·simp at hw;subst hw
       have:=hu.2.2 z hz y au
       rw[m3,hk]at this;rw[m3];exact this
      ·simp at hz ⊢;rcases hz with q|q
       ·exact .inr (.inl q)
       ·exact .inl q
      ·rw[nQ,nQ,qQ,qQ,hk]
       by_cases hkk:(x.key==k)=true
       ·simp only[hkk,Xq]
        rw[x8 (fun z hz e=>ho z hz (by rw[e,hk,(zd _ _).1 hkk]))]
        simp[tc,hc]
       ·simp only[hkk];simp[oP]
     ·rename_i hc
      refine⟨h2,fun z hz=>.inr hz,fun k=>?_⟩
      rw[nQ,qQ,qQ,hk]
      by_cases hkk:(x.key==k)=true
      ·simp only[hkk,Xq]
       rw[x8 (fun z hz e=>ho z hz (by rw[e,hk,(zd _ _).1 hkk]))]
       simp only[tc];rw[V3 hc]
      ·simp only[hkk];simp[oP]
    ·rename_i hk
     have hlt:=QF hyx hk
     refine⟨List.pairwise_append.2 ⟨h2,Xe _ _,fun z hz w hw=>?_⟩,fun z hz=>?_,fun k=>nQ k _ _⟩
     ·simp at hw;subst hw
      rcases Wz.1 hz with q|q
      ·exact eW.tr z y _ (hu.2.2 z q y au) hlt
      ·simp at q;subst q;exact hlt
     ·rcases Wz.1 hz with q|q
      ·exact .inr q
      ·simp at q;exact .inl q
  obtain⟨k1,k2,k3⟩:=key
  have:=ih (P++[x]) (pU out x) h1'.2 k1 (fun z hz w hw=>?_) (fun z hz=>?_) (fun k=>by rw[k3,nQ,h5])
  ·simpa using this
  ·rcases k2 z hz with q|q
   ·subst q;exact h1'.1 w hw
   ·exact h3 z q w (by simp[hw])
  ·rcases k2 z hz with q|q
   ·subst q;simp
   ·exact List.mem_append_left _ (h4 z q)
theorem j2 (ls:List (List It)):Up (ey ls)∧(∀z∈ey ls,z∈ls.flatten.filter eC)∧∀k,fQ k (ey ls)=fQ k (ls.flatten.filter eC):=by
 unfold ey
 generalize ls.flatten.filter eC=T
 obtain⟨h1,h2,h3⟩:=Nl (fK T) [] [] (nP T) XF (fun z h=>by simp at h) (fun z h=>by simp at h) (fun _=>rfl)
 exact⟨h1,fun z hz=>(mc T).mem eW (by simpa using h2 z hz),fun k=>by rw[h3,Wu,Nj (mc T)]⟩
theorem zJ {ls:List (List It)}:(ey ls).filter eC=ey ls:=List.filter_eq_self.2 fun z hz=>(WZ.1 ((j2 ls).2.1 z hz)).2
theorem E5 (ls:List (List It)):(ey ls).length≤(ls.flatten.filter eC).length:=by
 unfold ey
 generalize ls.flatten.filter eC=T
 have:∀(r out:List It),(r.foldl pU out).length≤out.length+r.length:=by
  intro r
  induction r with
  | nil=>intro out;exact V8 _
  | cons x r ih=>
   intro out
   rw[List.foldl_cons,Wh]
   have h1:=ih (pU out x)
   have h2:=Nc out x
   omega
 have:=this (fK T) []
 rw[i9]at this
 simpa using this
def zK (l:List It)(i:Nat):Prop:=∀h:i<l.length,eC l[i]=true∧∀h0:0<i,cP l[i-1].key l[i].key<0
def vD (l:List It):Prop:=∀i,zK l i
theorem yf (h:vD l):Up l:=by
 unfold Up
 rw[List.pairwise_iff_getElem]
 intro i j hi hj hij
 induction j with
 | zero=>omega
 | succ j ih=>
  have h1:=(h (j+1) hj).2 ab
  simp only[WD]at h1
  rcases Wm i j with q|q
  ·exact eW.tr _ _ _ (ih ab q) (by rw[m3];exact h1)
  ·obtain rfl:i=j:=ab
   rw[m3];exact h1
theorem zL (h:vD l):∀x∈l,eC x=true:=fun x hx=>by
 obtain⟨i,hi,rfl⟩:=List.getElem_of_mem hx
 exact(h i hi).1
section
variable {P:Program} {n t:Nat} {ops:Array Oper} {o:Oper} {S:St}
end
theorem yg (l:List It)(hk:ng l)(hl:l.length≤1000000000)(b:Bool)(hb:b=true↔vD l):Fn prog 81 [fj l] (dq b):=by
 refine fi func81 ntmps81 ?_
 (refine w0 ?_)
 refine aj (X:=Nat) (fun z=>z≤l.length∧∀i,i<z→zK l i)
  (fun z=>ay [(0,fj l),(5,fj l),(6,iC .i64 (l.length:Nat)),(7,iC .i64 (z:Nat))] []) (fun z=>l.length-z) 0 ⟨Wa _,fun i h=>absurd h (W4 _)⟩ ?_
 rintro z ⟨h1,h2⟩
 by_cases hz:z<l.length
 ·have hir:=dU l[z]
  have hno:¬zK l z→b=false:=fun h=>by rw[←Wy,hb];exact fun q=>h (q z)
  cases hr:eC l[z]with
  | false=>
   have hb0:=hno (fun h=>by have:=(h hz).1;rw[hr]at this;cases this)
   subst hb0
   clear hb hno h2
   rw[hr]at hir
   (refine aq hir ?_;repeat' first|apply ah|refine ai fun hc=>?_)
   exact dp
  | true=>
   rw[hr]at hir
   by_cases h0:0<z
   ·obtain⟨q,rfl⟩:∃q,z=q+1:=⟨z-1,ab⟩
    have hqE:((q+1:Nat):Int)-1=(q:Nat):=ab
    have hcm:=ii l[q].key l[q+1].key (by have:=hk l[q] (Wk _);omega)
    by_cases hlt:cP l[q].key l[q+1].key<0
    ·have hok:zK l (q+1):=fun _=>⟨hr,fun _=>hlt⟩
     clear hb hno
     (refine bp hqE hir hcm ?_;repeat' first|apply ah|refine ai fun hc=>?_)
     refine⟨q+1+1,⟨ab,fun i hi=>?_⟩,ab,?_⟩
     ·rcases Wm i (q+1)with q'|q'
      ·exact h2 i q'
      ·obtain rfl:i=q+1:=ab
       exact hok
     ·exact ae
    ·have hb0:=hno (fun h=>hlt ((h hz).2 h0))
     subst hb0
     clear hb hno h2
     (refine bp hqE hir hcm ?_;repeat' first|apply ah|refine ai fun hc=>?_)
     exact dp
   ·have hok:zK l z:=fun _=>⟨hr,fun h=>absurd h h0⟩
    clear hb hno
    (refine aq hir ?_;repeat' first|apply ah|refine ai fun hc=>?_)
    refine⟨z+1,⟨ab,fun i hi=>?_⟩,ab,?_⟩
    ·rcases Wm i z with q|q
     ·exact h2 i q
     ·obtain rfl:i=z:=ab
      exact hok
    ·exact ae
 ·have hb1:b=true:=hb.2 (fun i=>by
   rcases Wm i z with q|q
   ·exact h2 i q
   ·exact fun h=>ab)
  subst hb1
  clear hb h2
  (refine w0 ?_;repeat' first|apply ah|refine ai fun hc=>?_)
  exact dp
theorem Nm (l:List It)(hk:ng l)(hl:l.length≤1000000000)(b:Bool)(hb:b=true↔vD l):Fn prog 26 [fj l] (dq b):=by
 refine fi func26 ntmps26 ?_
 (refine w0 ?_)
 refine aj (X:=Nat) (fun z=>z≤l.length∧∀i,i<z→zK l i)
  (fun z=>ay [(0,fj l),(3,iC .i64 (z:Nat))] []) (fun z=>l.length-z) 0 ⟨Wa _,fun i h=>absurd h (W4 _)⟩ ?_
 rintro z ⟨h1,h2⟩
 by_cases hz:z<l.length
 ·have hir:=fc l[z]
  have hno:¬zK l z→b=false:=fun h=>by rw[←Wy,hb];exact fun q=>h (q z)
  cases hr:eC l[z]with
  | false=>
   have hb0:=hno (fun h=>by have:=(h hz).1;rw[hr]at this;cases this)
   subst hb0
   clear hb hno h2
   rw[hr]at hir
   (refine aq hir ?_;repeat' first|apply ah|refine ai fun hc=>?_)
   exact dp
  | true=>
   rw[hr]at hir
   by_cases h0:0<z
   ·obtain⟨q,rfl⟩:∃q,z=q+1:=⟨z-1,ab⟩
    have hqE:((q+1:Nat):Int)-1=(q:Nat):=ab
    have hcm:=jR l[q].key l[q+1].key (by have:=hk l[q] (Wk _);omega)
    by_cases hlt:cP l[q].key l[q+1].key<0
    ·have hok:zK l (q+1):=fun _=>⟨hr,fun _=>hlt⟩
     rw[Wb hlt]at hcm
     clear hb hno
     (refine bp hqE hir hcm ?_;repeat' first|apply ah|refine ai fun hc=>?_)
     refine⟨q+1+1,⟨ab,fun i hi=>?_⟩,ab,?_⟩
     ·rcases Wm i (q+1)with q'|q'
      ·exact h2 i q'
      ·obtain rfl:i=q+1:=ab
       exact hok
     ·exact ae
    ·have hb0:=hno (fun h=>hlt ((h hz).2 h0))
     rw[Wj hlt]at hcm
     subst hb0
     clear hb hno h2
     (refine bp hqE hir hcm ?_;repeat' first|apply ah|refine ai fun hc=>?_)
     exact dp
   ·have hok:zK l z:=fun _=>⟨hr,fun h=>absurd h h0⟩
    clear hb hno
    (refine aq hir ?_;repeat' first|apply ah|refine ai fun hc=>?_)
    refine⟨z+1,⟨ab,fun i hi=>?_⟩,ab,?_⟩
    ·rcases Wm i z with q|q
     ·exact h2 i q
     ·obtain rfl:i=z:=ab
      exact hok
    ·exact ae
 ·have hb1:b=true:=hb.2 (fun i=>by
   rcases Wm i z with q|q
   ·exact h2 i q
   ·exact fun h=>ab)
  subst hb1
  clear hb h2
  (refine w0 ?_;repeat' first|apply ah|refine ai fun hc=>?_)
  exact dp
structure Sta where
 id:Int:=0
 flt:List Rg:=[]
 its:List It:=[]
 know:List Pc:=[]
 cnt:Int:=0
def md (k:List Pc)(f:List Rg)(s:ByteArray):List Kn:=if cQ f s then lC k s else []
def mT (k:List Pc)(f:List Rg):List ByteArray:=j9 [emB] (cK k++f)
def cX (k:List Pc)(f:List Rg):List Pc:=pR (md k f) (mT k f)
theorem GP (k:List Pc)(f:List Rg)(s:ByteArray):cu (md k f s):=by
 unfold md
 split
 ·exact rU k s
 ·exact ma
theorem r6 {k:List Pc}{f:List Rg}{r:Rg}(hr:r∈cK k++f){m:ByteArray}(h:ly r m):m∈mT k f:=(j0 _ _ _).2 (.inr ⟨r,hr,h⟩)
theorem QG (k:List Pc)(f:List Rg):Aq (mT k f):=GC _ _ au
theorem QH (k:List Pc)(f:List Rg):emB∈mT k f:=(j0 _ _ _).2 (.inl au)
theorem zM (k:List Pc)(f:List Rg):pn (mT k f):=fun m hm=>by
 rcases(j0 _ _ _).1 hm with h|⟨r,_,h1,h2⟩
 ·have h:m=emB:=by simpa using h
  rw[h];decide
 ·have:=(b0 r).1 h1
  rcases h2 with h2|⟨_,h2⟩<;>rw[h2]<;>omega
theorem Nn (k:List Pc)(f:List Rg):M1 (md k f) (mT k f):=fun e n hen h=>by
 have h1:lC k e=lC k n:=GG hen fun p hp m hm=>h m (r6 (List.mem_append_left _ (List.mem_map_of_mem hp)) hm)
 have h2:cQ f e=cQ f n:=by
  unfold cQ
  rw[Wo,Xc,Xc]
  constructor
  ·rintro⟨r,hr,q⟩
   exact⟨r,hr,by rw[←rV hen fun m hm=>h m (r6 (List.mem_append_right _ hr) hm)];exact q⟩
  ·rintro⟨r,hr,q⟩
   exact⟨r,hr,by rw[rV hen fun m hm=>h m (r6 (List.mem_append_right _ hr) hm)];exact q⟩
 unfold md
 rw[h1,h2]
theorem nR (k:List Pc)(f:List Rg):aX (cX k f)∧∀s,eG (cX k f) s=md k f s:=zy (GP k f) (QG k f) (zM k f) (QH k f) (Nn k f)
def zN (l:List Rn):Int:=match l.getLast? with|some r=>r.to|none=>0
def vE (l:List Rn):Int:=zN (ofR l)
def qR (s:List Kn)(id:Int):Int:=if 1≤id∧id≤16 then vE (bh s (id-1).toNat)else 0
def lm (k:List Pc)(id:Int):Int:=k.foldl (fun n p=>max n (qR p.set id)) 0
theorem sI (l:List Rn)(r:Rn):zN (l++[r])=r.to:=by unfold zN;simp
def po (id:Int)(n:Int)(k:Kn):Int:=if k.rep=id then max n (zN k.runs)else n
theorem Np (id:Int):∀(T:List (List Rn)) (i:Nat) (n:Int),0≤n→(bx ofR i T).foldl (po id) n=if h:(i:Int)<id∧id≤i+T.length then max n (vE (T[(id-1-i).toNat]'(ab)))else n:=by
 intro T
 induction T with
 | nil=>intro i n hn;rw[dif_neg (fun q=>by have:=q.2;simp only[List.length_nil]at this;omega)];rfl
 | cons l T ih=>
  intro i n hn
  rw[bx,List.foldl_append]
  by_cases e:id=(i:Int)+1
  ·have h1:(if(ofR l).length=0 then []else [(⟨(i:Int)+1,ofR l⟩:Kn)]).foldl (po id) n=max n (vE l):=by
    split
    ·rename_i h0
     have:ofR l=[]:=Wf h0
     have hm:vE l=0:=by unfold vE;rw[this];rfl
     rw[hm];exact(Int.max_eq_left hn).symm
    ·simp only[List.foldl_cons,List.foldl_nil,po]
     rw[V6 e.symm];rfl
   rw[h1,ih (i+1) _ ab,dif_neg bn,dif_pos bn]
   have:(id-1-(i:Int)).toNat=0:=ab
   simp only[this,Xf]
  ·have h1:(if(ofR l).length=0 then []else [(⟨(i:Int)+1,ofR l⟩:Kn)]).foldl (po id) n=n:=by
    split
    ·rfl
    ·simp only[List.foldl_cons,List.foldl_nil,po]
     rw[V3 (fun q=>e q.symm)]
   rw[h1,ih (i+1) n hn]
   by_cases c:(i:Int)<id∧id≤(i:Int)+((l::T).length:Nat)
   ·simp only[Wh]at c
    rw[dif_pos ab,dif_pos (by simp only[Wh];omega)]
    obtain⟨m,hm⟩:∃m,(id-1-(i:Int)).toNat=m+1:=⟨(id-1-(i:Int)).toNat-1,ab⟩
    have hm2:(id-1-((i+1:Nat):Int)).toNat=m:=ab
    simp only[hm,hm2,List.getElem_cons_succ]
   ·rw[dif_neg (by simp only[Wh]at c;omega),dif_neg c]
theorem I3 (s:List Kn)(id n:Int)(hn:0≤n):(gH ofR s).foldl (po id) n=max n (qR s id):=by
 unfold gH
 rw[Np id _ 0 n hn]
 unfold qR
 by_cases c:1≤id∧id≤16
 ·rw[dif_pos (by rw[bW];omega),V6 c]
  have h:=cG s (r:=(id-1).toNat) ab
  have e:(id-1-((0:Nat):Int)).toNat=(id-1).toNat:=ab
  simp only[e]
  rw[V4 (by rw[bW];omega)]at h
  rw[Option.some.inj h]
 ·rw[dif_neg (by rw[bW];omega),V3 c];omega
def verOf (x:It):Int×Int:=(x.rep,x.cnt)
def ja (l:List It):Bool:=decide ((l.map verOf).Nodup)
def iI (s:List Kn)(r c:Int):Bool:=gm r c&&dR (bh s (r-1).toNat) c
def cp (k:List Pc)(s:ByteArray)(r c:Int):Bool:=k.any fun p=>cO p.rg s&&iI p.set r c
def gV (l:List It):Bool:=l.all eC&&decide ((l.map It.key).Pairwise (·<·))
def oQ (s:Sta):Bool:=
 decide (1≤s.id∧s.id≤16)&&decide (0≤s.cnt∧s.cnt≤1099511627776)&&decide (s.its.length≤4096)&&decide (cb s.flt)&&gV s.its&&decide (aX s.know) &&
 decide (cX s.know s.flt=s.know)&&decide (lm s.know s.id≤s.cnt)&&ja s.its&&s.its.all (fun x=>cQ s.flt x.key&&cp s.know x.key x.rep x.cnt)
theorem oS (r c:Int):iI [] r c=false:=by unfold iI bh dR;simp
theorem iJ:∀{k:List Pc},aX k→∀(s:ByteArray)(r c:Int),cp k s r c=iI (eG k s) r c:=by
 intro k
 induction k with
 | nil=>intro _ s r c;rw[qJ,oS];rfl
 | cons p l ih=>
  intro h s r c
  have hl:=((dj p l).1 h).2.2
  have e:cp (p::l) s r c=((cO p.rg s&&iI p.set r c)||cp l s r c):=rfl
  rw[e,ih hl]
  by_cases q:cO p.rg s=true
  ·have hn:eG l s=[]:=by
    by_cases g:eG l s=[]
    ·exact g
    ·obtain⟨g1,g2⟩:=lZ h g
     have hr:=(da ((dj p l).1 h).1.1 s).1 q
     rcases hr.2 with q2|q2
     ·rw[g1]at q2;cases q2
     ·grind
   rw[q,lh q,hn,oS];simp
  ·rw[gg q,Bool.eq_false_iff.2 q];simp
theorem kA {s:List Kn}{r c:Int}:iI s r c=true↔gm r c=true∧gd (bh s (r-1).toNat) c:=by
 unfold iI
 rw[Wi,jx]
theorem vF {r c:Int}(h:gm r c=true):1≤r∧r≤16:=by
 unfold gm at h
 simp at h
 omega
theorem CI {a b:List Kn}{r c:Int}:iI (gH ofR (a++b)) r c=true↔iI a r c=true∨iI b r c=true:=by
 rw[kA,kA,kA]
 constructor
 ·rintro⟨h1,h2⟩
  have:=vF h1
  rw[vA _ ab,lf,x7,lW]at h2
  rcases h2 with h2|h2
  ·exact .inl ⟨h1,h2⟩
  ·exact .inr ⟨h1,h2⟩
 ·intro h
  have h1:gm r c=true:=by rcases h with h|h<;>exact h.1
  have:=vF h1
  refine⟨h1,?_⟩
  rw[vA _ ab,lf,x7,lW]
  rcases h with h|h
  ·exact .inl h.2
  ·exact .inr h.2
theorem Nq:gH ofR []=[]:=oO ma
theorem SS (s:ByteArray):lC [] s=[]:=Nq
theorem vG {a b:List Pc}(ha:aX a)(hb:aX b)(s:ByteArray)(r c:Int):cp (wq (a++b)) s r c=(cp a s r c||cp b s r c):=by
 obtain⟨h1,h2⟩:=pT (a++b)
 rw[Wo,WN,iJ h1,h2,EZ,CI,iJ ha,iJ hb,jE ha,jE hb]
def Ar (f:List Rg)(l:List It):List It:=l.filter fun x=>cQ f x.key
def pq (s:Sta)(l:List It)(k:List Pc):Sta×Int:=
 if oQ s=false then({},41)
 else if gV l=false∨¬aX k then({},2)
 else if(Ar s.flt l).any (fun x=>!cp s.know x.key x.rep x.cnt&&!cp (cX k s.flt) x.key x.rep x.cnt)then({},2)
 else if lm (cX k s.flt) s.id>s.cnt then({},2)
 else if ja (ey [s.its++Ar s.flt l])=false then({},2)
 else if(ey [s.its++Ar s.flt l]).length>4096 then({},32)
 else(⟨s.id,s.flt,ey [s.its++Ar s.flt l],wq (s.know++cX k s.flt),s.cnt⟩,0)
def jh (l:List It)(f:List Rg)(k:List Pc):List It:=l.filter fun x=>cQ f x.key&&!cp k x.key x.rep x.cnt
theorem QI {s:Sta}(h:oQ s=true):aX s.know∧∀x∈s.its,cp s.know x.key x.rep x.cnt=true:=by
 unfold oQ at h
 simp only[Wi,Wn,WJ]at h
 exact⟨h.1.1.1.1.2,fun x hx=>(h.2 x hx).2⟩
theorem QJ:∀(X:List Kn),((List.range 16).flatMap (bh X)).length≤(X.flatMap Kn.runs).length:=by
 intro X
 induction X with
 | nil=>simp[bh];decide
 | cons k X ih=>
  have e:∀R:List Nat,R.Nodup→(R.flatMap (bh (k::X))).length≤k.runs.length+(R.flatMap (bh X)).length:=by
   intro R
   induction R with
   | nil=>intro _;simp
   | cons r R ih2=>
    intro hn
    obtain⟨hr,hn⟩:=List.nodup_cons.1 hn
    have e1:bh (k::X) r=(if k.rep=(r:Int)+1 then k.runs else [])++bh X r:=by unfold bh;rw[List.flatMap_cons]
    rw[List.flatMap_cons,List.flatMap_cons,V5,V5,e1,V5]
    by_cases c:k.rep=(r:Int)+1
    ·rw[V6 c]
     have e2:R.flatMap (bh (k::X))=R.flatMap (bh X):=by
      rw[List.flatMap_def,List.flatMap_def]
      congr 1
      refine List.map_congr_left fun q hq=>?_
      have : ¬ k.rep = (q : Int) + 1 := fun w => hr (by have : q = r := ab
                                                        rw[←this];exact hq)
      unfold bh
      rw[List.flatMap_cons,V3 this,Wu]
     rw[e2];omega
    ·rw[V3 c]
     have:=ih2 hn
     simp only[List.length_nil];omega
  have:=e (List.range 16) List.nodup_range
  rw[List.flatMap_cons,V5]
  omega
theorem zO:∀(T:List (List Rn)) (i:Nat),((bx ofR i T).flatMap Kn.runs).length≤T.flatten.length:=by
 intro T
 induction T with
 | nil=>intro i;simp[bx]
 | cons l T ih=>
  intro i
  have h1:=ih (i+1)
  have h2:=zu l
  rw[bx,List.flatMap_append,V5,Xn,V5]
  split
  ·simp only[WC,List.length_nil];omega
  ·simp only[List.flatMap_cons,WC,Wg];omega
theorem yi (X:List Kn):((gH ofR X).flatMap Kn.runs).length≤(X.flatMap Kn.runs).length:=by
 have h1:=zO (cS X) 0
 have h2:=QJ X
 unfold gH
 have e:(cS X).flatten=(List.range 16).flatMap (bh X):=by unfold cS;rw[List.flatMap_def]
 rw[e]at h1
 omega
end Go.Proofs.YtaclhhkblbacgaaGreat
