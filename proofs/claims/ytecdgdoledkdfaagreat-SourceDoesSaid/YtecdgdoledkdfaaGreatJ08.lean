/- Lemmas, walks. -/
import Derived.Test.YtecdgdoledkdfaaGreatJ07
set_option maxRecDepth 10000
set_option maxHeartbeats 8000000
namespace Go.Proofs.YtecdgdoledkdfaaGreat
open Go.RowKit Go.Proofs.Tryz
variable {α:Type} {st:List UInt8->Int->α×List UInt8×Int} {most:Int} {B:α->List UInt8} {l:List UInt8} {e:Int}
def ba (l:List UInt8):ByteArray:=⟨l.toArray⟩
def kz (l:List UInt8)(e:Int):Rg×List UInt8×Int:=
 let t:=bm 17 l e
 let o:=af 0 1 t.2.1 t.2.2
 if(o.1==1)=true then(⟨ba t.1,e0,true⟩,o.2.1,o.2.2)else
  let h:=bm 17 o.2.1 o.2.2
  (⟨ba t.1,ba h.1,false⟩,h.2.1,h.2.2)
def fY {α:Type}(st:List UInt8->Int->α×List UInt8×Int):Nat->List α->List UInt8->Int->List α×List UInt8×Int
 | 0,acc,l,e=>(acc,l,e)
 | n+1,acc,l,e=>if e≠0 then(acc,l,e)else fY st n (acc++[(st l e).1]) (st l e).2.1 (st l e).2.2
def cR {α:Type}(st:List UInt8->Int->α×List UInt8×Int)(most:Int)(l:List UInt8)(e:Int):List α×List UInt8×Int:=
 fY st (af 0 most l e).1.toNat [] (af 0 most l e).2.1 (af 0 most l e).2.2
theorem Pf (h:∀l e,(st l e).2.1 <:+ l):∀(n:Nat)(acc:List α)(l:List UInt8)(e:Int),(fY st n acc l e).2.1 <:+ l:=by
 intro n
 induction n<;>grind[fY]
theorem Pg:∀(n:Nat)(acc:List α)(l:List UInt8)(e:Int),(fY st n acc l e).1.length<=acc.length+n:=by
 intro n
 induction n<;>grind[fY]
instance (l:List Rg):Decidable (bT l):=by unfold bT zk;infer_instance
def ki {α:Type}(ok:List α->Prop)[DecidablePred ok](r:List α×List UInt8×Int):List α×Int:=
 if dg r.2.1 r.2.2≠0 then([],dg r.2.1 r.2.2)else if ok r.1 then(r.1,0)else([],11)
def dM (b:List UInt8):List Rg×Int:=ki bT (cR kz 4096 b 0)
theorem Uh (l:List UInt8)(e:Int):bZ prog 200 [.aggK mQ .aggN] [(1000,cw l e)] (Ab (kz l e).1) [(1000,cw (kz l e).2.1 (kz l e).2.2)]:=by
 dsimp only [kz]
 have h1:=nA l e 17
 generalize bm 17 l e=t at *
 have h2:=ug t.2.1 t.2.2
 generalize af 0 1 t.2.1 t.2.2=o at *
 have h3:=nA o.2.1 o.2.2 17
 generalize bm 17 o.2.1 o.2.2=h at *
 by_cases ho:(o.1==1)=true
 ·rw[aae ho]
  rw[ho]at h2
  refine cp func200 ntmps200 ?_
  (refine dQ h1 h2 h3 ?_;refine ah λhc=>?_)
  refine kC ?_
  exact C0
 ·rw[aab ho]
  rw[show(o.1==1)=false by simpa using ho]at h2
  refine cp func200 ntmps200 ?_
  (refine dQ h1 h2 h3 ?_;refine ah λhc=>?_)
  refine kC ?_
  exact C0
abbrev Y0:Cnt:=.per (ai (.func (.func 200) #[] #[]))
theorem Ha (most:Int)(hm:0<=most)(hm2:most<=1000000)(l:List UInt8)(e:Int):bZ prog 199 [.aggK mQ .aggN,iC .i64 most,Y0] [(1000,cw l e)] (.row 3000 0) [(1000,cw (cR kz most l e).2.1 (cR kz most l e).2.2),(3000,.row 40 3 ((cR kz most l e).1.map rgP))]:=by
 dsimp only [cR]
 have h1:=dq l e 0 most
 have hn:=dh (most:=most) hm l e
 generalize af 0 most l e=s at *
 obtain⟨n,l0,e0⟩:=s
 simp only at h1 hn ⊢
 obtain⟨hn0,hn1⟩:=hn
 obtain⟨n,rfl⟩:=Int.eq_ofNat_of_zero_le hn0
 rw[Int.toNat_natCast]
 generalize hR:fY kz n [] l0 e0=R at *
 refine cp func199 ntmps199 ?_
 (refine dK h1 ?_)
 refine bw (bS 8 600 40 3 rfl rfl) ?_
 refine aj (X:=Nat×List Rg×List UInt8×Int) (λx=>x.1<=n/\x.2.1.length<=x.1/\fY kz (n-x.1) x.2.1 x.2.2.1 x.2.2.2=R)
  (λx=>aF [(2,Y0),(3,.ptr 3 0 0),(7,iC .i64 (n:Nat)),(8,.row 600 0),(9,iC .i64 (x.1:Nat))] [(3,.box 268 [mQ]),(1000,cw x.2.2.1 x.2.2.2),(600,.row 40 3 (x.2.1.map rgP))]) (λx=>n-x.1) (0,[],l0,e0) ⟨aag _,aaf _,hR⟩ ?_
 rintro⟨i,acc,l,e⟩ ⟨hi,hacc,hR⟩
 simp only at hi hacc hR ⊢
 have hE:=nW l e
 by_cases hlt:i<n
 ·by_cases he:e=0
  ·subst he
   obtain⟨m,hm⟩:∃m,n-i=m+1:=⟨n-i-1,ae⟩
   rw[hm,fY,aab aA]at hR
   have h2:=Uh l 0
   generalize kz l 0=q at *
   (refine dK hE ?_;repeat' first|apply aw|refine ah λhc=>?_|((first|apply aH rfl|apply aJ rfl);(focus (try apply ag rfl rfl rfl rfl rfl);(exact OA [(1000,1000)] h2));refine dK hE ?_))
   refine⟨(i+1,acc++[q.1],q.2.1,q.2.2),⟨aL,bD,by grind⟩,aL,?_⟩
   exact ab
  ·have hR2:R=(acc,l,e):=by
    rw[<-hR]
    cases n-i<;>grind[fY]
   subst hR2
   (refine dK hE ?_;repeat' first|apply aw|refine ah λhc=>?_)
   refine⟨.inl rfl,dv [(1000,1000),(600,3000)] rfl rfl ?_ (nd rfl rfl)⟩
   (repeat (first|exact bG.nil|(refine bG.cons rfl ?_ ?_;(focus first|rfl|skip))))
 ·have hR2:R=(acc,l,e):=by rw[<-hR,show n-i=0 by omega];rfl
  subst hR2
  (refine dK hE ?_;repeat' first|apply aw|refine ah λhc=>?_)
  refine⟨.inl rfl,dv [(1000,1000),(600,3000)] rfl rfl ?_ (nd rfl rfl)⟩
  (repeat (first|exact bG.nil|(refine bG.cons rfl ?_ ?_;(focus first|rfl|skip))))
theorem qb (h:0<=most)(l:List UInt8)(e:Int):((cR st most l e).1.length:Int)<=most:=by
 have h1:=Pg (st:=st) (af 0 most l e).1.toNat [] (af 0 most l e).2.1 (af 0 most l e).2.2
 have h2:=dh (most:=most) h l e
 grind[cR]
theorem mS (b:List UInt8)(hb:b.length<=1000000000):Fn prog 115 [dw b] (.tup2 (.own 40 3 ((dM b).1.map rgP)) (eA (dM b).2)):=by
 have h1:=Ha 4096 ae ae b 0
 have hn:=qb (st:=kz) (most:=4096) ae b 0
 generalize hQ:dM b=Q at *
 unfold dM at hQ
 generalize cR kz 4096 b 0=R at *
 obtain⟨acc,l,e⟩:=R
 simp only at hQ h1 hn
 have h2:=Ad l e
 have h3:=mN acc ae (decide (bT acc)) aA
 refine fi func115 ntmps115 ?_
 (refine wL h3 h2 (mR b hb) (gn [(1000,8),(3000,700)] h1) ?_;repeat' first|apply aw|refine ah λhc=>?_)
 ·rw[ki,aae (by assumption)]at hQ
  subst hQ
  exact dV (dG rfl) (aq rfl rfl)
 ·rw[ki,aab (by simp[*]),aab (by simp_all)]at hQ
  subst hQ
  exact dV (dG rfl) (aq rfl rfl)
 ·rw[ki,aab (by simp[*]),aae (by simp_all)]at hQ
  subst hQ
  exact dV (f9 rfl rfl rfl) (aq rfl rfl)
theorem pb (b:List UInt8)(hb:b.length<=1000000000):Fn prog 89 [.per (aK b)] (.tup2 (.own 40 3 ((dM b).1.map rgP)) (eA (dM b).2)):=by
 have hs:b <:+ b:=aa5 b
 have hb':b.length<=1000000000000:=ae
 generalize hQ:dM b=Q at *
 dsimp only [dM,cR]at hQ
 have h1:=bu b b 0 hs hb' 0 4096
 have hn:=dh (most:=4096) ae b 0
 replace hs:=(aC 0 4096 b 0).trans hs
 generalize af 0 4096 b 0=s at *
 obtain⟨n,l0,e0'⟩:=s
 simp only at h1 hn hs hQ
 obtain⟨hn0,hn1⟩:=hn
 obtain⟨n,rfl⟩:=Int.eq_ofNat_of_zero_le hn0
 rw[Int.toNat_natCast]at hQ
 generalize hR:fY kz n [] l0 e0'=R at *
 have e0:((b.length-b.length:Nat):Int)=0:=ae
 unfold d0 at h1
 rw[e0]at h1
 refine fi func89 ntmps89 ?_
 (refine dK h1 ?_)
 refine bw (bS 6 600 40 3 rfl rfl) ?_
 refine aj (X:=Nat×List Rg×List UInt8×Int) (λx=>x.1<=n/\x.2.1.length<=x.1/\x.2.2.1 <:+ b/\fY kz (n-x.1) x.2.1 x.2.2.1 x.2.2.2=R)
  (λx=>aF [(4,.ptr 11 0 0),(5,iC .i64 (n:Nat)),(6,.row 600 0),(7,iC .i64 (x.1:Nat))] [(11,d0 b x.2.2.1 x.2.2.2),(600,.row 40 3 (x.2.1.map rgP))]) (λx=>n-x.1) (0,[],l0,e0') ⟨aag _,aaf _,hs,hR⟩ ?_
 clear h1 hR hs
 rintro⟨i,acc,l,e⟩ ⟨hi,hacc,hs,hR⟩
 simp only at hi hacc hs hR ⊢
 have hD:=lj b l e hs
 by_cases hst:i<n/\e=0
 ·obtain⟨hlt,he⟩:=hst
  subst he
  obtain⟨m,hm⟩:∃m,n-i=m+1:=⟨n-i-1,ae⟩
  rw[hm,fY,aab aA]at hR
  clear hQ hD
  dsimp only [kz]at hR
  have h2:=gK b l 0 hs hb' 17
  replace hs:=(bL 17 l 0).trans hs
  generalize bm 17 l 0=t at *
  have h3:=bu b t.2.1 t.2.2 hs hb' 0 1
  replace hs:=(aC 0 1 t.2.1 t.2.2).trans hs
  generalize af 0 1 t.2.1 t.2.2=o at *
  by_cases ho:o.1=1
  ·rw[aae (by simp[ho])]at hR
   rw[ho]at h3
   (refine fG h2 h3 ?_;repeat' first|apply aw|refine ah λhc=>?_)
   refine⟨(i+1,acc++[⟨ba t.1,ByteArray.mk #[],true⟩],o.2.1,o.2.2),⟨aL,bD,hs,by simp only;rw[show n-(i+1)=m by omega];exact hR⟩,aL,?_⟩
   exact ab
  ·rw[aab (by simp[ho])]at hR
   have h4:=gK b o.2.1 o.2.2 hs hb' 17
   replace hs:=(bL 17 o.2.1 o.2.2).trans hs
   generalize bm 17 o.2.1 o.2.2=h at *
   (refine dQ h2 h3 h4 ?_;repeat' first|apply aw|refine ah λhc=>?_)
   refine⟨(i+1,acc++[⟨ba t.1,ba h.1,false⟩],h.2.1,h.2.2),⟨aL,bD,hs,by simp only;rw[show n-(i+1)=m by omega];exact hR⟩,aL,?_⟩
   (refine kA ?_ ?_;(focus ((repeat (first|exact gp.nil|(refine gp.cons ?_ ?_;rotate_left)));(all_goals try (first|rfl|(refine Gj ?_;first|omega|(simp;done)|(simp;omega))|(refine qw ?_;first|(simp;done)|(simp[*];done))))));(focus ((repeat (first|exact gq.nil|(refine gq.cons ?_ ?_;rotate_left)));(all_goals try (first|rfl|(refine nq ?_;(rw[List.map_append]<;>rfl);done)|(refine kB ?_;(rw[List.map_append]<;>rfl);done))))))
   show Blk.row _ _ (acc.map rgP++[[_,_,ai (.bool (o.1==1))]])=_
   rw[show(o.1==1)=false by simpa using ho,List.map_append]
   rfl
 ·have hR2:R=(acc,l,e):=by
   rw[<-hR]
   by_cases he:e=0
   ·rw[show n-i=0 by omega];rfl
   ·cases n-i<;>grind[fY]
  subst hR2
  have h3:=nx acc ae (decide (bT acc)) aA
  by_cases hlt:i<n
  ·have he:e≠0:=λq=>hst ⟨hlt,q⟩
   have hen:dg l e≠0:=by grind[dg]
   rw[ki,aae hen]at hQ
   subst hQ
   (refine de h3 hD ?_;repeat' first|apply aw|refine ah λhc=>?_)
   exact dV (dG rfl) (aq rfl rfl)
  ·(refine de h3 hD ?_;repeat' first|apply aw|refine ah λhc=>?_)
   ·rw[ki,aae (by assumption)]at hQ
    subst hQ
    exact dV (dG rfl) (aq rfl rfl)
   ·rw[ki,aab (by simp[*]),aab (by simp_all)]at hQ
    subst hQ
    exact dV (dG rfl) (aq rfl rfl)
   ·rw[ki,aab (by simp[*]),aae (by simp_all)]at hQ
    subst hQ
    exact dV (f9 rfl rfl rfl) (aq rfl rfl)
theorem Ph:∀(l acc:List α)(r:List UInt8),(∀x∈l,∀r,st (B x++r) 0=(x,r,0))->fY st l.length acc (l.flatMap B++r) 0=(acc++l,r,0):=by
 intro l
 induction l<;>grind[fY]
theorem JB (h:∀l e,(st l e).2.2=0->e=0/\l=B (st l e).1++(st l e).2.1) :
 ∀(n:Nat)(acc:List α)(l:List UInt8)(e:Int),(fY st n acc l e).2.2=0->e=0/\∃m:List α,(fY st n acc l e).1=acc++m/\m.length=n/\l=m.flatMap B++(fY st n acc l e).2.1:=by
 intro n
 induction n with
 | zero=>intro acc l e h0;exact⟨h0,[],by simp[fY],rfl,by simp[fY]⟩
 | succ n ih=>
  grind[fY]
theorem Ej {ok:List α->Prop}[DecidablePred ok]{l:List α}(h:∀x∈l,∀r,st (B x++r) 0=(x,r,0))(hl:(l.length:Int)<=most)(hm:most<=1000000)(hok:ok l) :
 ki ok (cR st most (aO (l.length:Nat)++l.flatMap B) 0)=(l,0):=by
 unfold cR
 rw[cv (by unfold bF;omega) ae hl]
 dsimp only
 rw[Int.toNat_natCast]
 have:=Ph (st:=st) (B:=B) l [] [] h
 rw[aan]at this
 rw[this]
 simp[ki,dg,hok]
theorem Ae {ok:List α->Prop}[DecidablePred ok]{b:List UInt8}(h:∀l e,(st l e).2.2=0->e=0/\l=B (st l e).1++(st l e).2.1)
 (h0:(ki ok (cR st most b 0)).2=0):ok (ki ok (cR st most b 0)).1/\((ki ok (cR st most b 0)).1.length:Int)<=most/\aO ((ki ok (cR st most b 0)).1.length:Nat)++(ki ok (cR st most b 0)).1.flatMap B=b:=by
 unfold ki at h0 ⊢
 split at h0
 ·grind
 ·rename_i hc
  rw[aab hc]
  split at h0
  ·rename_i hk
   rw[aae hk]
   obtain⟨e1,e2⟩:=si (by simpa using hc)
   unfold cR at e1 e2 hk ⊢
   obtain⟨g1,m,g3,g4,g6⟩:=JB h _ _ _ _ e2
   grind[bN]
  ·cases h0
theorem Y1 {s:ByteArray}:ba s.data.toList=s:=G7 s
theorem Pi {r:Rg}(h:gg r=true)(x:List UInt8):kz (ue r++x) 0=(r,x,0):=by
 obtain⟨h1,h2,h3⟩:=(cg r).1 h
 obtain⟨lo,hi,op⟩:=r
 simp only at h1 h2 h3
 dsimp only [kz,ue]
 cases op<;>grind[sh,cv,bF,Y1]
theorem JC (h:(kz l e).2.2=0):e=0/\l=ue (kz l e).1++(kz l e).2.1:=by
 dsimp only [kz]at h ⊢
 split at h
 ·rename_i ho
  rw[aae ho]
  obtain⟨o1,_,_,_,o5⟩:=bN h
  obtain⟨t1,_,t3⟩:=kU o1
  rw[beq_iff_eq]at ho
  rw[ho]at o5
  refine⟨t1,?_⟩
  simp only[ue,if_true]
  rw[aal,<-o5]
  exact t3
 ·rename_i ho
  rw[aab ho]
  obtain⟨h1,_,h3⟩:=kU h
  obtain⟨o1,_,o3,o4,o5⟩:=bN h1
  obtain⟨t1,_,t3⟩:=kU o1
  grind[ue,ba]
theorem Af {l:List Rg}(h:bT l)(hl:l.length<=4096):dM (fc l)=(l,0):=
 Ej (λx hx r=>by grind[List.getElem_of_mem,Pi,vP]) ae ae h
theorem jM {b:List UInt8}(h:(dM b).2=0):bT (dM b).1/\((dM b).1.length:Int)<=4096/\fc (dM b).1=b:=Ae (λ_ _=>JC) h
theorem Pj:∀l:List α,(∀x∈l,(B x).length<=40)->(l.flatMap B).length<=40*l.length:=by
 intro l
 induction l<;>grind
theorem qc {l:List Rg}(h:bT l)(hl:l.length<=4096):(fc l).length<=10+40*l.length:=by
 have h1:=Pj (B:=ue) l (λx hx=>by grind[List.getElem_of_mem,nz,vP])
 have h2:=bv (l.length:Int) ae
 grind[fc]
structure Rn where
 fr:Int
 to:Int
deriving DecidableEq
structure Kn where
 rep:Int
 runs:List Rn
deriving DecidableEq
structure Pc where
 rg:Rg
 set:List Kn
deriving DecidableEq
def encRn (r:Rn):List Value:=[.int .i64 r.fr,.int .i64 r.to]
theorem Ek:Jj 2 encRn:=⟨bP,λ_=>rfl,λx u hu=>by
 simp only[encRn,aaU,abr,or_false]at hu
 rcases hu with rfl|rfl<;>rfl⟩
abbrev rnP (r:Rn):List PV:=[ai (.int .i64 r.fr),ai (.int .i64 r.to)]
abbrev rnC (r:Rn):Cnt:=.per (cu (rnP r))
abbrev ou (l:List Rn):PV:=cn 2 (l.map rnP)
abbrev ia (l:List Rn):Cnt:=.bor 2 (l.map rnP)
abbrev BW (k:Kn):List PV:=[ai (.int .i64 k.rep),ou k.runs]
abbrev knC (k:Kn):Cnt:=.per (cu (BW k))
abbrev Xp (l:List Kn):PV:=cn 2 (l.map BW)
abbrev fA (l:List Kn):Cnt:=.bor 2 (l.map BW)
abbrev pcP (p:Pc):List PV:=[ai (.string p.rg.lo),ai (.string p.rg.hi),ai (.bool p.rg.op),Xp p.set]
abbrev pcC (p:Pc):Cnt:=.per (cu (pcP p))
abbrev ib (l:List Pc):PV:=cn 4 (l.map pcP)
abbrev dN (l:List Pc):Cnt:=.bor 4 (l.map pcP)
def jN (r:Rn):Bool:=decide (1<=r.fr/\r.fr<=r.to/\r.to<=1099511627776)
theorem cK (r:Rn):jN r=true↔1<=r.fr/\r.fr<=r.to/\r.to<=1099511627776:=by grind[jN]
def w9 (l:List Rn)(i:Nat):Prop:=∀h:i<l.length,jN l[i]=true/\∀h0:0<i,l[i-1].to+2<=l[i].fr
def ef (l:List Rn):Prop:=∀i,i<l.length->w9 l i
def Hb (l:List Kn)(i:Nat):Prop:=∀h:i<l.length,1<=l[i].rep/\l[i].rep<=16/\l[i].runs≠[]/\ef l[i].runs/\∀h0:0<i,l[i-1].rep<l[i].rep
def ck (l:List Kn):Prop:=∀i,i<l.length->Hb l i
def xe (l:List Pc)(i:Nat):Prop:=∀h:i<l.length,gg l[i].rg=true/\l[i].set≠[]/\ck l[i].set/\∀h0:0<i,l[i-1].rg.op=false/\cG l[i-1].rg.hi l[i].rg.lo<=0/\¬(l[i-1].rg.hi=l[i].rg.lo/\l[i-1].set=l[i].set)
def aY (l:List Pc):Prop:=∀i,i<l.length->xe l i
instance (l:List Rn) (i:Nat):Decidable (w9 l i):=by unfold w9;infer_instance
instance (l:List Rn):Decidable (ef l):=by unfold ef;infer_instance
instance (l:List Kn) (i:Nat):Decidable (Hb l i):=by unfold Hb;infer_instance
instance (l:List Kn):Decidable (ck l):=by unfold ck;infer_instance
instance (l:List Pc) (i:Nat):Decidable (xe l i):=by unfold xe;infer_instance
instance (l:List Pc):Decidable (aY l):=by unfold aY;infer_instance
theorem ic {l:List Kn}(h:ck l){i:Nat}(hi:i<l.length):1<=l[i].rep/\l[i].rep<=16/\l[i].runs≠[]/\ef l[i].runs:=
 let⟨a,b,c,d,_⟩:=h i hi hi;⟨a,b,c,d⟩
theorem Hc {l:List Kn}(h:ck l):∀i (hi:i<l.length),((i:Int)+1)<=l[i].rep:=by
 intro i
 induction i with
 | zero=>simp_all[ic]
 | succ i ih=>
  intro hi
  have h1:=ih ae
  have h2:=(h (i+1) hi hi).2.2.2.2 ae
  grind
theorem mT {l:List Kn}(h:ck l):l.length<=16:=by
 rcases Nat.eq_zero_or_pos l.length with h0|h0
 ·omega
 ·have h1:=Hc h (l.length-1) ae
  have h2:=(ic h (i:=l.length-1) ae).2.1
  omega
theorem mU {l:List Rn}(h:ef l){i:Nat}(hi:i<l.length):1<=l[i].fr/\l[i].fr<=l[i].to/\l[i].to<=1099511627776:=(cK _).1 (h i hi hi).1
def jE:Int->List Rn->List UInt8
 | _,[]=>[]
 | was,r::l=>aO (r.fr-was)++(aO (r.to-r.fr)++jE r.to l)
def BX (k:Kn):List UInt8:=aO k.rep++(aO (k.runs.length:Nat)++jE 0 k.runs)
def kK (s:List Kn):List UInt8:=aO (s.length:Nat)++s.flatMap BX
def xf (p:Pc):List UInt8:=ue p.rg++kK p.set
def eu (k:List Pc):List UInt8:=aO (k.length:Nat)++k.flatMap xf
def gX:Nat->List Rn->Int->List UInt8->Int->List Rn×List UInt8×Int
 | 0,acc,_,l,e=>(acc,l,e)
 | n+1,acc,was,l,e=>if e≠0 then(acc,l,e)else
  let x:=bI l e
  let y:=bI x.2.1 x.2.2
  gX n (acc++[⟨was+x.1,was+x.1+y.1⟩]) (was+x.1+y.1) y.2.1 y.2.2
def gP (l:List UInt8)(e:Int):Kn×List UInt8×Int:=
 let a:=af 1 16 l e
 let n:=af 0 4096 a.2.1 a.2.2
 let r:=gX n.1.toNat [] 0 n.2.1 n.2.2
 (⟨a.1,r.1⟩,r.2.1,r.2.2)
def lJ (l:List UInt8)(e:Int):Pc×List UInt8×Int:=
 let r:=kz l e
 let s:=cR gP 16 r.2.1 r.2.2
 (⟨r.1,s.1⟩,s.2.1,s.2.2)
def dI (b:List UInt8):List Pc×Int:=ki aY (cR lJ 4096 b 0)
theorem BZ (l:List UInt8)(e:Int):af 0 281474976710656 l e=bI l e:=by
 have h:=uh l
 grind[af,bI]
theorem qd (l:List UInt8)(e:Int):0<=(bI l e).1/\(bI l e).1<=281474976710656:=by
 have h:=uh l
 grind[bI]
theorem Lk:∀(n:Nat)(acc:List Rn)(was:Int)(l:List UInt8)(e:Int),(gX n acc was l e).2.1 <:+ l:=by
 intro n
 induction n<;>grind[gX,cQ]
theorem El (l:List UInt8)(e:Int):(gP l e).2.1 <:+ l:=by grind[gP,Lk,aC]
theorem Ag (h:∀l e,(st l e).2.1 <:+ l)(most:Int)(l:List UInt8)(e:Int):(cR st most l e).2.1 <:+ l:=
 (Pf h _ _ _ _).trans (aC _ _ _ _)
theorem Pk:∀(l acc:List Rn)(was:Int)(r:List UInt8),0<=was->was<=1099511627776->(∀i (h:i<l.length),jN l[i]=true/\(∀h0:0<i,l[i-1].to<=l[i].fr)/\(i=0->was<=l[i].fr)) ->
 gX l.length acc was (jE was l++r) 0=(acc++l,r,0):=by
 intro l
 induction l with
 | nil=>grind[gX,jE]
 | cons x l ih=>
  intro acc was r h0 h1 h
  have hx:=h 0 aA
  simp only[List.getElem_cons_zero]at hx
  have hr:=(cK _).1 hx.1
  have hw:=hx.2.2 trivial
  rw[aaD,gX,aab aA,jE,aal,lU (by unfold bF;omega)]
  dsimp only
  rw[aal,lU (by unfold bF;omega)]
  dsimp only
  have e1:was+(x.fr-was)=x.fr:=ae
  have e2:x.fr+(x.to-x.fr)=x.to:=ae
  rw[e1,e2,ih _ _ _ ae ae (λi hi=>?_)]
  ·simp
  ·have hi':=h (i+1) (by simpa using hi)
   grind
theorem Xq {k:Kn}(h1:1<=k.rep)(h2:k.rep<=16)(h3:ef k.runs)(hf:k.runs.length<=4096)(r:List UInt8):gP (BX k++r) 0=(k,r,0):=by
 dsimp only [gP,BX]
 rw[aal,cv (by unfold bF;omega) h1 h2]
 dsimp only
 rw[aal,cv (by unfold bF;omega) ae ae]
 dsimp only
 rw[Int.toNat_natCast,Pk _ _ _ _ ae ae (λi hi=>?_)]
 ·simp
 ·have h4:=h3 i hi hi
  have h5:=mU h3 hi
  grind
def vv (s:List Kn):Prop:=∀k∈s,k.runs.length<=4096
theorem Ui {l:List α}(h:∀x∈l,∀r,st (B x++r) 0=(x,r,0))(hl:(l.length:Int)<=most)(hm:most<=1000000)(r:List UInt8) :
 cR st most (aO (l.length:Nat)++(l.flatMap B++r)) 0=(l,r,0):=by grind[cR,cv,bF,Int.toNat_natCast,Ph]
theorem Xr {p:Pc}(h1:gg p.rg=true)(h2:ck p.set)(h3:vv p.set)(r:List UInt8):lJ (xf p++r) 0=(p,r,0):=by
 dsimp only [lJ,xf,kK]
 rw[aal,Pi h1]
 dsimp only
 rw[aal,Ui (λk hk r=>?_) (by have:=mT h2;omega) ae]
 obtain⟨i,hi,rfl⟩:=List.getElem_of_mem hk
 obtain⟨a,b,_,d⟩:=ic h2 hi
 exact Xq a b d (h3 _ hk) r
theorem xg {k:List Pc}(h:aY k)(hf:∀p∈k,vv p.set)(hl:k.length<=4096):dI (eu k)=(k,0):=
 Ej (λp hp r=>by
  obtain⟨i,hi,rfl⟩:=List.getElem_of_mem hp
  obtain⟨a,_,c,_⟩:=h i hi hi
  grind[Xr]) ae ae h
theorem Ll:∀(n:Nat)(acc:List Rn)(was:Int)(l:List UInt8)(e:Int),(gX n acc was l e).2.2=0 ->
 e=0/\∃m:List Rn,(gX n acc was l e).1=acc++m/\m.length=n/\l=jE was m++(gX n acc was l e).2.1:=by
 intro n
 induction n with
 | zero=>intro acc was l e h0;exact⟨h0,[],by simp[gX],rfl,by simp[gX,jE]⟩
 | succ n ih=>
  grind[gX,fS,jE]
theorem Uj (h:(gP l e).2.2=0):e=0/\l=BX (gP l e).1++(gP l e).2.1:=by grind[gP,Ll,bN,BX]
theorem Pm (h:∀l e,(st l e).2.2=0->e=0/\l=B (st l e).1++(st l e).2.1)(h0:(cR st most l e).2.2=0) :
 e=0/\((cR st most l e).1.length:Int)<=most/\l=aO ((cR st most l e).1.length:Nat)++((cR st most l e).1.flatMap B++(cR st most l e).2.1):=by
 unfold cR at h0 ⊢
 obtain⟨g1,m,g3,g4,g6⟩:=JB h _ _ _ _ h0
 grind[bN]
theorem Uk (h:(lJ l e).2.2=0):e=0/\l=xf (lJ l e).1++(lJ l e).2.1:=by
 dsimp only [lJ]at h ⊢
 obtain⟨s1,_,s3⟩:=Pm (λ_ _=>Uj) h
 grind[JC,xf,kK]
theorem i7 {b:List UInt8}(h:(dI b).2=0):aY (dI b).1/\((dI b).1.length:Int)<=4096/\eu (dI b).1=b:=Ae (λ_ _=>Uk) h
theorem Lm:∀(n:Nat)(acc:List Rn)(was:Int)(l:List UInt8)(e:Int),(gX n acc was l e).1.length<=acc.length+n:=by
 intro n
 induction n<;>grind[gX]
theorem ie {p:Nat->Prop}{z:Nat}(h:∀i,i<z->p i)(h':p z):∀i,i<z+1->p i:=λi hi=>by grind
def mV (s:List Kn):Prop:=s.length<=1000000000/\∀k∈s,k.runs.length<=1000000000
theorem mV.at {s:List Kn}(h:mV s){i:Nat}(hi:i<s.length):s[i].runs.length<=1000000000:=h.2 _ (aar hi)
theorem B1 (r:Rn):Fn prog 251 [rnC r] (dE (jN r)):=by
 refine fi func251 ntmps251 ?_
 (refine wH ?_)
 refine dr ?_
 refine cS (lf ?_)
 rw[jN,aav];simp;omega
theorem sk (r:Rn):Fn prog 224 [rnC r] (dE (jN r)):=by
 refine fi func224 ntmps224 ?_
 (refine wH ?_)
 refine dr ?_
 refine cS (lf ?_)
 rw[jN,aav];simp;omega
theorem ui (l:List Rn)(hl:l.length<=1000000000)(b:Bool)(hb:b=true↔ef l):Fn prog 205 [ia l] (dE b):=by
 refine fi func205 ntmps205 ?_
 (refine w0 ?_)
 refine aj (X:=Nat) (λz=>z<=l.length/\∀i,i<z->w9 l i)
  (λz=>aF [(0,ia l),(5,ia l),(6,iC .i64 (l.length:Nat)),(7,iC .i64 (z:Nat))] []) (λz=>l.length-z) 0 ⟨aag _,λi h=>absurd h (abc _)⟩ ?_
 rintro z ⟨h1,h2⟩
 by_cases hz:z<l.length
 ·have hir:=B1 l[z]
  have hno:¬w9 l z->b=false:=λh=>by rw[<-aaB,hb];exact λq=>h (q z hz)
  cases hr:jN l[z]with
  | false=>
   have hb0:=hno (λh=>by have:=(h hz).1;rw[hr]at this;cases this)
   subst hb0
   clear hb hno h2
   rw[hr]at hir
   (refine au hir ?_;repeat' first|apply aw|refine ah λhc=>?_)
   exact dz
  | true=>
   rw[hr]at hir
   have hrz:=(cK _).1 hr
   by_cases h0:0<z
   ·obtain⟨q,rfl⟩:∃q,z=q+1:=⟨z-1,ae⟩
    have hqE:((q+1:Nat):Int)-1=(q:Nat):=ae
    have hrq:=(cK _).1 ((h2 q ae) ae).1
    by_cases hlt:l[q].to+2<=l[q+1].fr
    ·have hok:w9 l (q+1):=λ_=>⟨hr,λ_=>hlt⟩
     clear hb hno
     (refine cE hqE hir ?_;repeat' first|apply aw|refine ah λhc=>?_)
     refine⟨q+1+1,⟨ae,ie h2 hok⟩,ae,?_⟩
     exact ab
    ·have hb0:=hno (λh=>hlt ((h hz).2 h0))
     subst hb0
     clear hb hno h2
     (refine cE hqE hir ?_;repeat' first|apply aw|refine ah λhc=>?_)
     exact dz
   ·have hok:w9 l z:=λ_=>⟨hr,λh=>absurd h h0⟩
    clear hb hno
    (refine au hir ?_;repeat' first|apply aw|refine ah λhc=>?_)
    refine⟨z+1,⟨ae,ie h2 hok⟩,ae,?_⟩
    exact ab
 ·have hb1:b=true:=hb.2 (λi hi=>h2 i ae)
  subst hb1
  clear hb h2
  (refine w0 ?_;refine ah λhc=>?_)
  exact dz
theorem Hd (l:List Rn)(hl:l.length<=1000000000)(b:Bool)(hb:b=true↔ef l):Fn prog 142 [ia l] (dE b):=by
 refine fi func142 ntmps142 ?_
 (refine w0 ?_)
 refine aj (X:=Nat) (λz=>z<=l.length/\∀i,i<z->w9 l i)
  (λz=>aF [(0,ia l),(3,iC .i64 (z:Nat))] []) (λz=>l.length-z) 0 ⟨aag _,λi h=>absurd h (abc _)⟩ ?_
 rintro z ⟨h1,h2⟩
 by_cases hz:z<l.length
 ·have hir:=sk l[z]
  have hno:¬w9 l z->b=false:=λh=>by rw[<-aaB,hb];exact λq=>h (q z hz)
  cases hr:jN l[z]with
  | false=>
   have hb0:=hno (λh=>by have:=(h hz).1;rw[hr]at this;cases this)
   subst hb0
   clear hb hno h2
   rw[hr]at hir
   (refine au hir ?_;repeat' first|apply aw|refine ah λhc=>?_)
   exact dz
  | true=>
   rw[hr]at hir
   have hrz:=(cK _).1 hr
   by_cases h0:0<z
   ·obtain⟨q,rfl⟩:∃q,z=q+1:=⟨z-1,ae⟩
    have hqE:((q+1:Nat):Int)-1=(q:Nat):=ae
    have hrq:=(cK _).1 ((h2 q ae) ae).1
    by_cases hlt:l[q].to+2<=l[q+1].fr
    ·have hok:w9 l (q+1):=λ_=>⟨hr,λ_=>hlt⟩
     clear hb hno
     (refine cE hqE hir ?_;repeat' first|apply aw|refine ah λhc=>?_)
     refine⟨q+1+1,⟨ae,ie h2 hok⟩,ae,?_⟩
     exact ab
    ·have hb0:=hno (λh=>hlt ((h hz).2 h0))
     subst hb0
     clear hb hno h2
     (refine cE hqE hir ?_;repeat' first|apply aw|refine ah λhc=>?_)
     exact dz
   ·have hok:w9 l z:=λ_=>⟨hr,λh=>absurd h h0⟩
    clear hb hno
    (refine au hir ?_;repeat' first|apply aw|refine ah λhc=>?_)
    refine⟨z+1,⟨ae,ie h2 hok⟩,ae,?_⟩
    exact ab
 ·have hb1:b=true:=hb.2 (λi hi=>h2 i ae)
  subst hb1
  clear hb h2
  (refine w0 ?_;refine ah λhc=>?_)
  exact dz
theorem qZ (n:Int):Fn prog 204 [iC .i64 n] (dE (decide (1<=n/\n<=16))):=by
 refine fi func204 ntmps204 ?_
 (refine wH ?_)
 refine dr ?_
 refine cS (lf ?_)
 rw[aav];simp
theorem Pn (l:List Kn)(hl:mV l)(b:Bool)(hb:b=true↔ck l):Fn prog 120 [fA l] (dE b):=by
 have hl0:=hl.1
 refine fi func120 ntmps120 ?_
 (refine w0 ?_)
 refine aj (X:=Nat×Int) (λz=>z.1<=l.length/\(∀i,i<z.1->Hb l i)/\(z.1=0->z.2=0)/\(∀(h:z.1-1<l.length),0<z.1->z.2=l[z.1-1].rep))
  (λz=>aF [(3,iC .i64 z.2),(6,fA l),(7,iC .i64 (l.length:Nat)),(8,iC .i64 (z.1:Nat))] []) (λz=>l.length-z.1) (0,0) ⟨aag _,λi h=>absurd h (abc _),λ_=>rfl,λ_ h=>absurd h aA⟩ ?_
 rintro⟨z,was⟩ ⟨h1,h2,h3,h4⟩
 simp only at h1 h2 h3 h4 ⊢
 by_cases hz:z<l.length
 ·have c1:=qZ l[z].rep
  have c2:=ui l[z].runs (hl.at hz) (decide (ef l[z].runs)) aA
  have h4':=h4 ae
  have hE:l[z].runs≠[]↔¬l[z].runs.length=0:=aA
  by_cases hok:Hb l z
  ·obtain⟨a1,a2,a3,a4,a5⟩:=hok hz
   rw[aao ⟨a1,a2⟩]at c1
   rw[aao a4]at c2
   have a6:was<l[z].rep:=by grind
   rw[hE]at a3
   clear hb h3 h4 h4' hE a4 a5
   (refine bt c1 c2 ?_;repeat' first|apply aw|refine ah λhc=>?_)
   refine⟨(z+1,l[z].rep),⟨aL,ie h2 hok,λh=>by simp at h,λh _=>rfl⟩,aL,?_⟩
   exact ab
  ·have hb0:b=false:=by rw[<-aaB,hb];exact λq=>hok (q z hz)
   subst hb0
   have hno:¬(1<=l[z].rep/\l[z].rep<=16/\¬l[z].runs.length=0/\ef l[z].runs/\was<l[z].rep):=λ⟨a1,a2,a3,a4,a5⟩=>hok (λ_=>⟨a1,a2,hE.2 a3,a4,λq=>by rw[<-h4' q];exact a5⟩)
   clear hb h2 h3 h4 h4' hE hok
   by_cases q1:1<=l[z].rep/\l[z].rep<=16
   ·rw[aao q1]at c1
    by_cases q2:was<l[z].rep
    ·by_cases q3:l[z].runs.length=0
     ·clear hno
      (refine bt c1 c2 ?_;repeat' first|apply aw|refine ah λhc=>?_)
      exact dz
     ·by_cases q4:ef l[z].runs
      ·grind
      ·rw[aap q4]at c2
       clear hno q4
       (refine bt c1 c2 ?_;repeat' first|apply aw|refine ah λhc=>?_)
       exact dz
    ·clear hno
     (refine bt c1 c2 ?_;repeat' first|apply aw|refine ah λhc=>?_)
     exact dz
   ·rw[aap q1]at c1
    clear hno q1
    (refine bt c1 c2 ?_;repeat' first|apply aw|refine ah λhc=>?_)
    exact dz
 ·have hb1:b=true:=hb.2 (λi hi=>h2 i ae)
  subst hb1
  clear hb h2 h3 h4
  (refine w0 ?_;refine ah λhc=>?_)
  exact dz
theorem Ln (l:List Kn)(hl:mV l)(b:Bool)(hb:b=true↔ck l):Fn prog 71 [fA l] (dE b):=by
 have hl0:=hl.1
 refine fi func71 ntmps71 ?_
 (refine w0 ?_)
 refine aj (X:=Nat) (λz=>z<=l.length/\∀i,i<z->Hb l i)
  (λz=>aF [(0,fA l),(3,iC .i64 (z:Nat))] []) (λz=>l.length-z) 0 ⟨aag _,λi h=>absurd h (abc _)⟩ ?_
 rintro z ⟨h1,h2⟩
 by_cases hz:z<l.length
 ·have c2:=Hd l[z].runs (hl.at hz) (decide (ef l[z].runs)) aA
  have hE:l[z].runs≠[]↔¬l[z].runs.length=0:=aA
  by_cases hok:Hb l z
  ·obtain⟨a1,a2,a3,a4,a5⟩:=hok hz
   rw[aao a4]at c2
   rw[hE]at a3
   by_cases h0:0<z
   ·obtain⟨q,rfl⟩:∃q,z=q+1:=⟨z-1,ae⟩
    have hqE:((q+1:Nat):Int)-1=(q:Nat):=ae
    have a6:l[q].rep<l[q+1].rep:=a5 h0
    clear hb hE a4 a5
    (refine cE hqE c2 ?_;repeat' first|apply aw|refine ah λhc=>?_)
    refine⟨q+1+1,⟨ae,ie h2 hok⟩,ae,?_⟩
    exact ab
   ·clear hb hE a4 a5
    (refine au c2 ?_;repeat' first|apply aw|refine ah λhc=>?_)
    refine⟨z+1,⟨ae,ie h2 hok⟩,ae,?_⟩
    exact ab
  ·have hb0:b=false:=by rw[<-aaB,hb];exact λq=>hok (q z hz)
   subst hb0
   by_cases h0:0<z
   ·obtain⟨q,rfl⟩:∃q,z=q+1:=⟨z-1,ae⟩
    have hqE:((q+1:Nat):Int)-1=(q:Nat):=ae
    have hno:¬(1<=l[q+1].rep/\l[q+1].rep<=16/\¬l[q+1].runs.length=0/\ef l[q+1].runs/\l[q].rep<l[q+1].rep):=λ⟨a1,a2,a3,a4,a5⟩=>hok (λ_=>⟨a1,a2,hE.2 a3,a4,λ_=>a5⟩)
    clear hb h2 hE hok
    by_cases q4:ef l[q+1].runs
    ·rw[aao q4]at c2
     have hno':¬(1<=l[q+1].rep/\l[q+1].rep<=16/\¬l[q+1].runs.length=0/\l[q].rep<l[q+1].rep):=λ⟨a1,a2,a3,a5⟩=>hno ⟨a1,a2,a3,q4,a5⟩
     clear hno q4
     (refine cE hqE c2 ?_;repeat' first|apply aw|refine ah λhc=>?_)
     all_goals refine dr ?_
     all_goals exact aP rfl rfl
    ·rw[aap q4]at c2
     clear hno q4
     (refine cE hqE c2 ?_;repeat' first|apply aw|refine ah λhc=>?_)
     all_goals refine dr ?_
     all_goals exact aP rfl rfl
   ·have hno:¬(1<=l[z].rep/\l[z].rep<=16/\¬l[z].runs.length=0/\ef l[z].runs):=λ⟨a1,a2,a3,a4⟩=>hok (λ_=>⟨a1,a2,hE.2 a3,a4,λh=>absurd h h0⟩)
    clear hb h2 hE hok
    by_cases q4:ef l[z].runs
    ·rw[aao q4]at c2
     have hno':¬(1<=l[z].rep/\l[z].rep<=16/\¬l[z].runs.length=0):=λ⟨a1,a2,a3⟩=>hno ⟨a1,a2,a3,q4⟩
     clear hno q4
     (refine au c2 ?_;repeat' first|apply aw|refine ah λhc=>?_)
     all_goals refine dr ?_
     all_goals exact aP rfl rfl
    ·rw[aap q4]at c2
     clear hno q4
     (refine au c2 ?_;repeat' first|apply aw|refine ah λhc=>?_)
     all_goals refine dr ?_
     all_goals exact aP rfl rfl
 ·have hb1:b=true:=hb.2 (λi hi=>h2 i ae)
  subst hb1
  clear hb h2
  (refine w0 ?_;refine ah λhc=>?_)
  exact dz
def rnE (x y:Rn):Bool:=decide (x.fr=y.fr)&&(decide (x.to=y.to)&&true)
theorem vQ (x y:Rn):rnE x y=true↔x=y:=by
 obtain⟨a,b⟩:=x
 obtain⟨a',b'⟩:=y
 simp[rnE]
theorem Wo (x y:Rn):Jt prog 10000 129 (encRn x) (encRn y)=some (rnE x y):=by kernel_rfl
theorem rnG:prog.eqGuardType prog.depth 129=false:=by kernel_rfl
theorem Lo (l m:List Rn)(hl:l.length<=1000000000):Fn prog 143 [ia l,ia m] (dE (decide (l=m))):=by
 refine fi func143 ntmps143 ?_
 (refine wH ?_;repeat' first|apply aw|refine ah λhc=>?_)
 ·refine dr ?_
  exact aP rfl (by grind)
 have hlm:l.length=m.length:=ae
 refine aj (λk=>k<=l.length/\l.take k=m.take k) (λk=>aF [(0,ia l),(1,ia m),(4,bC false),(5,iC .i64 (k:Nat))] []) (λk=>l.length-k) 0 ⟨aag _,rfl⟩ ?_
 rintro k ⟨hk,hpre⟩
 by_cases hlt:k<l.length
 ·have hltm:k<m.length:=ae
  (refine wH ?_;repeat' first|apply aw|refine ah λhc=>?_|((first|apply aH rfl|apply aJ rfl);(focus (try apply ag rfl rfl rfl rfl rfl);(exact ga (us:=encRn l[k]) (vs:=encRn m[k]) ⟨rfl,rfl,rfl⟩ rfl rfl rfl (.inr ⟨rfl,rfl⟩) rnG rfl (Wo l[k] m[k])));refine wH ?_))
  ·refine dr ?_
   exact aP rfl (by grind[vQ])
  ·refine⟨k+1,⟨ae,?_⟩,ae,?_⟩
   ·rw[bp l k hlt,bp m k hltm,hpre,(vQ l[k] m[k]).1 (by simpa using hc)]
   ·exact ab
 ·(refine wH ?_;refine ah λhc=>?_)
  refine dr ?_
  exact aP rfl (by grind)
theorem sn (l m:List Kn)(hl:mV l):Fn prog 72 [fA l,fA m] (dE (decide (l=m))):=by
 have hl0:=hl.1
 refine fi func72 ntmps72 ?_
 (refine w0 ?_;repeat' first|apply aw|refine ah λhc=>?_)
 ·refine dr ?_
  exact aP rfl (by grind)
 have hlm:l.length=m.length:=ae
 refine aj (λk=>k<=l.length/\l.take k=m.take k) (λk=>aF [(0,fA l),(1,fA m),(4,bC false),(5,iC .i64 (k:Nat))] []) (λk=>l.length-k) 0 ⟨aag _,rfl⟩ ?_
 rintro k ⟨hk,hpre⟩
 by_cases hlt:k<l.length
 ·have hltm:k<m.length:=ae
  have c1:=Lo l[k].runs m[k].runs (hl.at hlt)
  have hE:l[k]=m[k]↔l[k].rep=m[k].rep/\l[k].runs=m[k].runs:=by
   constructor
   ·grind
   ·rintro⟨h1,h2⟩
    cases hx:l[k];simp_all
  by_cases h1:l[k].rep=m[k].rep
  ·by_cases h2:l[k].runs=m[k].runs
   ·rw[aao h2]at c1
    clear hE
    have hlm1:l[k]=m[k]:=by cases hx:l[k];simp_all
    clear h2
    (refine au c1 ?_;repeat' first|apply aw|refine ah λhc=>?_)
    refine⟨k+1,⟨ae,?_⟩,ae,?_⟩
    ·rw[bp l k hlt,bp m k hltm,hpre,hlm1]
    ·exact ab
   ·rw[aap h2]at c1
    have hd:¬l=m:=λh=>h2 (by subst h;rfl)
    rw[aap hd]
    clear hE h2 hd
    (refine au c1 ?_;repeat' first|apply aw|refine ah λhc=>?_)
    exact dz
  ·have hd:¬l=m:=λh=>h1 (by subst h;rfl)
   rw[aap hd]
   clear hE hd
   (refine au c1 ?_;repeat' first|apply aw|refine ah λhc=>?_)
   exact dz
 ·rw[aaj ae,aaj ae]at hpre
  rw[aao hpre]
  clear hpre
  (refine w0 ?_;refine ah λhc=>?_)
  exact dz
def jn (l:List Kn)(most:Int):Bool:=decide ((l.length:Int)>most)||l.any λk=>decide ((k.runs.length:Int)>most)
theorem Po (l:List Kn)(most:Int)(hl:most<=1000000000000):Fn prog 54 [fA l,iC .i64 most] (dE (jn l most)):=by
 refine fi func54 ntmps54 ?_
 (refine w0 ?_;repeat' first|apply aw|refine ah λhc=>?_)
 ·refine dr ?_
  exact aP rfl (by grind[jn])
 refine aj (λk=>k<=l.length/\(l.take k).any (λk=>decide ((k.runs.length:Int)>most))=false) (λk=>aF [(0,fA l),(1,iC .i64 most),(4,bC false),(5,iC .i64 (k:Nat))] []) (λk=>l.length-k) 0 ⟨aag _,aA⟩ ?_
 rintro k ⟨hk,hpre⟩
 by_cases hlt:k<l.length
 ·have hsn:(l.take (k+1)).any (λk=>decide ((k.runs.length:Int)>most))=((l.take k).any (λk=>decide ((k.runs.length:Int)>most))||decide ((l[k].runs.length:Int)>most)):=by rw[bp l k hlt,List.any_append];simp
  by_cases hq:(l[k].runs.length:Int)>most
  ·have hd:jn l most=true:=by grind[jn]
   rw[hd]
   clear hd hsn hpre
   (refine w0 ?_;repeat' first|apply aw|refine ah λhc=>?_)
   exact dz
  ·rw[hpre,aap hq]at hsn
   clear hpre
   (refine w0 ?_;repeat' first|apply aw|refine ah λhc=>?_)
   refine⟨k+1,⟨ae,hsn⟩,ae,?_⟩
   exact ab
 ·have e:l.take k=l:=aaj ae
  rw[e]at hpre
  have hd:jn l most=false:=by grind[jn]
  rw[hd]
  clear hd hpre e
  (refine w0 ?_;refine ah λhc=>?_)
  exact dz
theorem xh {l:List Kn}(h:jn l most=false):(l.length:Int)<=most/\∀k∈l,(k.runs.length:Int)<=most:=by grind[jn]
theorem Z1 {a b:Int}(h:bF a)(h':bF b):∀n∈[a,b],bF n:=λn hn=>by grind
theorem Ah {l:List Rn}(h:ef l){j:Nat}(hj:j+1<l.length):l[j].to<=l[j+1].fr:=by
 have:=(h (j+1) hj hj).2 ae
 grind
theorem uj (l:List UInt8)(ns:List Int)(hb:l.length+9*ns.length<=1000000000000)(hok:∀n∈ns,bF n):Fn prog 181 [dw l,zX ns] (gN (l++ns.flatMap aO)):=by
 have h:=jL l ns hb hok
 refine fi func181 ntmps181 ?_
 (refine au h ?_)
 exact oo
theorem Xs (s:List Kn)(hs:s.length<=1000000000)(hf:vv s):Fn prog 182 [fA s] (dE true):=by
 refine fi func182 ntmps182 ?_
 (refine w0 ?_)
 refine aj (X:=Nat) (λz=>z<=s.length) (λz=>aF [(5,fA s),(6,iC .i64 (s.length:Nat)),(7,iC .i64 (z:Nat))] []) (λz=>s.length-z) 0 (aag _) ?_
 intro z hz
 by_cases hlt:z<s.length
 ·have h1:=hf _ (aar hlt)
  (refine w0 ?_;repeat' first|apply aw|refine ah λhc=>?_)
  refine⟨z+1,ae,ae,?_⟩
  exact ab
 ·(refine w0 ?_;refine ah λhc=>?_)
  exact dz
theorem Pq (b:List UInt8)(s:List Kn)(hb:b.length<=100000000000)(hok:ck s)(hf:vv s):Fn prog 183 [dw b,fA s] (gN (b++kK s)):=by
 have hs16:=mT hok
 have c0:=uj b [(s.length:Int)] bD (li ae ae)
 have hn0:=bv (s.length:Int) ae
 refine fi func183 ntmps183 ?_
 (refine au c0 ?_)
 refine bw (aU 14 600) ?_
 refine aj (X:=Nat×List UInt8) (λx=>x.1<=s.length/\x.2.length<=b.length+10+90000*x.1/\x.2++(s.drop x.1).flatMap BX=b++kK s)
  (λx=>aF [(0,.row 600 0),(15,fA s),(16,iC .i64 (s.length:Nat)),(17,iC .i64 (x.1:Nat))] [(600,.row 5 1 (x.2.map byteP))]) (λx=>s.length-x.1) (0,b++[(s.length:Int)].flatMap aO) ⟨aag _,bD,by simp[kK]⟩ ?_
 clear c0
 rintro⟨k,acc⟩ ⟨h1,h2,h3⟩
 simp only at h1 h2 h3 ⊢
 by_cases hlt:k<s.length
 ·obtain⟨a1,a2,a3,a4⟩:=ic hok hlt
  have hfk:=hf _ (aar hlt)
  rw[List.drop_eq_getElem_cons hlt,List.flatMap_cons]at h3
  have c1:=uj acc [s[k].rep,(s[k].runs.length:Int)] bD (Z1 (by unfold bF;omega) (by unfold bF;omega))
  have n1:=bv s[k].rep ae
  have n2:=bv (s[k].runs.length:Int) ae
  clear hok hf
  (refine au c1 ?_;refine ah λhc=>?_)
  refine bw (aU 28 600) ?_
  refine aj (X:=Nat×Int×List UInt8) (λx=>x.1<=s[k].runs.length/\0<=x.2.1/\x.2.1<=1099511627776/\(∀h:x.1<s[k].runs.length,x.2.1<=s[k].runs[x.1].fr)/\x.2.2.length<=acc.length+20+20*x.1/\x.2.2++(jE x.2.1 (s[k].runs.drop x.1)++(s.drop (k+1)).flatMap BX)=b++kK s)
   (λx=>aF [(0,.row 600 0),(7,iC .i64 x.2.1),(15,fA s),(16,iC .i64 (s.length:Nat)),(17,iC .i64 (k:Nat)),(30,.per (ou s[k].runs)),(31,iC .i64 (s[k].runs.length:Nat)),(32,iC .i64 (x.1:Nat))] [(600,.row 5 1 (x.2.2.map byteP))])
   (λx=>s[k].runs.length-x.1) (0,0,acc++[s[k].rep,(s[k].runs.length:Int)].flatMap aO) ⟨aag _,aA,aA,λ(h:0<s[k].runs.length)=>show(0:Int)<=s[k].runs[0].fr from by have:=(mU a4 h).1;omega,by grind,by rw[<-h3];simp[BX]⟩ ?_
  clear h3 c1
  rintro⟨j,was,acc'⟩ ⟨g1,g2,g3,g4,g5,g6⟩
  simp only at g1 g2 g3 g4 g5 g6 ⊢
  by_cases hj:j<s[k].runs.length
  ·have hr:=mU a4 hj
   have hw:=g4 hj
   have hrise:∀h:j+1<s[k].runs.length,s[k].runs[j].to<=s[k].runs[j+1].fr:=λh=>Ah a4 h
   rw[List.drop_eq_getElem_cons hj,jE]at g6
   have c2:=uj acc' [s[k].runs[j].fr-was,s[k].runs[j].to-s[k].runs[j].fr] bD (Z1 (by unfold bF;omega) (by unfold bF;omega))
   have n3:=bv (s[k].runs[j].fr-was) ae
   have n4:=bv (s[k].runs[j].to-s[k].runs[j].fr) ae
   clear a4 g4
   (refine au c2 ?_;refine ah λhc=>?_)
   refine⟨(j+1,s[k].runs[j].to,acc'++[s[k].runs[j].fr-was,s[k].runs[j].to-s[k].runs[j].fr].flatMap aO),⟨aL,aL,aL,hrise,by grind,by rw[<-g6];simp⟩,aL,az (aU 47 600) ?_⟩
   exact ab
  ·rw[aay ae,jE,aaE]at g6
   clear a4 g4
   (refine w0 ?_;refine ah λhc=>?_)
   refine⟨(k+1,acc'),⟨aL,aL,g6⟩,aL,?_⟩
   exact ab
 ·rw[aay ae,aaZ,aan]at h3
  (refine w0 ?_;refine ah λhc=>?_)
  refine dr ?_
  exact cJ rfl rfl rfl h3
theorem Ul (s:List Kn)(hok:ck s)(hf:vv s):Fn prog 236 [fA s] (gN (kK s)):=by
 have hs16:=mT hok
 have c0:=iZ (s.length:Int) (by unfold bF;omega)
 have hn0:=bv (s.length:Int) ae
 refine fi func236 ntmps236 ?_
 (refine au c0 ?_)
 refine bw (aU 10 600) ?_
 refine aj (X:=Nat×List UInt8) (λx=>x.1<=s.length/\x.2.length<=10+90000*x.1/\x.2++(s.drop x.1).flatMap BX=kK s)
  (λx=>aF [(0,fA s),(3,.row 600 0),(4,iC .i64 (x.1:Nat))] [(600,.row 5 1 (x.2.map byteP))]) (λx=>s.length-x.1) (0,aO (s.length:Int)) ⟨aag _,aL,by simp[kK]⟩ ?_
 clear c0
 rintro⟨k,acc⟩ ⟨h1,h2,h3⟩
 simp only at h1 h2 h3 ⊢
 by_cases hlt:k<s.length
 ·obtain⟨a1,a2,a3,a4⟩:=ic hok hlt
  have hfk:=hf _ (aar hlt)
  rw[List.drop_eq_getElem_cons hlt,List.flatMap_cons]at h3
  have c1:=p7 [s[k].rep,(s[k].runs.length:Int)] aA (Z1 (by unfold bF;omega) (by unfold bF;omega))
  have n1:=bv s[k].rep ae
  have n2:=bv (s[k].runs.length:Int) ae
  clear hok hf
  (refine au c1 ?_;refine ah λhc=>?_)
  refine aj (X:=Nat×Int×List UInt8) (λx=>x.1<=s[k].runs.length/\0<=x.2.1/\x.2.1<=1099511627776/\(∀h:x.1<s[k].runs.length,x.2.1<=s[k].runs[x.1].fr)/\x.2.2.length<=acc.length+20+20*x.1/\x.2.2++(jE x.2.1 (s[k].runs.drop x.1)++(s.drop (k+1)).flatMap BX)=kK s)
   (λx=>aF [(0,fA s),(3,.row 600 0),(4,iC .i64 (k:Nat)),(5,iC .i64 x.2.1),(6,iC .i64 (x.1:Nat))] [(600,.row 5 1 (x.2.2.map byteP))])
   (λx=>s[k].runs.length-x.1) (0,0,acc++[s[k].rep,(s[k].runs.length:Int)].flatMap aO) ⟨aag _,aA,aA,λ(h:0<s[k].runs.length)=>show(0:Int)<=s[k].runs[0].fr from by have:=(mU a4 h).1;omega,by grind,by rw[<-h3];simp[BX]⟩ ?_
  clear h3 c1
  rintro⟨j,was,acc'⟩ ⟨g1,g2,g3,g4,g5,g6⟩
  simp only at g1 g2 g3 g4 g5 g6 ⊢
  by_cases hj:j<s[k].runs.length
  ·have hr:=mU a4 hj
   have hw:=g4 hj
   have hrise:∀h:j+1<s[k].runs.length,s[k].runs[j].to<=s[k].runs[j+1].fr:=λh=>Ah a4 h
   rw[List.drop_eq_getElem_cons hj,jE]at g6
   have c2:=p7 [s[k].runs[j].fr-was,s[k].runs[j].to-s[k].runs[j].fr] aA (Z1 (by unfold bF;omega) (by unfold bF;omega))
   have n3:=bv (s[k].runs[j].fr-was) ae
   have n4:=bv (s[k].runs[j].to-s[k].runs[j].fr) ae
   clear a4 g4
   (refine au c2 ?_;refine ah λhc=>?_)
   refine⟨(j+1,s[k].runs[j].to,acc'++[s[k].runs[j].fr-was,s[k].runs[j].to-s[k].runs[j].fr].flatMap aO),⟨aL,aL,aL,hrise,by grind,by rw[<-g6];simp⟩,aL,?_⟩
   exact ab
  ·rw[aay ae,jE,aaE]at g6
   clear a4 g4
   (refine w0 ?_;refine ah λhc=>?_)
   refine⟨(k+1,acc'),⟨aL,aL,g6⟩,aL,?_⟩
   exact ab
 ·rw[aay ae,aaZ,aan]at h3
  (refine w0 ?_;refine ah λhc=>?_)
  refine dr ?_
  exact cJ rfl rfl rfl h3
theorem Pr {p:α->Prop}(h:∀l e,p (st l e).1):∀(n:Nat)(acc:List α)(l:List UInt8)(e:Int),(∀x∈acc,p x)->∀x∈(fY st n acc l e).1,p x:=by
 intro n
 induction n<;>grind[fY]
theorem Ai {p:α->Prop}(h:∀l e,p (st l e).1)(most:Int)(l:List UInt8)(e:Int):∀x∈(cR st most l e).1,p x:=Pr h _ _ _ _ aA
theorem Ps (l:List UInt8)(e:Int):(gP l e).1.runs.length<=4096:=by
 dsimp only [gP]
 have h1:=Lm (af 0 4096 (af 1 16 l e).2.1 (af 1 16 l e).2.2).1.toNat [] 0 (af 0 4096 (af 1 16 l e).2.1 (af 1 16 l e).2.2).2.1 (af 0 4096 (af 1 16 l e).2.1 (af 1 16 l e).2.2).2.2
 have h2:=dh (most:=4096) ae (af 1 16 l e).2.1 (af 1 16 l e).2.2
 simp at h1
 omega
theorem Em (l:List UInt8)(e:Int):mV (cR gP 16 l e).1/\vv (cR gP 16 l e).1:=by
 have h1:=qb (st:=gP) (most:=16) ae l e
 have h2:=Ai (p:=λk:Kn=>k.runs.length<=4096) Ps 16 l e
 exact⟨⟨ae,λk hk=>by have:=h2 k hk;omega⟩,h2⟩
theorem Pt (l:List UInt8)(e:Int):bZ prog 276 [.aggK mQ .aggN] [(1000,cw l e)] (knC (gP l e).1) [(1000,cw (gP l e).2.1 (gP l e).2.2)]:=by
 dsimp only [gP]
 have h1:=dq l e 1 16
 generalize af 1 16 l e=a at *
 obtain⟨rep,l1,e1⟩:=a
 simp only at h1 ⊢
 have h2:=dq l1 e1 0 4096
 have hn:=dh (most:=4096) ae l1 e1
 generalize af 0 4096 l1 e1=s at *
 obtain⟨n,l2,e2⟩:=s
 simp only at h2 hn ⊢
 obtain⟨hn0,hn1⟩:=hn
 obtain⟨n,rfl⟩:=Int.eq_ofNat_of_zero_le hn0
 rw[Int.toNat_natCast]
 generalize hR:gX n [] 0 l2 e2=R at *
 refine cp func276 ntmps276 ?_
 (refine fG h1 h2 ?_)
 refine bw (nt 3 1 600 127 129 2 rfl rfl) ?_
 refine aj (X:=Nat×List Rn×Int×List UInt8×Int) (λx=>x.1<=n/\x.2.1.length<=x.1/\0<=x.2.2.1/\x.2.2.1<=562949953421312*(x.1:Int)/\gX (n-x.1) x.2.1 x.2.2.1 x.2.2.2.1 x.2.2.2.2=R)
  (λx=>aF [(1,.ptr 1 0 0),(2,.ptr 2 0 0),(3,.ptr 3 0 0),(4,iC .i64 (n:Nat)),(5,iC .i64 x.2.2.1),(6,iC .i64 (x.1:Nat))]
    [(1,.box 271 [mQ]),(2,.box 127 [iC .i64 0,.per (ai (.slice none 0 0))]),(3,.box 127 [iC .i64 rep,.row 600 0]),(1000,cw x.2.2.2.1 x.2.2.2.2),(600,.row 129 2 (x.2.1.map rnP))]) (λx=>n-x.1) (0,[],0,l2,e2) ⟨aag _,aaf _,aA,aA,hR⟩ ?_
 clear h1 h2 hR
 rintro⟨i,acc,was,l,e⟩ ⟨hi,hacc,hw0,hw1,hR⟩
 simp only at hi hacc hw0 hw1 hR ⊢
 have hE:=nW l e
 by_cases hst:i<n/\e=0
 ·obtain⟨hlt,he⟩:=hst
  subst he
  obtain⟨m,hm⟩:∃m,n-i=m+1:=⟨n-i-1,ae⟩
  rw[hm,gX,aab aA]at hR
  dsimp only at hR
  have h3:=iy l 0
  have q3:=qd l 0
  generalize bI l 0=x at *
  have h4:=iy x.2.1 x.2.2
  have q4:=qd x.2.1 x.2.2
  generalize bI x.2.1 x.2.2=y at *
  (refine dQ hE h3 h4 ?_;repeat' first|apply aw|refine ah λhc=>?_)
  refine⟨(i+1,acc++[⟨was+x.1,was+x.1+y.1⟩],was+x.1+y.1,y.2.1,y.2.2),⟨aL,bD,aL,aL,by grind⟩,aL,?_⟩
  exact ab
 ·have hR2:R=(acc,l,e):=by
   rw[<-hR]
   by_cases he:e=0
   ·rw[show n-i=0 by omega];rfl
   ·cases n-i<;>grind[gX]
  subst hR2
  refine bw (iW 600 _ 129 2 rfl rfl) ?_
  by_cases hlt:i<n
  ·have he:e≠0:=λq=>hst ⟨hlt,q⟩
   clear hst
   (refine dK hE ?_;repeat' first|apply aw|refine ah λhc=>?_)
   refine kC ?_
   exact C0
  ·clear hst
   (refine dK hE ?_;repeat' first|apply aw|refine ah λhc=>?_)
   refine kC ?_
   exact C0
theorem JD (l:List UInt8)(e:Int):bZ prog 250 [.aggK mQ .aggN] [(1000,cw l e)] (.row 3000 0) [(1000,cw (cR gP 16 l e).2.1 (cR gP 16 l e).2.2),(3000,.row 127 2 ((cR gP 16 l e).1.map BW))]:=by
 dsimp only [cR]
 have h1:=dq l e 0 16
 have hn:=dh (most:=16) ae l e
 generalize af 0 16 l e=s at *
 obtain⟨n,l0,e0⟩:=s
 simp only at h1 hn ⊢
 obtain⟨hn0,hn1⟩:=hn
 obtain⟨n,rfl⟩:=Int.eq_ofNat_of_zero_le hn0
 rw[Int.toNat_natCast]
 generalize hR:fY gP n [] l0 e0=R at *
 refine cp func250 ntmps250 ?_
 (refine dK h1 ?_)
 refine bw (bS 4 600 127 2 rfl rfl) ?_
 refine aj (X:=Nat×List Kn×List UInt8×Int) (λx=>x.1<=n/\x.2.1.length<=x.1/\fY gP (n-x.1) x.2.1 x.2.2.1 x.2.2.2=R)
  (λx=>aF [(1,.ptr 1 0 0),(3,iC .i64 (n:Nat)),(4,.row 600 0),(5,iC .i64 (x.1:Nat))] [(1,.box 271 [mQ]),(1000,cw x.2.2.1 x.2.2.2),(600,.row 127 2 (x.2.1.map BW))]) (λx=>n-x.1) (0,[],l0,e0) ⟨aag _,aaf _,hR⟩ ?_
 clear h1 hR
 rintro⟨i,acc,l,e⟩ ⟨hi,hacc,hR⟩
 simp only at hi hacc hR ⊢
 have hE:=nW l e
 by_cases hst:i<n/\e=0
 ·obtain⟨hlt,he⟩:=hst
  subst he
  obtain⟨m,hm⟩:∃m,n-i=m+1:=⟨n-i-1,ae⟩
  rw[hm,fY,aab aA]at hR
  have h2:=Pt l 0
  generalize gP l 0=q at *
  (refine wM hE (im h2) ?_;repeat' first|apply aw|refine ah λhc=>?_)
  refine⟨(i+1,acc++[q.1],q.2.1,q.2.2),⟨aL,bD,by grind⟩,aL,?_⟩
  exact ab
 ·have hR2:R=(acc,l,e):=by
   rw[<-hR]
   by_cases he:e=0
   ·rw[show n-i=0 by omega];rfl
   ·cases n-i<;>grind[fY]
  subst hR2
  by_cases hlt:i<n
  ·have he:e≠0:=λq=>hst ⟨hlt,q⟩
   clear hst
   (refine dK hE ?_;repeat' first|apply aw|refine ah λhc=>?_)
   refine⟨.inl rfl,dv [(1000,1000),(600,3000)] rfl rfl ?_ (nd rfl rfl)⟩
   (repeat (first|exact bG.nil|(refine bG.cons rfl ?_ ?_;(focus first|rfl|skip))))
  ·clear hst
   (refine dK hE ?_;repeat' first|apply aw|refine ah λhc=>?_)
   refine⟨.inl rfl,dv [(1000,1000),(600,3000)] rfl rfl ?_ (nd rfl rfl)⟩
   (repeat (first|exact bG.nil|(refine bG.cons rfl ?_ ?_;(focus first|rfl|skip))))
theorem eU (b l:List UInt8)(e:Int)(hs:l <:+ b)(hb:b.length<=1000000000000):bZ prog 86 [mQ] [(1000,d0 b l e)] (iC .i64 (bI l e).1) [(1000,d0 b (bI l e).2.1 (bI l e).2.2)]:=by
 have h:=bu b l e hs hb 0 281474976710656
 rw[BZ]at h
 refine cp func86 ntmps86 ?_
 (refine dK h ?_)
 refine kC ?_
 exact bh rfl rfl
theorem xi (b l:List UInt8)(e:Int)(hs:l <:+ b)(hb:b.length<=1000000000000):bZ prog 172 [mQ] [(1000,d0 b l e)] (.row 3000 0) [(1000,d0 b (cR gP 16 l e).2.1 (cR gP 16 l e).2.2),(3000,.row 127 2 ((cR gP 16 l e).1.map BW))]:=by
 dsimp only [cR]
 have h1:=bu b l e hs hb 0 16
 have hn:=dh (most:=16) ae l e
 replace hs:=(aC 0 16 l e).trans hs
 generalize af 0 16 l e=s at *
 obtain⟨n,l0,e0'⟩:=s
 simp only at h1 hn hs ⊢
 obtain⟨hn0,hn1⟩:=hn
 obtain⟨n,rfl⟩:=Int.eq_ofNat_of_zero_le hn0
 rw[Int.toNat_natCast]
 generalize hR:fY gP n [] l0 e0'=R at *
 refine cp func172 ntmps172 ?_
 (refine dK h1 ?_)
 refine bw (bS 3 600 127 2 rfl rfl) ?_
 refine aj (X:=Nat×List Kn×List UInt8×Int) (λx=>x.1<=n/\x.2.1.length<=x.1/\x.2.2.1 <:+ b/\fY gP (n-x.1) x.2.1 x.2.2.1 x.2.2.2=R)
  (λx=>aF [(0,.ptr 1000 0 0),(3,.row 600 0),(4,iC .i64 (n:Nat)),(5,iC .i64 (x.1:Nat))] [(1000,d0 b x.2.2.1 x.2.2.2),(600,.row 127 2 (x.2.1.map BW))]) (λx=>n-x.1) (0,[],l0,e0') ⟨aag _,aaf _,hs,hR⟩ ?_
 clear h1 hR hs
 rintro⟨i,acc,l,e⟩ ⟨hi,hacc,hs,hR⟩
 simp only at hi hacc hs hR ⊢
 by_cases hst:i<n/\e=0
 ·obtain⟨hlt,he⟩:=hst
  subst he
  obtain⟨m,hm⟩:∃m,n-i=m+1:=⟨n-i-1,ae⟩
  rw[hm,fY,aab aA]at hR
  dsimp only [gP]at hR
  have h2:=bu b l 0 hs hb 1 16
  replace hs:=(aC 1 16 l 0).trans hs
  generalize af 1 16 l 0=a at *
  obtain⟨rep,l1,e1⟩:=a
  simp only at h2 hs hR
  have h3:=bu b l1 e1 hs hb 0 4096
  have hk:=dh (most:=4096) ae l1 e1
  replace hs:=(aC 0 4096 l1 e1).trans hs
  generalize af 0 4096 l1 e1=s at *
  obtain⟨k,l2,e2⟩:=s
  simp only at h3 hk hs hR
  obtain⟨hk0,hk1⟩:=hk
  obtain⟨k,rfl⟩:=Int.eq_ofNat_of_zero_le hk0
  rw[Int.toNat_natCast]at hR
  generalize hR2:gX k [] 0 l2 e2=R2 at *
  (refine fG h2 h3 ?_;repeat' first|apply aw|refine ah λhc=>?_)
  refine bw (nt 6 1 601 127 129 2 rfl rfl) ?_
  refine aj (X:=Nat×List Rn×Int×List UInt8×Int) (λx=>x.1<=k/\x.2.1.length<=x.1/\0<=x.2.2.1/\x.2.2.1<=562949953421312*(x.1:Int)/\x.2.2.2.1 <:+ b/\gX (k-x.1) x.2.1 x.2.2.1 x.2.2.2.1 x.2.2.2.2=R2)
   (λx=>aF [(0,.ptr 1000 0 0),(3,.row 600 0),(4,iC .i64 (n:Nat)),(5,iC .i64 (i:Nat)),(6,.ptr 6 0 0),(7,iC .i64 (k:Nat)),(8,iC .i64 x.2.2.1),(9,iC .i64 (x.1:Nat))]
     [(1000,d0 b x.2.2.2.1 x.2.2.2.2),(600,.row 127 2 (acc.map BW)),(6,.box 127 [iC .i64 rep,.row 601 0]),(601,.row 129 2 (x.2.1.map rnP))]) (λx=>k-x.1) (0,[],0,l2,e2) ⟨aag _,aaf _,aA,aA,hs,hR2⟩ ?_
  clear h2 h3 hR2 hs
  rintro⟨j,acc2,was,l,e⟩ ⟨hj,hacc2,hw0,hw1,hs,hR2⟩
  simp only at hj hacc2 hw0 hw1 hs hR2 ⊢
  by_cases hst:j<k/\e=0
  ·obtain⟨hltj,he⟩:=hst
   subst he
   obtain⟨m2,hm2⟩:∃m,k-j=m+1:=⟨k-j-1,ae⟩
   rw[hm2,gX,aab aA]at hR2
   dsimp only at hR2
   have h4:=eU b l 0 hs hb
   have q4:=qd l 0
   replace hs:=(cQ l 0).trans hs
   generalize bI l 0=x at *
   have h5:=eU b x.2.1 x.2.2 hs hb
   have q5:=qd x.2.1 x.2.2
   replace hs:=(cQ x.2.1 x.2.2).trans hs
   generalize bI x.2.1 x.2.2=y at *
   (refine fG h4 h5 ?_;repeat' first|apply aw|refine ah λhc=>?_)
   refine⟨(j+1,acc2++[⟨was+x.1,was+x.1+y.1⟩],was+x.1+y.1,y.2.1,y.2.2),⟨aL,bD,aL,aL,hs,by grind⟩,aL,?_⟩
   exact ab
  ·have hR3:R2=(acc2,l,e):=by
    rw[<-hR2]
    by_cases he:e=0
    ·rw[show k-j=0 by omega];rfl
    ·cases k-j<;>grind[gX]
   subst hR3
   simp only at hR
   refine bw (iW 601 _ 129 2 rfl rfl) ?_
   by_cases hltj:j<k
   ·have he:e≠0:=λq=>hst ⟨hltj,q⟩
    clear hst
    (refine w0 ?_;repeat' first|apply aw|refine ah λhc=>?_)
    refine⟨(i+1,acc++[⟨rep,acc2⟩],l,e),⟨aL,bD,hs,by grind⟩,aL,?_⟩
    exact ab
   ·clear hst
    (refine w0 ?_;repeat' first|apply aw|refine ah λhc=>?_)
    refine⟨(i+1,acc++[⟨rep,acc2⟩],l,e),⟨aL,bD,hs,by grind⟩,aL,?_⟩
    exact ab
 ·have hR2:R=(acc,l,e):=by
   rw[<-hR]
   by_cases he:e=0
   ·rw[show n-i=0 by omega];rfl
   ·cases n-i<;>grind[fY]
  subst hR2
  by_cases hlt:i<n
  ·have he:e≠0:=λq=>hst ⟨hlt,q⟩
   clear hst
   (refine w0 ?_;repeat' first|apply aw|refine ah λhc=>?_)
   refine⟨.inl rfl,dv [(1000,1000),(600,3000)] rfl rfl ?_ (nd rfl rfl)⟩
   (repeat (first|exact bG.nil|(refine bG.cons rfl ?_ ?_;(focus first|rfl|skip))))
  ·clear hst
   (refine w0 ?_;repeat' first|apply aw|refine ah λhc=>?_)
   refine⟨.inl rfl,dv [(1000,1000),(600,3000)] rfl rfl ?_ (nd rfl rfl)⟩
   (repeat (first|exact bG.nil|(refine bG.cons rfl ?_ ?_;(focus first|rfl|skip))))
def bx (s:List Kn)(r:Nat):List Rn:=s.flatMap λk=>if k.rep=(r:Int)+1 then k.runs else []
def di (s:List Kn):List (List Rn):=(List.range 16).map (bx s)
def bO (cOf:List Rn->List Rn):Nat->List (List Rn)->List Kn
 | _,[]=>[]
 | i,l::T=>(if(cOf l).length=0 then []else [⟨(i:Int)+1,cOf l⟩])++bO cOf (i+1) T
def gQ (cOf:List Rn->List Rn)(s:List Kn):List Kn:=bO cOf 0 (di s)
theorem dp (s:List Kn):(di s).length=16:=by simp[di]
theorem nD (l:List Kn)(k:Kn)(r:Nat):bx (l++[k]) r=bx l r++(if k.rep=(r:Int)+1 then k.runs else []):=by simp[bx]
theorem ev (s:List Kn){r:Nat}(h:r<16):(di s)[r]?=some (bx s r):=by simp[di,h]
theorem En (l:List Kn)(k:Kn){r:Nat}(h:r<16)(hk:k.rep=(r:Int)+1):di (l++[k])=(di l).set r (bx l r++k.runs):=by
 apply List.ext_getElem?
 grind[dp,ev,nD]
theorem Lp (l:List Kn)(k:Kn)(hk:¬(1<=k.rep/\k.rep<=16)):di (l++[k])=di l:=by
 apply List.ext_getElem?
 grind[ev,nD,dp]
theorem i8:∀(s:List Kn)(r:Nat),(bx s r).length<=(s.flatMap Kn.runs).length:=by
 intro s
 induction s with
 | nil=>intro r;simp[bx]
 | cons k s ih=>
  intro r
  have:=ih r
  grind[bx]
theorem B2 {s:List Kn}{k:Kn}(h:k∈s):k.runs.length<=(s.flatMap Kn.runs).length:=by induction s<;>grind
def dJ (s:List Kn):Prop:=s.length<=1000000000/\(s.flatMap Kn.runs).length<=1000000000
theorem dJ.sz {s:List Kn}(h:dJ s):mV s:=⟨h.1,λk hk=>by
 have h2:=h.2
 have:=B2 hk
 omega⟩
theorem vc (cOf:List Rn->List Rn):∀(T U:List (List Rn)) (i:Nat),bO cOf i (T++U)=bO cOf i T++bO cOf (i+T.length) U:=by
 intro T
 induction T<;>grind[bO]
theorem Eo {s:List Kn}(h:ck s):∀r,bx s r=[]\/∃k∈s,k.rep=(r:Int)+1/\bx s r=k.runs:=by
 intro r
 induction s using Ed with
 | h0=>exact .inl rfl
 | h1 l k ih=>
  have hl:ck l:=λi hi hi'=>by
   have h1:=h i bD bD
   have e1:(l++[k])[i]'(bD)=l[i]:=List.getElem_append_left hi
   rw[e1]at h1
   grind
  rw[nD]
  by_cases hk:k.rep=(r:Int)+1
  ·rw[aae hk]
   have hz:bx l r=[]:=by
    rcases ih hl with q|⟨k',hk',e1,e2⟩
    ·exact q
    ·exfalso
     obtain⟨i,hi,rfl⟩:=List.getElem_of_mem hk'
     have hlt:∀(d i:Nat)(hi:i<l.length)(hd:i+d+1=l.length),l[i].rep<k.rep:=by
      intro d
      induction d with
      | zero=>
       intro i hi hd
       have:=(h (i+1) bD bD).2.2.2.2 ae
       grind
      | succ d ihd=>
       intro i hi hd
       have:=(h (i+1) bD bD).2.2.2.2 ae
       grind
     have:=hlt (l.length-1-i) i hi ae
     omega
   rw[hz,aaE]
   grind
  grind
theorem Aj {s:List Kn}(h:ck s):∀l∈di s,ef l:=by
 intro l hl
 obtain⟨r,_,rfl⟩:=List.mem_map.1 hl
 rcases Eo h r with q|⟨k,hk,_,q⟩
 ·rw[q];intro i hi;simp at hi
 ·rw[q]
  obtain⟨i,hi,rfl⟩:=List.getElem_of_mem hk
  simp_all[ic]
theorem He (l:List α)(k:Nat)(h:k<l.length):l.take (k+1)=l.take k++[l[k]]:=by rw[List.take_succ_eq_append_getElem h]
theorem xj (s:List Kn)(z r:Nat):(bx (s.take z) r).length<=(bx s r).length:=by grind[bx,aa0]
