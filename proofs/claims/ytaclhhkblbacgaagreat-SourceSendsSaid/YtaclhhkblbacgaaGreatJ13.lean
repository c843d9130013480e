/- Texts joined: KcR Vs VsW VsP. -/
import Derived.Test.YtaclhhkblbacgaaGreatJ12
set_option maxRecDepth 10000
set_option maxHeartbeats 8000000
namespace Go.Proofs.YtaclhhkblbacgaaGreat
open Go.RowKit Go.Proofs.Tryz
variable {s:List Kn}
theorem L0 {α:Type}{st:List UInt8→Int→α×List UInt8×Int}{p:α→Prop}(h:∀l e,p (st l e).1):∀(n:Nat)(acc:List α)(l:List UInt8)(e:Int),(∀x∈acc,p x)→∀x∈(fx st n acc l e).1,p x:=by
 intro n
 induction n with
 | zero=>intro acc l e ha;exact ha
 | succ n ih=>
  intro acc l e ha
  unfold fx
  split
  ·exact ha
  ·refine ih _ _ _ (fun x hx=>?_)
   rcases Wz.1 hx with q|q
   ·exact ha x q
   ·simp at q;subst q;exact h l e
theorem xH {α:Type}{st:List UInt8→Int→α×List UInt8×Int}{p:α→Prop}(h:∀l e,p (st l e).1)(most:Int)(l:List UInt8)(e:Int):∀x∈(cN st most l e).1,p x:=L0 h _ _ _ _ au
theorem L3 (l:List UInt8)(e:Int):(gA l e).1.runs.length≤4096:=by
 dsimp only [gA]
 have h1:=Iq (af 0 4096 (af 1 16 l e).2.1 (af 1 16 l e).2.2).1.toNat [] 0 (af 0 4096 (af 1 16 l e).2.1 (af 1 16 l e).2.2).2.1 (af 0 4096 (af 1 16 l e).2.1 (af 1 16 l e).2.2).2.2
 have h2:=cY (most:=4096) ab (af 1 16 l e).2.1 (af 1 16 l e).2.2
 simp at h1
 omega
theorem B3 (l:List UInt8)(e:Int):lR (cN gA 16 l e).1∧sS (cN gA 16 l e).1:=by
 have h1:=oG (st:=gA) (most:=16) ab l e
 have h2:=xH (p:=fun k:Kn=>k.runs.length≤4096) L3 16 l e
 exact⟨⟨ab,fun k hk=>by have:=h2 k hk;omega⟩,h2⟩
theorem L4 (l:List UInt8)(e:Int):dh prog 277 [.aggK lN .aggN] [(1000,ct l e)] (Vg (gA l e).1) [(1000,ct (gA l e).2.1 (gA l e).2.2)]:=by
 dsimp only [gA]
 have h1:=db l e 1 16
 generalize af 1 16 l e=a at *
 obtain⟨rep,l1,e1⟩:=a
 simp only at h1 ⊢
 have h2:=db l1 e1 0 4096
 have hn:=cY (most:=4096) ab l1 e1
 generalize af 0 4096 l1 e1=s at *
 obtain⟨n,l2,e2⟩:=s
 simp only at h2 hn ⊢
 obtain⟨hn0,hn1⟩:=hn
 obtain⟨n,rfl⟩:=Int.eq_ofNat_of_zero_le hn0
 rw[Int.toNat_natCast]
 generalize hR:gu n [] 0 l2 e2=R at *
 refine dH func277 ntmps277 ?_
 (refine ft h1 h2 ?_)
 refine bQ (F6 3 1 600 142 144 2 rfl rfl) ?_
 refine aj (X:=Nat×List Rn×Int×List UInt8×Int) (fun x=>x.1≤n∧x.2.1.length≤x.1∧0≤x.2.2.1∧x.2.2.1≤562949953421312*(x.1:Int)∧gu (n-x.1) x.2.1 x.2.2.1 x.2.2.2.1 x.2.2.2.2=R)
  (fun x=>ay [(1,.ptr 1 0 0),(2,.ptr 2 0 0),(3,.ptr 3 0 0),(4,iC .i64 (n:Nat)),(5,iC .i64 x.2.2.1),(6,iC .i64 (x.1:Nat))]
    [(1,.box 277 [lN]),(2,.box 142 [iC .i64 0,.per (ak (.slice none 0 0))]),(3,.box 142 [iC .i64 rep,.row 600 0]),(1000,ct x.2.2.2.1 x.2.2.2.2),(600,.row 144 2 (x.2.1.map rnP))]) (fun x=>n-x.1) (0,[],0,l2,e2) ⟨Wa _,V8 _,au,au,hR⟩ ?_
 clear h1 h2 hR
 rintro⟨i,acc,was,l,e⟩ ⟨hi,hacc,hw0,hw1,hR⟩
 simp only at hi hacc hw0 hw1 hR ⊢
 have hE:=m1 l e
 by_cases hst:i<n∧e=0
 ·obtain⟨hlt,he⟩:=hst
  subst he
  obtain⟨m,hm⟩:∃m,n-i=m+1:=⟨n-i-1,ab⟩
  rw[hm,gu,V3 au]at hR
  dsimp only at hR
  have h3:=hY l 0
  have q3:=oI l 0
  generalize aO l 0=x at *
  have h4:=hY x.2.1 x.2.2
  have q4:=oI x.2.1 x.2.2
  generalize aO x.2.1 x.2.2=y at *
  (refine dF hE h3 h4 ?_;repeat' first|apply ah|refine ai fun hc=>?_)
  refine⟨(i+1,acc++[⟨was+x.1,was+x.1+y.1⟩],was+x.1+y.1,y.2.1,y.2.2),⟨aA,bn,aA,aA,by simp only;rw[show n-(i+1)=m by omega];exact hR⟩,aA,?_⟩
  exact ae
 ·have hR2:R=(acc,l,e):=by
   rw[←hR]
   by_cases he:e=0
   ·rw[show n-i=0 by omega];rfl
   ·cases n-i with
    | zero=>rfl
    | succ m=>rw[gu,V6 he]
  subst hR2
  refine bQ (jj 600 _ 144 2 rfl rfl) ?_
  by_cases hlt:i<n
  ·have he:e≠0:=fun q=>hst ⟨hlt,q⟩
   clear hst
   (refine dy hE ?_;repeat' first|apply ah|refine ai fun hc=>?_)
   refine gM ?_
   exact D0
  ·clear hst
   (refine dy hE ?_;repeat' first|apply ah|refine ai fun hc=>?_)
   refine gM ?_
   exact D0
theorem Gd (l:List UInt8)(e:Int):dh prog 251 [.aggK lN .aggN] [(1000,ct l e)] (.row 3000 0) [(1000,ct (cN gA 16 l e).2.1 (cN gA 16 l e).2.2),(3000,.row 142 2 ((cN gA 16 l e).1.map zh))]:=by
 dsimp only [cN]
 have h1:=db l e 0 16
 have hn:=cY (most:=16) ab l e
 generalize af 0 16 l e=s at *
 obtain⟨n,l0,e0⟩:=s
 simp only at h1 hn ⊢
 obtain⟨hn0,hn1⟩:=hn
 obtain⟨n,rfl⟩:=Int.eq_ofNat_of_zero_le hn0
 rw[Int.toNat_natCast]
 generalize hR:fx gA n [] l0 e0=R at *
 refine dH func251 ntmps251 ?_
 (refine dy h1 ?_)
 refine bQ (bU 4 600 142 2 rfl rfl) ?_
 refine aj (X:=Nat×List Kn×List UInt8×Int) (fun x=>x.1≤n∧x.2.1.length≤x.1∧fx gA (n-x.1) x.2.1 x.2.2.1 x.2.2.2=R)
  (fun x=>ay [(1,.ptr 1 0 0),(3,iC .i64 (n:Nat)),(4,.row 600 0),(5,iC .i64 (x.1:Nat))] [(1,.box 277 [lN]),(1000,ct x.2.2.1 x.2.2.2),(600,.row 142 2 (x.2.1.map zh))]) (fun x=>n-x.1) (0,[],l0,e0) ⟨Wa _,V8 _,hR⟩ ?_
 clear h1 hR
 rintro⟨i,acc,l,e⟩ ⟨hi,hacc,hR⟩
 simp only at hi hacc hR ⊢
 have hE:=m1 l e
 by_cases hst:i<n∧e=0
 ·obtain⟨hlt,he⟩:=hst
  subst he
  obtain⟨m,hm⟩:∃m,n-i=m+1:=⟨n-i-1,ab⟩
  rw[hm,fx,V3 au]at hR
  have h2:=L4 l 0
  generalize gA l 0=q at *
  (refine ut hE (fD h2) ?_;repeat' first|apply ah|refine ai fun hc=>?_)
  refine⟨(i+1,acc++[q.1],q.2.1,q.2.2),⟨aA,bn,by simp only;rw[show n-(i+1)=m by omega];exact hR⟩,aA,?_⟩
  exact ae
 ·have hR2:R=(acc,l,e):=by
   rw[←hR]
   by_cases he:e=0
   ·rw[show n-i=0 by omega];rfl
   ·cases n-i with
    | zero=>rfl
    | succ m=>rw[fx,V6 he]
  subst hR2
  by_cases hlt:i<n
  ·have he:e≠0:=fun q=>hst ⟨hlt,q⟩
   clear hst
   (refine dy hE ?_;repeat' first|apply ah|refine ai fun hc=>?_)
   refine⟨.inl rfl,gq [(1000,1000),(600,3000)] rfl rfl ?_ (um rfl rfl)⟩
   (repeat (first|exact eh.nil|(refine eh.cons rfl ?_ ?_;(focus first|rfl|skip))))
  ·clear hst
   (refine dy hE ?_;repeat' first|apply ah|refine ai fun hc=>?_)
   refine⟨.inl rfl,gq [(1000,1000),(600,3000)] rfl rfl ?_ (um rfl rfl)⟩
   (repeat (first|exact eh.nil|(refine eh.cons rfl ?_ ?_;(focus first|rfl|skip))))
theorem eF (b l:List UInt8)(e:Int)(hs:l <:+ b)(hb:b.length≤1000000000000):dh prog 52 [lN] [(1000,dQ b l e)] (iC .i64 (aO l e).1) [(1000,dQ b (aO l e).2.1 (aO l e).2.2)]:=by
 have h:=bd b l e hs hb 0 281474976710656
 rw[zi]at h
 refine dH func52 ntmps52 ?_
 (refine dy h ?_)
 refine gM ?_
 exact bm rfl rfl
theorem uO (b l:List UInt8)(e:Int)(hs:l <:+ b)(hb:b.length≤1000000000000):dh prog 112 [lN] [(1000,dQ b l e)] (.row 3000 0) [(1000,dQ b (cN gA 16 l e).2.1 (cN gA 16 l e).2.2),(3000,.row 142 2 ((cN gA 16 l e).1.map zh))]:=by
 dsimp only [cN]
 have h1:=bd b l e hs hb 0 16
 have hn:=cY (most:=16) ab l e
 replace hs:=(ao 0 16 l e).trans hs
 generalize af 0 16 l e=s at *
 obtain⟨n,l0,e0'⟩:=s
 simp only at h1 hn hs ⊢
 obtain⟨hn0,hn1⟩:=hn
 obtain⟨n,rfl⟩:=Int.eq_ofNat_of_zero_le hn0
 rw[Int.toNat_natCast]
 generalize hR:fx gA n [] l0 e0'=R at *
 refine dH func112 ntmps112 ?_
 (refine dy h1 ?_)
 refine bQ (bU 3 600 142 2 rfl rfl) ?_
 refine aj (X:=Nat×List Kn×List UInt8×Int) (fun x=>x.1≤n∧x.2.1.length≤x.1∧x.2.2.1 <:+ b∧fx gA (n-x.1) x.2.1 x.2.2.1 x.2.2.2=R)
  (fun x=>ay [(0,.ptr 1000 0 0),(3,.row 600 0),(4,iC .i64 (n:Nat)),(5,iC .i64 (x.1:Nat))] [(1000,dQ b x.2.2.1 x.2.2.2),(600,.row 142 2 (x.2.1.map zh))]) (fun x=>n-x.1) (0,[],l0,e0') ⟨Wa _,V8 _,hs,hR⟩ ?_
 clear h1 hR hs
 rintro⟨i,acc,l,e⟩ ⟨hi,hacc,hs,hR⟩
 simp only at hi hacc hs hR ⊢
 by_cases hst:i<n∧e=0
 ·obtain⟨hlt,he⟩:=hst
  subst he
  obtain⟨m,hm⟩:∃m,n-i=m+1:=⟨n-i-1,ab⟩
  rw[hm,fx,V3 au]at hR
  dsimp only [gA]at hR
  have h2:=bd b l 0 hs hb 1 16
  replace hs:=(ao 1 16 l 0).trans hs
  generalize af 1 16 l 0=a at *
  obtain⟨rep,l1,e1⟩:=a
  simp only at h2 hs hR
  have h3:=bd b l1 e1 hs hb 0 4096
  have hk:=cY (most:=4096) ab l1 e1
  replace hs:=(ao 0 4096 l1 e1).trans hs
  generalize af 0 4096 l1 e1=s at *
  obtain⟨k,l2,e2⟩:=s
  simp only at h3 hk hs hR
  obtain⟨hk0,hk1⟩:=hk
  obtain⟨k,rfl⟩:=Int.eq_ofNat_of_zero_le hk0
  rw[Int.toNat_natCast]at hR
  generalize hR2:gu k [] 0 l2 e2=R2 at *
  (refine ft h2 h3 ?_;repeat' first|apply ah|refine ai fun hc=>?_)
  refine bQ (F6 6 1 601 142 144 2 rfl rfl) ?_
  refine aj (X:=Nat×List Rn×Int×List UInt8×Int) (fun x=>x.1≤k∧x.2.1.length≤x.1∧0≤x.2.2.1∧x.2.2.1≤562949953421312*(x.1:Int)∧x.2.2.2.1 <:+ b∧gu (k-x.1) x.2.1 x.2.2.1 x.2.2.2.1 x.2.2.2.2=R2)
   (fun x=>ay [(0,.ptr 1000 0 0),(3,.row 600 0),(4,iC .i64 (n:Nat)),(5,iC .i64 (i:Nat)),(6,.ptr 6 0 0),(7,iC .i64 (k:Nat)),(8,iC .i64 x.2.2.1),(9,iC .i64 (x.1:Nat))]
     [(1000,dQ b x.2.2.2.1 x.2.2.2.2),(600,.row 142 2 (acc.map zh)),(6,.box 142 [iC .i64 rep,.row 601 0]),(601,.row 144 2 (x.2.1.map rnP))]) (fun x=>k-x.1) (0,[],0,l2,e2) ⟨Wa _,V8 _,au,au,hs,hR2⟩ ?_
  clear h2 h3 hR2 hs
  rintro⟨j,acc2,was,l,e⟩ ⟨hj,hacc2,hw0,hw1,hs,hR2⟩
  simp only at hj hacc2 hw0 hw1 hs hR2 ⊢
  by_cases hst:j<k∧e=0
  ·obtain⟨hltj,he⟩:=hst
   subst he
   obtain⟨m2,hm2⟩:∃m,k-j=m+1:=⟨k-j-1,ab⟩
   rw[hm2,gu,V3 au]at hR2
   dsimp only at hR2
   have h4:=eF b l 0 hs hb
   have q4:=oI l 0
   replace hs:=(bX l 0).trans hs
   generalize aO l 0=x at *
   have h5:=eF b x.2.1 x.2.2 hs hb
   have q5:=oI x.2.1 x.2.2
   replace hs:=(bX x.2.1 x.2.2).trans hs
   generalize aO x.2.1 x.2.2=y at *
   (refine ft h4 h5 ?_;repeat' first|apply ah|refine ai fun hc=>?_)
   refine⟨(j+1,acc2++[⟨was+x.1,was+x.1+y.1⟩],was+x.1+y.1,y.2.1,y.2.2),⟨aA,bn,aA,aA,hs,by simp only;rw[show k-(j+1)=m2 by omega];exact hR2⟩,aA,?_⟩
   exact ae
  ·have hR3:R2=(acc2,l,e):=by
    rw[←hR2]
    by_cases he:e=0
    ·rw[show k-j=0 by omega];rfl
    ·cases k-j with
     | zero=>rfl
     | succ m=>rw[gu,V6 he]
   subst hR3
   simp only at hR
   refine bQ (jj 601 _ 144 2 rfl rfl) ?_
   by_cases hltj:j<k
   ·have he:e≠0:=fun q=>hst ⟨hltj,q⟩
    clear hst
    (refine w0 ?_;repeat' first|apply ah|refine ai fun hc=>?_)
    refine⟨(i+1,acc++[⟨rep,acc2⟩],l,e),⟨aA,bn,hs,by simp only;rw[show n-(i+1)=m by omega];exact hR⟩,aA,?_⟩
    exact ae
   ·clear hst
    (refine w0 ?_;repeat' first|apply ah|refine ai fun hc=>?_)
    refine⟨(i+1,acc++[⟨rep,acc2⟩],l,e),⟨aA,bn,hs,by simp only;rw[show n-(i+1)=m by omega];exact hR⟩,aA,?_⟩
    exact ae
 ·have hR2:R=(acc,l,e):=by
   rw[←hR]
   by_cases he:e=0
   ·rw[show n-i=0 by omega];rfl
   ·cases n-i with
    | zero=>rfl
    | succ m=>rw[fx,V6 he]
  subst hR2
  by_cases hlt:i<n
  ·have he:e≠0:=fun q=>hst ⟨hlt,q⟩
   clear hst
   (refine w0 ?_;repeat' first|apply ah|refine ai fun hc=>?_)
   refine⟨.inl rfl,gq [(1000,1000),(600,3000)] rfl rfl ?_ (um rfl rfl)⟩
   (repeat (first|exact eh.nil|(refine eh.cons rfl ?_ ?_;(focus first|rfl|skip))))
  ·clear hst
   (refine w0 ?_;repeat' first|apply ah|refine ai fun hc=>?_)
   refine⟨.inl rfl,gq [(1000,1000),(600,3000)] rfl rfl ?_ (um rfl rfl)⟩
   (repeat (first|exact eh.nil|(refine eh.cons rfl ?_ ?_;(focus first|rfl|skip))))
def bh (s:List Kn)(r:Nat):List Rn:=s.flatMap fun k=>if k.rep=(r:Int)+1 then k.runs else []
def cS (s:List Kn):List (List Rn):=(List.range 16).map (bh s)
def bx (cOf:List Rn→List Rn):Nat→List (List Rn)→List Kn
 | _,[]=>[]
 | i,l::T=>(if(cOf l).length=0 then []else [⟨(i:Int)+1,cOf l⟩])++bx cOf (i+1) T
def gH (cOf:List Rn→List Rn)(s:List Kn):List Kn:=bx cOf 0 (cS s)
theorem bW (s:List Kn):(cS s).length=16:=by simp[cS]
theorem mO (l:List Kn)(k:Kn)(r:Nat):bh (l++[k]) r=bh l r++(if k.rep=(r:Int)+1 then k.runs else []):=by simp[bh]
theorem cG (s:List Kn){r:Nat}(h:r<16):(cS s)[r]?=some (bh s r):=by simp[cS,h]
theorem B4 (l:List Kn)(k:Kn){r:Nat}(h:r<16)(hk:k.rep=(r:Int)+1):cS (l++[k])=(cS l).set r (bh l r++k.runs):=by
 apply List.ext_getElem?
 intro i
 rw[List.getElem?_set,bW]
 by_cases hi:i<16
 ·rw[cG _ hi,mO]
  by_cases h1:r=i
  ·subst h1;rw[V6 rfl,V6 h,V6 hk]
  ·rw[V3 h1,cG _ hi,V3 ab,Wg]
 ·rw[Wq (by rw[bW];omega)]
  rw[V3 ab,Wq (by rw[bW];omega)]
theorem Iv (l:List Kn)(k:Kn)(hk:¬(1≤k.rep∧k.rep≤16)):cS (l++[k])=cS l:=by
 apply List.ext_getElem?
 intro i
 by_cases hi:i<16
 ·rw[cG _ hi,cG _ hi,mO,V3 ab,Wg]
 ·rw[Wq (by rw[bW];omega),Wq (by rw[bW];omega)]
theorem iG:∀(s:List Kn)(r:Nat),(bh s r).length≤(s.flatMap Kn.runs).length:=by
 intro s
 induction s with
 | nil=>intro r;simp[bh]
 | cons k s ih=>
  intro r
  have:=ih r
  unfold bh at this ⊢
  rw[List.flatMap_cons,List.flatMap_cons,V5,V5]
  have h2:(if k.rep=(r:Int)+1 then k.runs else []).length≤k.runs.length:=by split<;>simp
  omega
theorem zk {k:Kn}(h:k∈s):k.runs.length≤(s.flatMap Kn.runs).length:=by
 induction s with
 | nil=>cases h
 | cons x s ih=>
  rw[List.flatMap_cons,V5]
  rcases Wp.1 h with q|q
  ·subst q;omega
  ·have:=ih q;omega
def dx (s:List Kn):Prop:=s.length≤1000000000∧(s.flatMap Kn.runs).length≤1000000000
theorem dx.sz (h:dx s):lR s:=⟨h.1,fun k hk=>by
 have h2:=h.2
 have:=zk hk
 omega⟩
theorem sE (cOf:List Rn→List Rn):∀(T U:List (List Rn)) (i:Nat),bx cOf i (T++U)=bx cOf i T++bx cOf (i+T.length) U:=by
 intro T
 induction T with
 | nil=>intro U i;rfl
 | cons l T ih=>intro U i;simp only[List.cons_append,bx,ih,Wh,V9];rw[show i+1+T.length=i+(T.length+1)by omega]
theorem B5 (h:cu s):∀r,bh s r=[]∨∃k∈s,k.rep=(r:Int)+1∧bh s r=k.runs:=by
 intro r
 induction s using BR with
 | h0=>exact .inl rfl
 | h1 l k ih=>
  have hl:cu l:=fun i hi hi'=>by
   have h1:=h i bn bn
   have e1:(l++[k])[i]'(bn)=l[i]:=List.getElem_append_left hi
   rw[e1]at h1
   refine⟨h1.1,h1.2.1,h1.2.2.1,h1.2.2.2.1,fun q=>?_⟩
   have:=h1.2.2.2.2 q
   rw[List.getElem_append_left ab]at this
   exact this
  rw[mO]
  by_cases hk:k.rep=(r:Int)+1
  ·rw[V6 hk]
   have hz:bh l r=[]:=by
    rcases ih hl with q|⟨k',hk',e1,e2⟩
    ·exact q
    ·exfalso
     obtain⟨i,hi,rfl⟩:=List.getElem_of_mem hk'
     have hlt:∀(d i:Nat)(hi:i<l.length)(hd:i+d+1=l.length),l[i].rep<k.rep:=by
      intro d
      induction d with
      | zero=>
       intro i hi hd
       have:=(h (i+1) bn bn).2.2.2.2 ab
       simp only[WD]at this
       rw[List.getElem_append_left hi,List.getElem_append_right ab]at this
       simpa using this
      | succ d ihd=>
       intro i hi hd
       have:=(h (i+1) bn bn).2.2.2.2 ab
       simp only[WD]at this
       rw[List.getElem_append_left hi,List.getElem_append_left ab]at this
       have:=ihd (i+1) ab ab
       omega
     have:=hlt (l.length-1-i) i hi ab
     omega
   rw[hz,Wu]
   exact .inr ⟨k,au,hk,rfl⟩
  ·rw[V3 hk,Wg]
   rcases ih hl with q|⟨k',hk',e1,e2⟩
   ·exact .inl q
   ·exact .inr ⟨k',by simp[hk'],e1,e2⟩
theorem xI (h:cu s):∀l∈cS s,dX l:=by
 intro l hl
 obtain⟨r,_,rfl⟩:=List.mem_map.1 hl
 rcases B5 h r with q|⟨k,hk,_,q⟩
 ·rw[q];intro i hi;simp at hi
 ·rw[q]
  obtain⟨i,hi,rfl⟩:=List.getElem_of_mem hk
  exact(iE h hi).2.2.2
theorem Es {α:Type}(l:List α)(k:Nat)(h:k<l.length):l.take (k+1)=l.take k++[l[k]]:=by rw[List.take_succ_eq_append_getElem h]
theorem uQ (s:List Kn)(z r:Nat):(bh (s.take z) r).length≤(bh s r).length:=by
 have:bh s r=bh (s.take z) r++bh (s.drop z) r:=by
  unfold bh
  rw[←List.flatMap_append,WL]
 rw[this,V5];omega
abbrev SB (T:List (List Rn)):PV:=cB (T.map mN)
abbrev pe (T:List (List Rn)):List Cnt:=T.map fun l=>Cnt.per (mN l)
theorem B6 (T:List (List Rn)):ru (pe T)=some (T.map mN):=by
 induction T with
 | nil=>rfl
 | cons l T ih=>
  show ru (Cnt.per (mN l)::pe T)=_
  unfold ru
  rw[ih];rfl
theorem B7 (T:List (List Rn)):(T.map mN).map Cnt.per=pe T:=by simp[pe]
theorem xJ {T:List (List Rn)}(h:T.length=16):ru (((pe T).drop 0).take 16)=some (T.map mN):=by
 rw[Xw,Wd bn];exact B6 T
theorem B8 {T:List (List Rn)}(h:T.length=16):Nat.ble (0+16) (pe T).length=true:=by
 apply Nat.ble_eq_true_of_le;simp;omega
theorem Iw {cells l:List Cnt}(h:l.length=cells.length):kU cells 0 l=l:=by
 unfold kU
 rw[List.take_zero,Wu,Wv ab,Wg]
theorem uR (l:List Rn)(hl:l.length≤1000000000):Fn prog 259 [gQ l] (.own 144 2 (l.map rnP)):=by
 by_cases h0:0<l.length
 ·refine fi func259 ntmps259 ?_
  (refine w0 ?_;repeat' first|apply ah|refine ai fun hc=>?_)
  exact nx
 ·obtain rfl:l=[]:=Wf ab
  refine fi func259 ntmps259 ?_
  (refine w0 ?_;repeat' first|apply ah|refine ai fun hc=>?_)
  ·exact dw (dv rfl)
  ·exact nx
theorem xK (l:List Rn)(hl:l.length≤1000000000)(h:dX l):Fn prog 258 [gQ l] (.own 144 2 (l.map rnP)):=by
 have h1:=rK l hl true (by simp[h])
 have h2:=uR l hl
 refine fi func258 ntmps258 ?_
 (refine bg h1 h2 ?_;repeat' first|apply ah|refine ai fun hc=>?_)
 exact nx
theorem Et (l m:List Rn)(hl:l.length≤1000000000):Fn prog 221 [gQ l,gQ m] (dq (decide (l=m))):=by
 refine fi func221 ntmps221 ?_
 (refine wH ?_;repeat' first|apply ah|refine ai fun hc=>?_)
 ·refine dw ?_
  exact aL rfl (by symm;rw[Wt];intro h;subst h;omega)
 have hlm:l.length=m.length:=ab
 refine aj (fun k=>k≤l.length∧l.take k=m.take k) (fun k=>ay [(0,gQ l),(1,gQ m),(12,iC .i64 (l.length:Nat)),(13,iC .i64 (k:Nat))] []) (fun k=>l.length-k) 0 ⟨Wa _,rfl⟩ ?_
 rintro k ⟨hk,hpre⟩
 by_cases hlt:k<l.length
 ·have hltm:k<m.length:=ab
  (refine wH ?_;repeat' first|apply ah|refine ai fun hc=>?_|((first|apply aB rfl|apply aC rfl|apply aD rfl|apply aF rfl);(focus ((try (apply bI;(focus rfl);apply ag rfl rfl rfl rfl rfl));first|(exact gX (us:=encRn l[k]) (vs:=encRn m[k]) ⟨rfl,rfl,rfl⟩ rfl rfl rfl (.inr ⟨rfl,rfl⟩) VD rfl (RD l[k] m[k]))));refine wH ?_))
  ·refine dw ?_
   exact aL rfl (by symm;rw[Wt];intro h;subst h;simp[(tB l[k] l[k]).2 rfl]at *)
  ·refine⟨k+1,⟨ab,?_⟩,ab,?_⟩
   ·rw[bc l k hlt,bc m k hltm,hpre,(tB l[k] m[k]).1 (by simpa using hc)]
   ·exact ae
 ·(refine wH ?_;repeat' first|apply ah|refine ai fun hc=>?_)
  refine dw ?_
  exact aL rfl (by symm;rw[Wn,←Wd (show l.length≤k by omega),hpre,Wd ab])
theorem Gf (s:List Kn)(hs:dx s):Fn prog 230 [fd s] (.per (SB (cS s))):=by
 have hl0:=hs.1
 have htot:=hs.2
 refine fi func230 ntmps230 ?_
 (refine w0 ?_)
 refine bQ (K4 3 294 (cells':=pe (cS [])) rfl rfl (fun j c c' h h'=>?_)) ?_
 ·have h1:c=.per (ak (.slice none 0 0)):=List.eq_of_mem_replicate (n:=16) (WK h)
  have h2:c'=.per (mN []):=List.eq_of_mem_replicate (n:=16) (WK h')
  rw[h1,h2];exact Py
 refine aj (X:=Nat) (fun z=>z≤s.length)
  (fun z=>ay [(2,.ptr 2 0 0),(3,.ptr 3 0 0),(7,fd s),(8,iC .i64 (s.length:Nat)),(9,iC .i64 (z:Nat))] [(2,.box 294 (List.replicate 16 (.per (ak (.slice none 0 0))))),(3,.box 294 (pe (cS (s.take z))))]) (fun z=>s.length-z) 0 (Wa _) ?_
 intro z hz
 by_cases hlt:z<s.length
 ·have c1:=pJ s[z].rep
  have hT:=bW (s.take z)
  have hsn:=Es s z hlt
  by_cases hr:1≤s[z].rep∧s[z].rep≤16
  ·rw[Wb hr]at c1
   obtain⟨r,hq⟩:∃r:Nat,s[z].rep-1=(r:Nat):=⟨(s[z].rep-1).toNat,ab⟩
   have hr16:r<16:=ab
   have hin:=B4 (s.take z) s[z] hr16 ab
   rw[←hsn]at hin
   have hg:=cG (s.take z) hr16
   have hb1:=uQ s z r
   have hb2:=iG s r
   have hb3:=hs.sz.at hlt
   generalize bh (s.take z) r=Tr at *
   generalize cS (s.take z)=T at *
   have HJ:(pe T)[0+r*1]?=some (.per (mN Tr)):=by
    rw[WF,Xr,List.getElem?_map,hg];rfl
   have HB:Nat.ble (0+r*1+1) (pe T).length=true:=Nat.ble_eq_true_of_le bn
   have hTr:Tr.length≤1000000000:=ab
   have c2:=uR Tr ab
   have HF:∀(F:Cnt→Cnt)(c:Cnt),(∀A,F (.per A)=.per A)→F c=.per (cA 2 (Tr.map rnP++s[z].runs.map rnP))→(kU (pe T) (0+r*1) [c]).map F=pe (T.set r (Tr++s[z].runs)):=fun F c h1 h2=>by
    rw[WF,Xr,K3 _ _ _ bn,List.map_set,h2,←List.map_append]
    have e:(pe T).map F=pe T:=by
     unfold pe
     rw[List.map_map]
     exact List.map_congr_left fun x _=>h1 _
    rw[e]
    unfold pe
    rw[List.map_set]
   clear hs htot hg
   (refine bp hq c1 c2 ?_;repeat' first|apply ah|refine ai fun hc=>?_|((first|apply aB rfl|apply aC rfl|apply aD rfl|apply aF rfl);(focus ((try (apply bI;(focus rfl);apply ag rfl rfl rfl rfl rfl));first|((apply aZ 5;(focus rfl);exact qh ⟨rfl,rfl,rfl⟩ rfl inferInstance rfl rfl rfl HJ))|((apply aZ 6;(focus rfl);exact oq (c:=.row _ _) ⟨rfl,rfl⟩ rfl inferInstance rfl rfl rfl HB rfl (by first|exact fA (by first|exact dJ rfl rfl|exact dK|exact eZ)|exact fB rfl|exact fa rfl rfl|exact fC rfl rfl|exact ez|exact eA|exact eB)))));refine bp hq c1 c2 ?_))
   refine⟨z+1,ab,ab,av (jj 23 _ 144 2 rfl rfl) ?_⟩
   (refine kd ?_ ?_;(focus ((repeat (first|exact f9.nil|(refine f9.cons ?_ ?_;rotate_left)));(all_goals try (first|rfl|(refine Dx ?_;first|omega|(simp;done)|(simp;omega))|(refine pb ?_;first|(simp;done)|(simp[*];done))))));(focus ((repeat (first|exact ga.nil|(refine ga.cons ?_ ?_;rotate_left)));(all_goals try (first|rfl|(refine mD ?_;(rw[List.map_append]<;>rfl);done)|(refine ke ?_;(rw[List.map_append]<;>rfl);done))))))
   rw[hin]
   show Blk.box _ (List.map _ (List.map _ _))=_
   rw[List.map_map]
   exact Wx (Blk.box _) (HF _ _ (fun _=>rfl) rfl)
  ·rw[Wj hr]at c1
   have hout:=Iv (s.take z) s[z] hr
   rw[←hsn]at hout
   clear hs htot hsn hr
   (refine aq c1 ?_;repeat' first|apply ah|refine ai fun hc=>?_)
   refine⟨z+1,ab,ab,?_⟩
   (refine kd ?_ ?_;(focus ((repeat (first|exact f9.nil|(refine f9.cons ?_ ?_;rotate_left)));(all_goals try (first|rfl|(refine Dx ?_;first|omega|(simp;done)|(simp;omega))|(refine pb ?_;first|(simp;done)|(simp[*];done))))));(focus ((repeat (first|exact ga.nil|(refine ga.cons ?_ ?_;rotate_left)));(all_goals try (first|rfl|(refine mD ?_;(rw[List.map_append]<;>rfl);done)|(refine ke ?_;(rw[List.map_append]<;>rfl);done))))))
   rw[hout];rfl
 ·have e:s.take z=s:=Wd ab
  rw[e]
  have hT:=bW s
  generalize cS s=T at *
  have HP:=xJ hT
  have HB:=B8 hT
  clear hs htot
  (refine w0 ?_;repeat' first|apply ah|refine ai fun hc=>?_|((first|apply aB rfl|apply aC rfl|apply aD rfl|apply aF rfl);(focus ((try (apply bI;(focus rfl);apply ag rfl rfl rfl rfl rfl));first|((apply aZ 5;(focus rfl);exact oe ⟨rfl,rfl,rfl⟩ rfl inferInstance inferInstance rfl rfl rfl rfl HB HP))|((apply aZ 6;(focus rfl);exact ug ⟨rfl,rfl⟩ rfl inferInstance rfl rfl rfl rfl rfl rfl (by simp[hT])))));refine w0 ?_))
  refine dw ?_
  have e2:kU (List.replicate 16 (Cnt.per (ak (.slice none 0 0)))) 0 ((T.map mN).map .per)=(T.map mN).map .per:=Iw (by simp[hT])
  exact Rv inferInstance inferInstance rfl rfl rfl rfl (by rw[e2];simp[hT]) (by rw[e2,B7];exact B6 T)
theorem P3 (cOf:List Rn→List Rn)(T:List (List Rn))(hT:T.length=16)(hOf:∀l∈T,Fn prog 258 [gQ l] (.own 144 2 ((cOf l).map rnP))) :
 Fn prog 254 [.per (SB T)] (.own 142 2 ((bx cOf 0 T).map zh)):=by
 have HP:=xJ hT
 have HB:=B8 hT
 have HE:=B7 T
 refine fi func254 ntmps254 ?_
 have hstep:∀z (h:z<T.length),bx cOf z (T.drop z)=(if(cOf T[z]).length=0 then []else [⟨(z:Int)+1,cOf T[z]⟩])++bx cOf (z+1) (T.drop (z+1)):=fun z h=>by
  rw[List.drop_eq_getElem_cons h];rfl
 (refine w0 ?_;repeat' first|apply ah|refine ai fun hc=>?_|((first|apply aB rfl|apply aC rfl|apply aD rfl|apply aF rfl);(focus ((try (apply bI;(focus rfl);apply ag rfl rfl rfl rfl rfl));first|((apply aZ 5;(focus rfl);exact oe ⟨rfl,rfl,rfl⟩ rfl inferInstance inferInstance rfl rfl rfl rfl (HE▸HB) (HE▸HP)))));refine w0 ?_))
 refine bQ (bU 3 600 142 2 rfl rfl) ?_
 generalize hQ:bx cOf 0 T=Q
 refine aj (X:=Nat×List Kn) (fun z=>z.1≤16∧z.2.length≤z.1∧z.2++bx cOf z.1 (T.drop z.1)=Q)
  (fun z=>ay [(3,.row 600 0),(6,.per (SB T)),(7,iC .i64 (z.1:Nat))] [(600,.row 142 2 (z.2.map zh))]) (fun z=>16-z.1) (0,[]) ⟨Wa _,V8 _,by simpa using hQ⟩ ?_
 rintro⟨z,acc⟩ ⟨h1,h2,h3⟩
 simp only at h1 h2 h3 ⊢
 by_cases hz:z<16
 ·have hzT:z<T.length:=ab
  have c1:=(hOf T[z] (Wk hzT)).frz
  rw[hstep z hzT]at h3
  have HJ:(T.map mN)[z]?=some (mN T[z]):=by rw[List.getElem?_map,V4 hzT];rfl
  generalize cOf T[z]=L at *
  clear hOf hstep HP HB HE
  by_cases hL:L.length=0
  ·rw[V6 hL,Wu]at h3
   (refine aq c1 ?_;repeat' first|apply ah|refine ai fun hc=>?_|((first|apply aB rfl|apply aC rfl|apply aD rfl|apply aF rfl);(focus ((try (apply bI;(focus rfl);apply ag rfl rfl rfl rfl rfl));first|((apply aZ 13;(focus rfl);exact Bz ⟨rfl,rfl,rfl⟩ rfl inferInstance inferInstance inferInstance rfl rfl rfl ab HJ))));refine aq c1 ?_))
   refine⟨(z+1,acc),⟨aA,aA,h3⟩,aA,?_⟩
   exact ae
  ·rw[V3 hL]at h3
   (refine aq c1 ?_;repeat' first|apply ah|refine ai fun hc=>?_|((first|apply aB rfl|apply aC rfl|apply aD rfl|apply aF rfl);(focus ((try (apply bI;(focus rfl);apply ag rfl rfl rfl rfl rfl));first|((apply aZ 13;(focus rfl);exact Bz ⟨rfl,rfl,rfl⟩ rfl inferInstance inferInstance inferInstance rfl rfl rfl ab HJ))));refine aq c1 ?_))
   refine⟨(z+1,acc++[⟨(z:Int)+1,L⟩]),⟨aA,bn,by simp only;rw[V9];exact h3⟩,aA,?_⟩
   exact ae
 ·have h3':acc=Q:=by rw[←h3,Wv ab];simp[bx]
  clear hOf hstep HP HB HE h3
  (refine w0 ?_;repeat' first|apply ah|refine ai fun hc=>?_)
  refine dw ?_
  exact cJ rfl rfl rfl h3'
theorem RE (cOf:List Rn→List Rn)(s:List Kn)(hs:dx s)(hOf:∀l∈cS s,Fn prog 258 [gQ l] (.own 144 2 ((cOf l).map rnP))) :
 Fn prog 219 [fd s] (.own 142 2 ((gH cOf s).map zh)):=by
 have h1:=Gf s hs
 have h2:=P3 cOf (cS s) (bW s) hOf
 refine fi func219 ntmps219 ?_
 (refine bg h1 h2 ?_)
 exact nx
theorem L5 (x y:Kn)(hx:x.runs.length≤1000000000):dh prog 220 [Vg x,Vg y] [] (bC (decide (x=y))) []:=by
 have h1:=Et x.runs y.runs hx
 have hE:x=y↔x.rep=y.rep∧x.runs=y.runs:=by cases x;cases y;simp
 obtain⟨r,l⟩:=x
 obtain⟨r',l'⟩:=y
 simp only at h1 hE hx
 show dh prog _ [.per (cB [ak (.int .i64 r),mN l]),.per (cB [ak (.int .i64 r'),mN l'])] [] _ []
 by_cases e1:r=r'
 ·by_cases e2:l=l'
  ·rw[Wb (hE.2 ⟨e1,e2⟩)]
   rw[Wb e2]at h1
   clear hE e2
   refine dH func220 ntmps220 ?_
   (refine aq h1 ?_;repeat' first|apply ah|refine ai fun hc=>?_)
   (refine⟨(by first|exact .inl rfl|exact .inr rfl),gq [] rfl rfl .nil ?_⟩)
   exact iP rfl (by first|rfl|(simp[e1];done))
  ·rw[Wj (fun h=>e2 (hE.1 h).2)]
   rw[Wj e2]at h1
   clear hE e2
   refine dH func220 ntmps220 ?_
   (refine aq h1 ?_;repeat' first|apply ah|refine ai fun hc=>?_)
   (refine⟨(by first|exact .inl rfl|exact .inr rfl),gq [] rfl rfl .nil ?_⟩)
   exact iP rfl (by first|rfl|(simp[e1];done))
 ·rw[Wj (fun h=>e1 (hE.1 h).1)]
  clear hE
  refine dH func220 ntmps220 ?_
  (refine aq h1 ?_;repeat' first|apply ah|refine ai fun hc=>?_)
  (refine⟨(by first|exact .inl rfl|exact .inr rfl),gq [] rfl rfl .nil ?_⟩)
  exact iP rfl (by first|rfl|(simp[e1];done))
abbrev T8:Cnt:=.per (ak (.func (.func 220) #[] #[]))
theorem uT (l m:List Kn)(hl:lR l):Fn prog 218 [fd l,fd m,T8] (dq (decide (l=m))):=by
 have hl0:=hl.1
 refine fi func218 ntmps218 ?_
 (refine w0 ?_;repeat' first|apply ah|refine ai fun hc=>?_)
 ·refine dw ?_
  exact aL rfl (by symm;rw[Wt];intro h;subst h;omega)
 have hlm:l.length=m.length:=ab
 refine aj (fun k=>k≤l.length∧l.take k=m.take k) (fun k=>ay [(1,fd m),(2,T8),(15,fd l),(16,iC .i64 (l.length:Nat)),(17,iC .i64 (k:Nat))] []) (fun k=>l.length-k) 0 ⟨Wa _,rfl⟩ ?_
 rintro k ⟨hk,hpre⟩
 by_cases hlt:k<l.length
 ·have hltm:k<m.length:=ab
  have c1:=L5 l[k] m[k] (hl.at hlt)
  by_cases he:l[k]=m[k]
  ·rw[Wb he]at c1
   (refine w0 ?_;repeat' first|apply ah|refine ai fun hc=>?_|((first|apply aB rfl|apply aC rfl|apply aD rfl|apply aF rfl);(focus ((try (apply bI;(focus rfl);apply ag rfl rfl rfl rfl rfl));first|(exact Lj [] c1)));refine w0 ?_))
   refine⟨k+1,⟨ab,?_⟩,ab,?_⟩
   ·rw[bc l k hlt,bc m k hltm,hpre,he]
   ·exact ae
  ·rw[Wj he]at c1
   have hd:¬l=m:=fun h=>he (by subst h;rfl)
   rw[Wj hd]
   clear hd he
   (refine w0 ?_;repeat' first|apply ah|refine ai fun hc=>?_|((first|apply aB rfl|apply aC rfl|apply aD rfl|apply aF rfl);(focus ((try (apply bI;(focus rfl);apply ag rfl rfl rfl rfl rfl));first|(exact Lj [] c1)));refine w0 ?_))
   exact dp
 ·rw[Wd ab,Wd ab]at hpre
  rw[Wb hpre]
  clear hpre
  (refine w0 ?_;repeat' first|apply ah|refine ai fun hc=>?_)
  exact dp
theorem Gg (a b A B:List Kn)(hA:Fn prog 219 [fd a] (.own 142 2 (A.map zh)))(hB:Fn prog 219 [fd b] (.own 142 2 (B.map zh)))(hsz:lR A) :
 Fn prog 149 [fd a,fd b] (dq (decide (A=B))):=by
 have h1:=uT A B hsz
 refine fi func149 ntmps149 ?_
 (refine jP h1 hA hB ?_)
 exact dp
theorem Eu {l:List Kn}{k:Kn}(h:cu (l++[k])):cu l:=fun i hi hi'=>by
 have h1:=h i bn bn
 have e1:(l++[k])[i]'(bn)=l[i]:=List.getElem_append_left hi
 rw[e1]at h1
 refine⟨h1.1,h1.2.1,h1.2.2.1,h1.2.2.2.1,fun q=>?_⟩
 have:=h1.2.2.2.2 q
 rw[List.getElem_append_left ab]at this
 exact this
theorem Ev {l:List Kn}{k:Kn}(h:cu (l++[k])):∀(d i:Nat)(hi:i<l.length)(_:i+d+1=l.length),l[i].rep<k.rep:=by
 intro d
 induction d with
 | zero=>
  intro i hi hd
  have:=(h (i+1) bn bn).2.2.2.2 ab
  simp only[WD]at this
  rw[List.getElem_append_left hi,List.getElem_append_right ab]at this
  simpa using this
 | succ d ihd=>
  intro i hi hd
  have:=(h (i+1) bn bn).2.2.2.2 ab
  simp only[WD]at this
  rw[List.getElem_append_left hi,List.getElem_append_left ab]at this
  have:=ihd (i+1) ab ab
  omega
theorem Ew {l:List Kn}{r:Nat}(h:∀x∈l,x.rep≠(r:Int)+1):bh l r=[]:=by
 unfold bh
 rw[List.flatMap_eq_nil_iff]
 intro x hx
 rw[V3 (h x hx)]
theorem mP:∀(T:List (List Rn)) (i:Nat),(∀l∈T,l=[])→bx id i T=[]:=by
 intro T
 induction T with
 | nil=>intro i _;rfl
 | cons l T ih=>
  intro i h
  have:=h l WG
  subst this
  rw[bx,ih _ (fun l hl=>h l (Ww _ hl))]
  rfl
theorem uU (s:List Kn)(h:cu s):gH id s=s:=by
 induction s using BR with
 | h0=>exact mP _ _ (fun l hl=>by
  obtain⟨r,_,rfl⟩:=List.mem_map.1 hl
  rfl)
 | h1 l k ih=>
  have hl:=Eu h
  have ih:=ih hl
  obtain⟨a1,a2,a3,a4⟩:=iE h (i:=l.length) au
  rw[show(l++[k])[l.length]'(au)=k by simp]at a1 a2 a3 a4
  obtain⟨r,hr⟩:∃r:Nat,k.rep=(r:Int)+1:=⟨(k.rep-1).toNat,ab⟩
  have hlt:∀x∈l,x.rep<k.rep:=fun x hx=>by
   obtain⟨i,hi,rfl⟩:=List.getElem_of_mem hx
   exact Ev h (l.length-1-i) i hi ab
  have hn:∀j,r≤j→bh l j=[]:=fun j hj=>Ew (fun x hx=>by have:=hlt x hx;omega)
  have hr16:r<16:=ab
  unfold gH at ih ⊢
  rw[B4 l k hr16 hr,hn r (V8 _),Wu]
  have hsp:cS l=(cS l).take r++([]::(cS l).drop (r+1)):=by
   have hg:=cG l hr16
   rw[hn r (V8 _)]at hg
   obtain⟨hlen,hg⟩:=Ws.1 hg
   conv=>lhs;rw[←WL r (cS l),List.drop_eq_getElem_cons hlen,hg]
  have hlen:((cS l).take r).length=r:=by rw[WA,bW];omega
  have hnil:∀x∈(cS l).drop (r+1),x=[]:=fun x hx=>by
   obtain⟨i,hi,rfl⟩:=List.getElem_of_mem hx
   rw[List.getElem_drop]
   have hi':r+1+i<16:=by rw[Xb,bW]at hi;omega
   have:=cG l hi'
   obtain⟨_,hg⟩:=Ws.1 this
   rw[hg];exact hn _ ab
  rw[hsp,sE,hlen]at ih
  rw[bx,mP _ _ hnil]at ih
  rw[List.set_eq_take_append_cons_drop,V6 (by rw[bW];exact hr16),sE,hlen,bx,mP _ _ hnil,WF]
  rw[show(if(id ([]:List Rn)).length=0 then([]:List Kn)else [⟨((0+r:Nat):Int)+1,id []⟩])=[]from rfl,Wg,Wg]at ih
  rw[ih,V3 (by simpa using a3),Wg]
  congr 1
  rw[show id k.runs=k.runs from rfl,←hr]
theorem nI (s:List Kn)(hs:dx s)(h:cu s):Fn prog 219 [fd s] (.own 142 2 (s.map zh)):=by
 have h1:=RE id s hs (fun l hl=>by
  have hok:=xI h l hl
  obtain⟨r,_,rfl⟩:=List.mem_map.1 hl
  exact xK _ (by have:=iG s r;have:=hs.2;omega) hok)
 rw[uU s h]at h1
 exact h1
theorem pK (a b:List Kn)(ha:dx a)(hb:dx b)(h:cu a)(h':cu b):Fn prog 149 [fd a,fd b] (dq (decide (a=b))):=
 Gg a b a b (nI a ha h) (nI b hb h') ha.sz
end Go.Proofs.YtaclhhkblbacgaaGreat
