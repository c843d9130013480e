/- Texts joined: SymS. -/
import Derived.Test.YtaclhhkblbacgaaGreatJ33
set_option maxRecDepth 10000
set_option maxHeartbeats 8000000
namespace Go.Proofs.YtaclhhkblbacgaaGreat
open Go.RowKit Go.Proofs.Tryz
def gY (l:List Snt):List Snt:=dI cL l
theorem Fr (l:List Snt):gY l=dI cL l:=rfl
theorem kP (l:List Snt):(gY l).length=l.length:=jY l
theorem zY {x y:Snt}:cL x y=true↔sL x y<0:=by unfold cL;exact XD
theorem zZ {x y:Snt}:cL x y=false↔¬sL x y<0:=by unfold cL;exact Wt
theorem tP {l:List Snt}(h:lg cL l):gY l=l:=jD ef h
theorem qZ (l:List Snt):lg cL (gY l):=(dD ef l).1
theorem q0 (l:List Snt):im cL l (gY l):=(dD ef l).2
theorem Q0 {M N:List Snt}(h1:lg cL N)(h2:im cL M N):gY M=N:=qH ef h1 h2
theorem ig {l r:List Snt}(h:mh r)(hs:∀x∈l,x∈r):mh l:=fun x hx=>h x (hs x hx)
theorem vY (A X B Y Z:List Snt)(a b n:Int)(ha:a=(A.length:Nat))(hb:b=((A.length+X.length+B.length:Nat):Int))(hn:n=(X.length:Nat))(hxy:X.length=Y.length)(hl:A.length+X.length+B.length+Y.length+Z.length≤1000000000) :
 dh prog 363 [.row 1000 0,iC .i64 a,iC .i64 b,iC .i64 n,jp] [(1000,em (A++X++B++Y++Z))] .any [(1000,em (A++Y++B++X++Z))]:=by
 subst ha hb hn
 generalize hR:A++Y++B++X++Z=R
 refine dH func363 ntmps363 ?_
 (refine w0 ?_)
 refine bZ (X:=List Snt×List Snt×List Snt×List Snt) (fun x=>x.1.length+x.2.1.length=X.length∧x.1.length=x.2.2.1.length∧x.2.1.length=x.2.2.2.length∧A++(x.2.2.1++x.2.2.2)++B++(x.1++x.2.1)++Z=R)
  (fun x=>ay [(0,.row 1000 0),(1,iC .i64 (A.length:Nat)),(2,iC .i64 ((A.length+X.length+B.length:Nat):Int)),(3,iC .i64 (X.length:Nat)),(10,iC .i64 (x.1.length:Nat))] [(1000,em (A++x.2.2.1++(x.2.1++(B++(x.1++(x.2.2.2++Z))))))]) (fun x=>x.2.1.length) ([],X,[],Y) ⟨au,rfl,hxy,by simpa using hR⟩ ?_ ?_
 ·have e:A++[]++(X++(B++([]++(Y++Z))))=A++X++B++Y++Z:=au
  rw[e]
  exact ae
 ·rintro⟨x1,x2,y1,y2⟩ ⟨h1,h2,h3,h4⟩
  simp only at h1 h2 h3 h4 ⊢
  cases x2 with
  | nil=>
   have hy2:y2=[]:=Wf (by simpa using h3.symm)
   subst hy2
   have hi:x1.length=X.length:=by simpa using h1
   have e:A++y1++([]++(B++(x1++([]++Z))))=R:=by rw[←h4];simp
   rw[e,hi]
   (refine w0 ?_;repeat' first|apply ah|refine ai fun hc=>?_)
   exact j3
  | cons x x2=>
   obtain⟨y,y2,rfl⟩:∃y y2',y2=y::y2':=by
    cases y2 with
    | nil=>simp at h3
    | cons y y2=>exact⟨y,y2,rfl⟩
   simp only[Wh]at h1 h3
   obtain⟨i,hi⟩:∃i,x1.length=i:=⟨_,rfl⟩
   obtain⟨a,ha⟩:∃a,A.length=a:=⟨_,rfl⟩
   obtain⟨b,hb⟩:∃b,A.length+X.length+B.length=b:=⟨_,rfl⟩
   obtain⟨q,hq⟩:∃q,X.length=q:=⟨_,rfl⟩
   generalize hD:A++y1++(x::x2++(B++(x1++(y::y2++Z))))=D
   have hlen:D.length=A.length+X.length+B.length+Y.length+Z.length:=by
    rw[←hD];simp;omega
   have HA:(D.map sntP)[((a:Int)+(i:Int)).toNat]?=some (sntP x):=by
    rw[List.getElem?_map,←hD,show A++y1++(x::x2++(B++(x1++(y::y2++Z))))=(A++y1)++x::(x2++(B++(x1++(y::y2++Z))))by simp,bT _ _ _ _ bn];rfl
   have HB:(D.map sntP)[((b:Int)+(i:Int)).toNat]?=some (sntP y):=by
    rw[List.getElem?_map,←hD,show A++y1++(x::x2++(B++(x1++(y::y2++Z))))=(A++y1++x::x2++B++x1)++y::(y2++Z)by simp,bT _ _ _ _ bn];rfl
   have HS1:(D.map sntP).set ((a:Int)+(i:Int)).toNat (cH (sntP x) 0 (sntP y))=(A++y1++y::(x2++(B++(x1++(y::y2++Z))))).map sntP:=by
    rw[show(D.map sntP).set ((a:Int)+(i:Int)).toNat (cH (sntP x) 0 (sntP y))=(D.set ((a:Int)+(i:Int)).toNat y).map sntP from cg sntP _ _ _,←hD,show A++y1++(x::x2++(B++(x1++(y::y2++Z))))=(A++y1)++x::(x2++(B++(x1++(y::y2++Z))))by simp,fk _ _ _ _ _ bn]
   generalize hD1:A++y1++y::(x2++(B++(x1++(y::y2++Z))))=D1 at HS1
   have hlen1:D1.length=D.length:=by rw[hlen,←hD1];simp;omega
   have HB1:(D1.map sntP)[((b:Int)+(i:Int)).toNat]?=some (sntP y):=by
    rw[List.getElem?_map,←hD1,show A++y1++y::(x2++(B++(x1++(y::y2++Z))))=(A++y1++y::x2++B++x1)++y::(y2++Z)by simp,bT _ _ _ _ bn];rfl
   have HS2:(D1.map sntP).set ((b:Int)+(i:Int)).toNat (cH (sntP y) 0 (sntP x))=(A++(y1++[y])++(x2++(B++(x1++[x]++(y2++Z))))).map sntP:=by
    rw[show(D1.map sntP).set ((b:Int)+(i:Int)).toNat (cH (sntP y) 0 (sntP x))=(D1.set ((b:Int)+(i:Int)).toNat x).map sntP from cg sntP _ _ _,←hD1,show A++y1++y::(x2++(B++(x1++(y::y2++Z))))=(A++y1++y::x2++B++x1)++y::(y2++Z)by simp,fk _ _ _ _ _ bn]
    simp
   rw[hi,hb,ha,hq]
   (refine w0 ?_;repeat' first|apply ah|refine ai fun hc=>?_|((first|apply aB rfl|apply aC rfl|apply aD rfl|apply aF rfl);(focus ((try (apply bI;(focus rfl);apply ag rfl rfl rfl rfl rfl));first|((apply aZ 5;(focus rfl);first|exact ax ⟨rfl,rfl,rfl⟩ rfl inferInstance inferInstance rfl rfl rfl HA rfl rfl rfl|exact ax ⟨rfl,rfl,rfl⟩ rfl inferInstance inferInstance rfl rfl rfl HB rfl rfl rfl))|((apply aZ 6;(focus rfl);first|exact aM ⟨rfl,rfl⟩ rfl inferInstance rfl rfl rfl rfl HA rfl (.inl rfl) rfl HS1|exact aM ⟨rfl,rfl⟩ rfl inferInstance rfl rfl rfl rfl HB1 rfl (.inl rfl) rfl HS2))));refine w0 ?_))
   refine⟨(x1++[x],x2,y1++[y],y2),⟨bn,bn,aA,by rw[←h4];simp⟩,au,?_⟩
   simp only[V5,Wh,List.length_nil,hi]
   exact ae
theorem Q1 (A U V Z:List Snt)(a m b:Int)(ha:a=(A.length:Nat))(hm:m=((A.length+U.length:Nat):Int))(hb:b=((A.length+U.length+V.length:Nat):Int))(hU:0<U.length)(hV:0<V.length)(hl:A.length+U.length+V.length+Z.length≤1000000000) :
 dh prog 362 [.row 1000 0,iC .i64 a,iC .i64 m,iC .i64 b,jp] [(1000,em (A++U++V++Z))] .any [(1000,em (A++V++U++Z))]:=by
 generalize hR:A++V++U++Z=R
 obtain⟨k,hk⟩:∃k:Nat,A.length+U.length=k:=⟨_,rfl⟩
 obtain⟨u,hu⟩:∃u:Nat,U.length=u:=⟨_,rfl⟩
 obtain⟨v,hv⟩:∃v:Nat,V.length=v:=⟨_,rfl⟩
 rw[hk]at hm hb
 have ea:m-a=(u:Nat):=ab
 have eb:b-m=(v:Nat):=ab
 subst hm
 refine dH func362 ntmps362 ?_
 (refine rE ea eb ?_)
 refine bZ (X:=List Snt×List Snt×List Snt×List Snt) (fun x=>x.1.length+x.2.1.length=k∧0<x.2.1.length∧0<x.2.2.1.length∧x.1.length+x.2.1.length+x.2.2.1.length+x.2.2.2.length≤1000000000∧x.1++x.2.2.1++x.2.1++x.2.2.2=R)
  (fun x=>ay [(0,.row 1000 0),(2,iC .i64 (k:Nat)),(4,jp),(10,iC .i64 (x.2.1.length:Nat)),(11,iC .i64 (x.2.2.1.length:Nat))] [(1000,em (x.1++x.2.1++x.2.2.1++x.2.2.2))]) (fun x=>x.2.1.length+x.2.2.1.length) (A,U,V,Z) ⟨aA,hU,hV,hl,hR⟩ ?_ ?_
 ·rw[hu,hv]
  exact ae
 ·rintro⟨A,U,V,Z⟩ ⟨h1,h2,h3,h4,h5⟩
  simp only at h1 h2 h3 h4 h5 ⊢
  clear hR hu hv ea eb hk ha hb hl hU hV
  obtain⟨i,hi⟩:∃i:Nat,U.length=i:=⟨_,rfl⟩
  obtain⟨j,hj⟩:∃j:Nat,V.length=j:=⟨_,rfl⟩
  rcases XA i j with hij|hij|hij
  ·obtain⟨B,Y,rfl,hB⟩:=ff V (j-i) ab
   have hy:Y.length=i:=by simp at hj;omega
   have h:=vY A U B Y Z ((k:Int)-(i:Int)) ((k:Int)+(j:Int)-(i:Int)) (i:Int) ab ab ab ab (by simp at h4;omega)
   rw[show A++U++(B++Y)++Z=A++U++B++Y++Z by simp,hi,hj]
   (refine fP (fD h) ?_;repeat' first|apply ah|refine ai fun hc=>?_)
   have hji:((B.length:Nat):Int)=(j:Int)-(i:Int):=ab
   refine⟨(A,Y,B,U++Z),⟨aA,aA,aA,by simp at h4 ⊢;omega,by rw[←h5];simp⟩,aA,?_⟩
   have e:A++Y++B++(U++Z)=A++Y++B++U++Z:=au
   simp only[e,hy,hji]
   exact ae
  ·subst hij
   have h:=vY A U [] V Z ((k:Int)-(i:Int)) (k:Int) (i:Int) ab bn ab ab bn
   rw[Wg,Wg,h5]at h
   rw[hi,hj]
   (refine fP (fD h) ?_;repeat' first|apply ah|refine ai fun hc=>?_)
   exact j3
  ·obtain⟨X,B,rfl,hX⟩:=ff U j ab
   have hB:B.length=i-j:=by simp at hi;omega
   have h:=vY A X B V Z ((k:Int)-(i:Int)) (k:Int) (j:Int) (by simp at h1 hi;omega) (by simp at h1;omega) ab ab (by simp at h4;omega)
   rw[show A++(X++B)++V++Z=A++X++B++V++Z by simp,hi,hj]
   (refine fP (fD h) ?_;repeat' first|apply ah|refine ai fun hc=>?_)
   have hji:((B.length:Nat):Int)=(i:Int)-(j:Int):=ab
   refine⟨(A++V,B,X,Z),⟨by simp at h1 ⊢;omega,aA,aA,by simp at h4 ⊢;omega,by rw[←h5];simp⟩,aA,?_⟩
   simp only[hX,hji]
   exact ae
abbrev Kb (a m b:Int)(D D':List Snt):Prop:=dh prog 360 [.row 1000 0,iC .i64 a,iC .i64 m,iC .i64 b,jp] [(1000,em D)] .any [(1000,em D')]
theorem Q2 (A:List Snt)(x:Snt)(R Z:List Snt)(a m b:Int)(ha:a=(A.length:Nat))(hm:m=((A.length+1:Nat):Int))(hb:b=((A.length+1+R.length:Nat):Int))(hR:lg cL R)(hkx:pu x)(hkR:mh R)(hl:A.length+1+R.length+Z.length≤1000000000) :
 Kb a m b (A++[x]++R++Z) (A++gY ([x]++R)++Z):=by
 obtain⟨ka,hka⟩:∃k:Nat,A.length=k:=⟨_,rfl⟩
 obtain⟨kb,hkb⟩:∃k:Nat,ka+1+R.length=k:=⟨_,rfl⟩
 rw[hka]at ha hm hb
 rw[hkb]at hb
 subst ha hm hb
 obtain⟨Q,hQ⟩:∃Q,Q=A++gY ([x]++R)++Z:=⟨_,rfl⟩
 have hfin:∀R1 R2,R=R1++R2→(∀y,R1.getLast?=some y→cL y x=true)→(∀y,R2.head?=some y→cL y x=false)→Q=A++R1++x::(R2++Z):=by
  rintro R1 R2 rfl h1 h2
  have hs:=List.pairwise_append.1 hR
  have hc:=iH ef (L1:=[]) (L2:=[x]) (R1:=R1) (R2:=R2) (Xe _ _) hR (fun _ _ h=>by cases h) (fun u v hu hv=>by simp at hv;subst hv;exact h1 u hu)
  have e2:dI cL ([x]++R2)=[x]++R2:=jD ef (List.pairwise_cons.2 ⟨fun y hy=>by
   cases R2 with
   | nil=>simp at hy
   | cons z R2=>
    have h0:=h2 z rfl
    rcases Wp.1 hy with e|e
    ·subst e;exact h0
    ·exact ef.ntr y z x ((List.pairwise_cons.1 hs.2.1).1 y e) h0,hs.2.1⟩)
  rw[hQ,Fr,show [x]++(R1++R2)=([]++[x])++(R1++R2)by simp,hc,e2,show dI cL ([]++R1)=R1 from jD ef hs.1]
  simp
 rw[←hQ]
 unfold Kb
 generalize hD:A++[x]++R++Z=D
 have hDl:D.length=kb+Z.length:=by rw[←hD];simp;omega
 have hkD:∀i (h:i<D.length),ka≤i→i<kb→pu (D[i]'h):=by
  intro i h h1 h2
  have:D[i]'h∈[x]++R:=by
   have e:D[i]?=(([x]++R)++Z)[i-ka]?:=by rw[←hD,show A++[x]++R++Z=A++([x]++R++Z)by simp,List.getElem?_append_right ab,hka]
   rw[Wl bn,V4 h]at e
   exact WK e.symm
  rcases Wz.1 this with q|q
  ·simp at q;rw[q];exact hkx
  ·exact hkR _ q
 have HX:D[ka]?=some x:=by rw[←hD,show A++[x]++R++Z=A++x::(R++Z)by simp,bT _ _ _ _ hka.symm]
 have HXm:(D.map sntP)[ka]?=some (sntP x):=by rw[List.getElem?_map,HX];rfl
 refine dH func360 ntmps360 ?_
 (refine w0 ?_;repeat' first|apply ah|refine ai fun hc=>?_)
 refine aj (X:=Nat×Nat) (fun y=>ka+1≤y.1∧y.1≤y.2∧y.2≤kb∧(∀z,ka+1<y.1→D[y.1-1]?=some z→cL z x=true)∧(∀z,y.2<kb→D[y.2]?=some z→cL z x=false))
  (fun y=>ay [(0,.row 1000 0),(1,iC .i64 (ka:Nat)),(4,jp),(10,iC .i64 (y.1:Nat)),(11,iC .i64 (y.2:Nat))] [(1000,em D)]) (fun y=>y.2-y.1) (ka+1,kb) ⟨V8 _,aA,V8 _,fun z h=>by simp at h,fun z h=>by simp at h⟩ ?_
 rintro⟨i,j⟩ ⟨h1,h2,h3,h4,h5⟩
 simp only at h1 h2 h3 h4 h5 ⊢
 by_cases hij:i<j
 ·obtain⟨h,hh⟩:∃h:Nat,((i:Int)+(j:Int)) / 2=(h:Nat):=⟨(i+j) / 2,ab⟩
  have hih:i≤h:=ab
  have hhj:h<j:=ab
  have hlt:h<D.length:=ab
  have hmm:=qY D[h] x (hkD h hlt ab ab) hkx
  have HJ:(D.map sntP)[h]?=some (sntP D[h]):=by rw[List.getElem?_map,V4 hlt];rfl
  (refine nD hh ?_;repeat' first|apply ah|refine ai fun hc=>?_|((first|apply aB rfl|apply aC rfl|apply aD rfl|apply aF rfl);(focus ((try (apply bI;(focus rfl);apply ag rfl rfl rfl rfl rfl));first|((apply aZ 5;(focus rfl);exact ax ⟨rfl,rfl,rfl⟩ rfl inferInstance inferInstance rfl rfl rfl HJ rfl rfl rfl))|((apply aZ 5;(focus rfl);exact ax ⟨rfl,rfl,rfl⟩ rfl inferInstance inferInstance rfl rfl rfl HXm rfl rfl rfl))|(exact GK [] hmm)));refine nD hh ?_))
  ·refine⟨(h+1,j),⟨aA,aA,h3,fun z _ hz=>?_,h5⟩,aA,?_⟩
   ·simp only[WD]at hz
    rw[V4 hlt]at hz;cases hz
    rw[zY];assumption
   ·exact ae
  ·refine⟨(i,h),⟨h1,hih,aA,h4,fun z _ hz=>?_⟩,aA,?_⟩
   ·simp only at hz
    rw[V4 hlt]at hz;cases hz
    rw[zZ];assumption
   ·exact ae
 ·have hij':j=i:=ab
  subst hij'
  obtain⟨R1,R2,rfl,hR1⟩:=ff R (j-(ka+1)) ab
  have hq:=hfin R1 R2 rfl (fun y hy=>?_) (fun y hy=>?_)
  ·have hD':A++[x]++R1++(R2++Z)=D:=by rw[←hD];simp
   clear h4 h5 hfin hR hkR HX HXm hkD
   subst hq
   (refine w0 ?_;repeat' first|apply ah|refine ai fun hc=>?_)
   refine bZ (X:=List Snt×List Snt) (fun y=>y.1++y.2=R1)
    (fun y=>ay [(0,.row 1000 0),(10,iC .i64 (j:Nat)),(13,iC .i64 ((ka+y.1.length:Nat):Int))] [(1000,em (A++y.1++x::(y.2++(R2++Z))))]) (fun y=>y.2.length) ([],R1) rfl ?_ ?_
   ·rw[←hD']
    have e:A++[x]++R1++(R2++Z)=A++[]++x::(R1++(R2++Z)):=au
    rw[e]
    exact ae
   ·rintro⟨p,q⟩ hpq
    simp only at hpq ⊢
    obtain⟨k,hk⟩:∃k,ka+p.length=k:=⟨_,rfl⟩
    have hln:p.length+q.length=R1.length:=by rw[←hpq];simp
    rw[hk]
    cases q with
    | nil=>
     have hp:p=R1:=by simpa using hpq
     subst hp
     simp at hln
     (refine w0 ?_;repeat' first|apply ah|refine ai fun hc=>?_)
     exact j3
    | cons y q=>
     simp at hln
     generalize hE:A++p++x::(y::q++(R2++Z))=E
     have hEl:k+1<E.length:=by rw[←hE];simp;omega
     have H0:(E.map sntP)[k]?=some (sntP x):=by
      rw[List.getElem?_map,←hE,bT _ _ _ _ bn];rfl
     have H1:(E.map sntP)[k+1]?=some (sntP y):=by
      rw[List.getElem?_map,←hE,show A++p++x::(y::q++(R2++Z))=(A++p++[x])++y::(q++(R2++Z))by simp,bT _ _ _ _ bn];rfl
     have S0:(E.map sntP).set k (cH (sntP x) 0 (sntP y))=(A++p++y::(y::q++(R2++Z))).map sntP:=by
      rw[show(E.map sntP).set k (cH (sntP x) 0 (sntP y))=(E.set k y).map sntP from cg sntP _ _ _,←hE,fk _ _ _ _ _ bn]
     generalize hE1:A++p++y::(y::q++(R2++Z))=E1 at S0
     have hEl1:k+1<E1.length:=by rw[←hE1];simp;omega
     have H2:(E1.map sntP)[k+1]?=some (sntP y):=by
      rw[List.getElem?_map,←hE1,show A++p++y::(y::q++(R2++Z))=(A++p++[y])++y::(q++(R2++Z))by simp,bT _ _ _ _ bn];rfl
     have S1:(E1.map sntP).set (k+1) (cH (sntP y) 0 (sntP x))=(A++(p++[y])++x::(q++(R2++Z))).map sntP:=by
      rw[show(E1.map sntP).set (k+1) (cH (sntP y) 0 (sntP x))=(E1.set (k+1) x).map sntP from cg sntP _ _ _,←hE1,show A++p++y::(y::q++(R2++Z))=(A++p++[y])++y::(q++(R2++Z))by simp,fk _ _ _ _ _ bn]
      simp
     (refine w0 ?_;repeat' first|apply ah|refine ai fun hc=>?_|((first|apply aB rfl|apply aC rfl|apply aD rfl|apply aF rfl);(focus ((try (apply bI;(focus rfl);apply ag rfl rfl rfl rfl rfl));first|((apply aZ 5;(focus rfl);exact ax ⟨rfl,rfl,rfl⟩ rfl inferInstance inferInstance rfl rfl rfl H0 rfl rfl rfl))|((apply aZ 5;(focus rfl);exact ax ⟨rfl,rfl,rfl⟩ rfl inferInstance inferInstance rfl rfl rfl H1 rfl rfl rfl))|((apply aZ 6;(focus rfl);exact aM ⟨rfl,rfl⟩ rfl inferInstance rfl rfl rfl rfl H0 rfl (.inl rfl) rfl S0))|((apply aZ 6;(focus rfl);exact aM ⟨rfl,rfl⟩ rfl inferInstance rfl rfl rfl rfl H2 rfl (.inl rfl) rfl S1))));refine w0 ?_))
     refine⟨(p++[y],q),by simpa using hpq,au,?_⟩
     have ek:((ka+(p++[y]).length:Nat):Int)=(k:Int)+1:=bn
     simp only[ek]
     exact ae
  ·obtain⟨R1',rfl⟩:=jG hy
   simp at hR1
   refine h4 y ab ?_
   rw[←hD,show A++[x]++(R1'++[y]++R2)++Z=(A++[x]++R1')++y::(R2++Z)by simp,bT _ _ _ _ bn]
  ·obtain⟨R2',rfl⟩:=lj hy
   simp at hkb
   refine h5 y ab ?_
   rw[←hD,show A++[x]++(R1++y::R2')++Z=(A++[x]++R1)++y::(R2'++Z)by simp,bT _ _ _ _ bn]
theorem N7 (A L:List Snt)(y:Snt)(Z:List Snt)(a m b:Int)(ha:a=(A.length:Nat))(hm:m=((A.length+L.length:Nat):Int))(hb:b=((A.length+L.length+1:Nat):Int))(h1L:L.length≠1)(hL:lg cL L)(hkL:mh L)(hky:pu y)(hl:A.length+L.length+1+Z.length≤1000000000) :
 Kb a m b (A++L++[y]++Z) (A++gY (L++[y])++Z):=by
 obtain⟨ka,hka⟩:∃k:Nat,A.length=k:=⟨_,rfl⟩
 obtain⟨km,hkm⟩:∃k:Nat,ka+L.length=k:=⟨_,rfl⟩
 rw[hka]at ha hm hb
 rw[hkm]at hm hb
 subst ha hm hb
 obtain⟨Q,hQ⟩:∃Q,Q=A++gY (L++[y])++Z:=⟨_,rfl⟩
 have hfin:∀L1 L2,L=L1++L2→(∀x,L1.getLast?=some x→cL y x=false)→(∀x,L2.head?=some x→cL y x=true)→Q=A++L1++y::(L2++Z):=by
  rintro L1 L2 rfl h1 h2
  have hs:=List.pairwise_append.1 hL
  have hc:=iH ef (L1:=L1) (L2:=L2) (R1:=[y]) (R2:=[]) hL (Xe _ _) (fun _ _ _ h=>by cases h) (fun u v hu hv=>by simp at hu;subst hu;exact h2 v hv)
  have e2:dI cL (L1++[y])=L1++[y]:=jD ef (List.pairwise_append.2 ⟨hs.1,Xe _ _,fun a ha b hb=>by
   simp at hb;subst hb
   obtain⟨z,hz⟩:∃z,L1.getLast?=some z:=by
    cases hg:L1.getLast? with
    | some z=>exact⟨z,rfl⟩
    | none=>rw[List.getLast?_eq_none_iff]at hg;subst hg;simp at ha
   have h0:=h1 z hz
   obtain⟨l',rfl⟩:=jG hz
   rcases Wz.1 ha with e|e
   ·exact ef.ntr b z a h0 ((List.pairwise_append.1 hs.1).2.2 a e z au)
   ·simp at e;subst e;exact h0⟩)
  rw[hQ,Fr,show(L1++L2)++[y]=(L1++L2)++([y]++[])by simp,hc,e2,show dI cL (L2++[])=L2 by rw[Wg];exact jD ef hs.2.1]
  simp
 rw[←hQ]
 unfold Kb
 generalize hD:A++L++[y]++Z=D
 have hDl:D.length=km+1+Z.length:=by rw[←hD];simp;omega
 have hkD:∀i (h:i<D.length),ka≤i→i<km→pu (D[i]'h):=by
  intro i h h1 h2
  have:D[i]'h∈L:=by
   have e:D[i]?=(L++([y]++Z))[i-ka]?:=by rw[←hD,show A++L++[y]++Z=A++(L++([y]++Z))by simp,List.getElem?_append_right ab,hka]
   rw[Wl ab,V4 h]at e
   exact WK e.symm
  exact hkL _ this
 have HY:D[km]?=some y:=by rw[←hD,show A++L++[y]++Z=(A++L)++y::Z by simp,bT _ _ _ _ bn]
 have HYm:(D.map sntP)[km]?=some (sntP y):=by rw[List.getElem?_map,HY];rfl
 refine dH func360 ntmps360 ?_
 (refine w0 ?_;repeat' first|apply ah|refine ai fun hc=>?_)
 refine aj (X:=Nat×Nat) (fun z=>ka≤z.1∧z.1≤z.2∧z.2≤km∧(∀x,ka<z.1→D[z.1-1]?=some x→cL y x=false)∧(∀x,z.2<km→D[z.2]?=some x→cL y x=true))
  (fun z=>ay [(0,.row 1000 0),(2,iC .i64 (km:Nat)),(4,jp),(14,iC .i64 (z.1:Nat)),(15,iC .i64 (z.2:Nat))] [(1000,em D)]) (fun y=>y.2-y.1) (ka,km) ⟨V8 _,aA,V8 _,fun z h=>by simp at h,fun z h=>by simp at h⟩ ?_
 rintro⟨i,j⟩ ⟨h1,h2,h3,h4,h5⟩
 simp only at h1 h2 h3 h4 h5 ⊢
 by_cases hij:i<j
 ·obtain⟨h,hh⟩:∃h:Nat,((i:Int)+(j:Int)) / 2=(h:Nat):=⟨(i+j) / 2,ab⟩
  have hih:i≤h:=ab
  have hhj:h<j:=ab
  have hlt:h<D.length:=ab
  have hmm:=qY y D[h] hky (hkD h hlt ab ab)
  have HJ:(D.map sntP)[h]?=some (sntP D[h]):=by rw[List.getElem?_map,V4 hlt];rfl
  (refine nD hh ?_;repeat' first|apply ah|refine ai fun hc=>?_|((first|apply aB rfl|apply aC rfl|apply aD rfl|apply aF rfl);(focus ((try (apply bI;(focus rfl);apply ag rfl rfl rfl rfl rfl));first|((apply aZ 5;(focus rfl);exact ax ⟨rfl,rfl,rfl⟩ rfl inferInstance inferInstance rfl rfl rfl HJ rfl rfl rfl))|((apply aZ 5;(focus rfl);exact ax ⟨rfl,rfl,rfl⟩ rfl inferInstance inferInstance rfl rfl rfl HYm rfl rfl rfl))|(exact GK [] hmm)));refine nD hh ?_))
  ·refine⟨(h+1,j),⟨aA,aA,h3,fun z _ hz=>?_,h5⟩,aA,?_⟩
   ·simp only[WD]at hz
    rw[V4 hlt]at hz;cases hz
    rw[zZ];assumption
   ·exact ae
  ·refine⟨(i,h),⟨h1,hih,aA,h4,fun z _ hz=>?_⟩,aA,?_⟩
   ·simp only at hz
    rw[V4 hlt]at hz;cases hz
    rw[zY];assumption
   ·exact ae
 ·have hij':j=i:=ab
  subst hij'
  obtain⟨L1,L2,rfl,hL1⟩:=ff L (j-ka) ab
  have hq:=hfin L1 L2 rfl (fun x hx=>?_) (fun x hx=>?_)
  ·have hD':A++L1++L2++y::Z=D:=by rw[←hD];simp
   have hlen:L1.length+L2.length=km-ka:=by simp at hkm;omega
   clear h4 h5 hfin hL HY HYm h1L
   subst hq
   (refine w0 ?_;repeat' first|apply ah|refine ai fun hc=>?_)
   refine bZ (X:=List Snt×List Snt) (fun z=>z.1++z.2=L2)
    (fun z=>ay [(0,.row 1000 0),(14,iC .i64 (j:Nat)),(17,iC .i64 ((j+z.1.length:Nat):Int))] [(1000,em (A++L1++z.1++y::(z.2++Z)))]) (fun z=>z.1.length) (L2,[]) au ?_ ?_
   ·rw[←hD']
    have e:((j+L2.length:Nat):Int)=(km:Int):=ab
    simp only[e,Wu]
    exact ae
   ·rintro⟨p,q⟩ hpq
    simp only at hpq ⊢
    have hln:p.length+q.length=L2.length:=by rw[←hpq];simp
    rcases fm p with rfl|⟨p,x,rfl⟩
    ·have hp:q=L2:=by simpa using hpq
     subst hp
     have e:((j+([]:List Snt).length:Nat):Int)=(j:Int):=au
     have e2:A++L1++[]++y::(q++Z)=A++L1++y::(q++Z):=au
     rw[e,e2]
     (refine w0 ?_;repeat' first|apply ah|refine ai fun hc=>?_)
     exact j3
    ·simp at hln
     obtain⟨k,hk⟩:∃k,j+p.length=k:=⟨_,rfl⟩
     have e:((j+(p++[x]).length:Nat):Int)=((k+1:Nat):Int):=bn
     rw[e]
     generalize hE:A++L1++(p++[x])++y::(q++Z)=E
     have hEl:k+1<E.length:=by rw[←hE];simp;omega
     have H0:(E.map sntP)[k]?=some (sntP x):=by
      rw[List.getElem?_map,←hE,show A++L1++(p++[x])++y::(q++Z)=(A++L1++p)++x::(y::(q++Z))by simp,bT _ _ _ _ bn];rfl
     have H1:(E.map sntP)[k+1]?=some (sntP y):=by
      rw[List.getElem?_map,←hE,bT _ _ _ _ bn];rfl
     have S1:(E.map sntP).set (k+1) (cH (sntP y) 0 (sntP x))=(A++L1++(p++[x])++x::(q++Z)).map sntP:=by
      rw[show(E.map sntP).set (k+1) (cH (sntP y) 0 (sntP x))=(E.set (k+1) x).map sntP from cg sntP _ _ _,←hE,fk _ _ _ _ _ bn]
     generalize hE1:A++L1++(p++[x])++x::(q++Z)=E1 at S1
     have hEl1:k+1<E1.length:=by rw[←hE1];simp;omega
     have H2:(E1.map sntP)[k]?=some (sntP x):=by
      rw[List.getElem?_map,←hE1,show A++L1++(p++[x])++x::(q++Z)=(A++L1++p)++x::(x::(q++Z))by simp,bT _ _ _ _ bn];rfl
     have S2:(E1.map sntP).set k (cH (sntP x) 0 (sntP y))=(A++L1++p++y::((x::q)++Z)).map sntP:=by
      rw[show(E1.map sntP).set k (cH (sntP x) 0 (sntP y))=(E1.set k y).map sntP from cg sntP _ _ _,←hE1,show A++L1++(p++[x])++x::(q++Z)=(A++L1++p)++x::(x::(q++Z))by simp,fk _ _ _ _ _ bn]
      simp
     (refine w0 ?_;repeat' first|apply ah|refine ai fun hc=>?_|((first|apply aB rfl|apply aC rfl|apply aD rfl|apply aF rfl);(focus ((try (apply bI;(focus rfl);apply ag rfl rfl rfl rfl rfl));first|((apply aZ 5;(focus rfl);exact ax ⟨rfl,rfl,rfl⟩ rfl inferInstance inferInstance rfl rfl rfl H0 rfl rfl rfl))|((apply aZ 5;(focus rfl);exact ax ⟨rfl,rfl,rfl⟩ rfl inferInstance inferInstance rfl rfl rfl H1 rfl rfl rfl))|((apply aZ 6;(focus rfl);exact aM ⟨rfl,rfl⟩ rfl inferInstance rfl rfl rfl rfl H1 rfl (.inl rfl) rfl S1))|((apply aZ 6;(focus rfl);exact aM ⟨rfl,rfl⟩ rfl inferInstance rfl rfl rfl rfl H2 rfl (.inl rfl) rfl S2))));refine w0 ?_))
     refine⟨(p,x::q),by simpa using hpq,au,?_⟩
     simp only[hk]
     exact ae
  ·obtain⟨L1',rfl⟩:=jG hx
   simp at hL1
   refine h4 x ab ?_
   rw[←hD,show A++(L1'++[x]++L2)++[y]++Z=(A++L1')++x::(L2++[y]++Z)by simp,bT _ _ _ _ bn]
  ·obtain⟨L2',rfl⟩:=lj hx
   simp at hkm
   refine h5 x ab ?_
   rw[←hD,show A++(L1++x::L2')++[y]++Z=(A++L1)++x::(L2'++[y]++Z)by simp,bT _ _ _ _ bn]
abbrev VG (a m b:Int)(D D':List Snt):Prop:=dh prog 362 [.row 1000 0,iC .i64 a,iC .i64 m,iC .i64 b,jp] [(1000,em D)] .any [(1000,em D')]
structure G6 (ka km kb mid st e:Nat)(D Q:List Snt):Prop where
 h:∃D2 D3,((st<km∧km<e∧VG (st:Nat) (km:Nat) (e:Nat) D D2)∨(¬(st<km∧km<e)∧D2=D))∧((ka<st∧st<mid∧Kb (ka:Nat) (st:Nat) (mid:Nat) D2 D3)∨(¬(ka<st∧st<mid)∧D3=D2))∧((mid<e∧e<kb∧Kb (mid:Nat) (e:Nat) (kb:Nat) D3 Q)∨(¬(mid<e∧e<kb)∧Q=D3))
theorem Jo (D:List Snt)(ka km kb mid n p:Nat)(hDk:kb≤D.length)(hl:kb≤1000000000)(hkD:∀i (h:i<D.length),ka≤i→i<kb→pu (D[i]'h))(hn:mid+km=n)(hp:n=p+1)(Q:List Snt)
 (hfin':∀i:Nat,ka≤i→i≤km→i≤mid→n-i≤kb→(∀x y,ka<i→n-i<kb→D[i-1]?=some x→D[n-i]?=some y→cL y x=false)→(∀x y,i<km→km<n-i→D[n-i-1]?=some x→D[i]?=some y→cL x y=true)→G6 ka km kb mid i (n-i) D Q)
 (hmidE:((ka:Int)+(kb:Int)) / 2=(mid:Nat)) (hnE:(mid:Int)+(km:Int)=(n:Nat)) (hpE:(n:Int)-1=(p:Nat)) (hm1:ka+2≤km) (hm2:km+2≤kb) (_hm3:ka+kb<2*mid+2) (_hm4:2*mid≤ka+kb) (hmk:mid<km) :
 Kb (ka:Nat) (km:Nat) (kb:Nat) D Q:=by
 unfold Kb
 refine dH func360 ntmps360 ?_
 obtain⟨s0,hs⟩:∃s0:Nat,n=s0+kb:=⟨n-kb,ab⟩
 have hs3:(n:Int)-(kb:Int)=(s0:Nat):=ab
 (refine xq hnE hpE hs3 hmidE ?_;repeat' first|apply ah|refine ai fun hc=>?_)
 refine aj (X:=Nat×Nat) (fun z=>s0≤z.1∧z.1≤z.2∧z.2≤mid∧(∀x y,s0<z.1→D[z.1-1]?=some x→D[n-z.1]?=some y→cL y x=false)∧(∀x y,z.2<mid→D[n-z.2-1]?=some x→D[z.2]?=some y→cL x y=true))
  (fun z=>ay [(0,.row 1000 0),(1,iC .i64 (ka:Nat)),(2,iC .i64 (km:Nat)),(3,iC .i64 (kb:Nat)),(4,jp),(18,iC .i64 (mid:Nat)),(19,iC .i64 (n:Nat)),(20,iC .i64 (z.1:Nat)),(21,iC .i64 (z.2:Nat)),(22,iC .i64 (p:Nat))] [(1000,em D)]) (fun y=>y.2-y.1) (s0,mid) ⟨V8 _,aA,V8 _,fun x y h=>by simp at h,fun x y h=>by simp at h⟩ ?_
 rintro⟨i,j⟩ ⟨h1,h2,h3,h4,h5⟩
 simp only at h1 h2 h3 h4 h5 ⊢
 by_cases hij:i<j
 ·obtain⟨h,hh⟩:∃h:Nat,((i:Int)+(j:Int)) / 2=(h:Nat):=⟨(i+j) / 2,ab⟩
  have hih:i≤h:=ab
  have hhj:h<j:=ab
  have hlt:h<D.length:=ab
  obtain⟨q,hq⟩:∃q:Nat,p=q+h:=⟨p-h,ab⟩
  have hqE:(p:Int)-(h:Int)=(q:Nat):=ab
  have hlq:q<D.length:=ab
  have hmm:=qY D[q] D[h] (hkD q hlq ab ab) (hkD h hlt ab ab)
  have HJ:(D.map sntP)[h]?=some (sntP D[h]):=by rw[List.getElem?_map,V4 hlt];rfl
  have HQ:(D.map sntP)[q]?=some (sntP D[q]):=by rw[List.getElem?_map,V4 hlq];rfl
  (refine iA hqE hh ?_;repeat' first|apply ah|refine ai fun hc=>?_|((first|apply aB rfl|apply aC rfl|apply aD rfl|apply aF rfl);(focus ((try (apply bI;(focus rfl);apply ag rfl rfl rfl rfl rfl));first|((apply aZ 5;(focus rfl);exact ax ⟨rfl,rfl,rfl⟩ rfl inferInstance inferInstance rfl rfl rfl HJ rfl rfl rfl))|((apply aZ 5;(focus rfl);exact ax ⟨rfl,rfl,rfl⟩ rfl inferInstance inferInstance rfl rfl rfl HQ rfl rfl rfl))|(exact GK [] hmm)));refine iA hqE hh ?_))
  ·refine⟨(h+1,j),⟨aA,aA,h3,fun x y _ hx hy=>?_,h5⟩,aA,?_⟩
   ·simp only[WD]at hx
    rw[V4 hlt]at hx;cases hx
    rw[show n-(h+1)=q by omega,V4 hlq]at hy;cases hy
    rw[zZ];assumption
   ·exact ae
  ·refine⟨(i,h),⟨h1,hih,aA,h4,fun x y _ hx hy=>?_⟩,aA,?_⟩
   ·simp only at hx hy
    rw[V4 hlt]at hy;cases hy
    rw[show n-h-1=q by omega,V4 hlq]at hx;cases hx
    rw[zY];assumption
   ·exact ae
 ·have hij':j=i:=ab
  subst hij'
  obtain⟨D2,D3,e1,e2,e3⟩:=(hfin' j ab ab ab ab (fun x y g1 g2 g3 g4=>h4 x y ab g3 g4) (fun x y g1 g2 g3 g4=>h5 x y ab g3 g4)).h
  obtain⟨e,he⟩:∃e:Nat,n=e+j:=⟨n-j,ab⟩
  have heE:(n:Int)-(j:Int)=(e:Nat):=ab
  rw[show n-j=e by omega]at e1 e3
  clear h4 h5 hfin' hkD
  rcases e1 with⟨a1,a2,f1⟩|⟨a1,rfl⟩<;>rcases e2 with⟨b1,b2,f2⟩|⟨b1,rfl⟩<;>rcases e3 with⟨c1,c2,f3⟩|⟨c1,rfl⟩
  ·(refine ov heE (fD f1) (fD f2) (fD f3) ?_;repeat' first|apply ah|refine ai fun hc=>?_)
   exact j3
  ·(refine eY heE (fD f1) (fD f2) ?_;repeat' first|apply ah|refine ai fun hc=>?_)
   all_goals first|(exfalso;omega)|skip
   all_goals exact j3
  ·(refine eY heE (fD f1) (fD f3) ?_;repeat' first|apply ah|refine ai fun hc=>?_)
   all_goals first|(exfalso;omega)|skip
   all_goals exact j3
  ·(refine ed heE (fD f1) ?_;repeat' first|apply ah|refine ai fun hc=>?_)
   all_goals first|(exfalso;omega)|skip
   all_goals exact j3
  ·(refine eY heE (fD f2) (fD f3) ?_;repeat' first|apply ah|refine ai fun hc=>?_)
   all_goals first|(exfalso;omega)|skip
   all_goals exact j3
  ·(refine ed heE (fD f2) ?_;repeat' first|apply ah|refine ai fun hc=>?_)
   all_goals first|(exfalso;omega)|skip
   all_goals exact j3
  ·(refine ed heE (fD f3) ?_;repeat' first|apply ah|refine ai fun hc=>?_)
   all_goals first|(exfalso;omega)|skip
   all_goals exact j3
  ·(refine eT heE ?_;repeat' first|apply ah|refine ai fun hc=>?_)
   all_goals first|(exfalso;omega)|skip
   all_goals exact j3
theorem Jp (D:List Snt)(ka km kb mid n p:Nat)(hDk:kb≤D.length)(hl:kb≤1000000000)(hkD:∀i (h:i<D.length),ka≤i→i<kb→pu (D[i]'h))(hn:mid+km=n)(hp:n=p+1)(Q:List Snt)
 (hfin':∀i:Nat,ka≤i→i≤km→i≤mid→n-i≤kb→(∀x y,ka<i→n-i<kb→D[i-1]?=some x→D[n-i]?=some y→cL y x=false)→(∀x y,i<km→km<n-i→D[n-i-1]?=some x→D[i]?=some y→cL x y=true)→G6 ka km kb mid i (n-i) D Q)
 (hmidE:((ka:Int)+(kb:Int)) / 2=(mid:Nat)) (hnE:(mid:Int)+(km:Int)=(n:Nat)) (hpE:(n:Int)-1=(p:Nat)) (hm1:ka+2≤km) (hm2:km+2≤kb) (_hm3:ka+kb<2*mid+2) (_hm4:2*mid≤ka+kb) (hmk:¬mid<km) :
 Kb (ka:Nat) (km:Nat) (kb:Nat) D Q:=by
 unfold Kb
 refine dH func360 ntmps360 ?_
 (refine xn hnE hpE hmidE ?_;repeat' first|apply ah|refine ai fun hc=>?_)
 refine aj (X:=Nat×Nat) (fun z=>ka≤z.1∧z.1≤z.2∧z.2≤km∧(∀x y,ka<z.1→D[z.1-1]?=some x→D[n-z.1]?=some y→cL y x=false)∧(∀x y,z.2<km→D[n-z.2-1]?=some x→D[z.2]?=some y→cL x y=true))
  (fun z=>ay [(0,.row 1000 0),(1,iC .i64 (ka:Nat)),(2,iC .i64 (km:Nat)),(3,iC .i64 (kb:Nat)),(4,jp),(18,iC .i64 (mid:Nat)),(19,iC .i64 (n:Nat)),(20,iC .i64 (z.1:Nat)),(21,iC .i64 (z.2:Nat)),(22,iC .i64 (p:Nat))] [(1000,em D)]) (fun y=>y.2-y.1) (ka,km) ⟨V8 _,aA,V8 _,fun x y h=>by simp at h,fun x y h=>by simp at h⟩ ?_
 rintro⟨i,j⟩ ⟨h1,h2,h3,h4,h5⟩
 simp only at h1 h2 h3 h4 h5 ⊢
 by_cases hij:i<j
 ·obtain⟨h,hh⟩:∃h:Nat,((i:Int)+(j:Int)) / 2=(h:Nat):=⟨(i+j) / 2,ab⟩
  have hih:i≤h:=ab
  have hhj:h<j:=ab
  have hlt:h<D.length:=ab
  obtain⟨q,hq⟩:∃q:Nat,p=q+h:=⟨p-h,ab⟩
  have hqE:(p:Int)-(h:Int)=(q:Nat):=ab
  have hlq:q<D.length:=ab
  have hmm:=qY D[q] D[h] (hkD q hlq ab ab) (hkD h hlt ab ab)
  have HJ:(D.map sntP)[h]?=some (sntP D[h]):=by rw[List.getElem?_map,V4 hlt];rfl
  have HQ:(D.map sntP)[q]?=some (sntP D[q]):=by rw[List.getElem?_map,V4 hlq];rfl
  (refine iA hqE hh ?_;repeat' first|apply ah|refine ai fun hc=>?_|((first|apply aB rfl|apply aC rfl|apply aD rfl|apply aF rfl);(focus ((try (apply bI;(focus rfl);apply ag rfl rfl rfl rfl rfl));first|((apply aZ 5;(focus rfl);exact ax ⟨rfl,rfl,rfl⟩ rfl inferInstance inferInstance rfl rfl rfl HJ rfl rfl rfl))|((apply aZ 5;(focus rfl);exact ax ⟨rfl,rfl,rfl⟩ rfl inferInstance inferInstance rfl rfl rfl HQ rfl rfl rfl))|(exact GK [] hmm)));refine iA hqE hh ?_))
  ·refine⟨(h+1,j),⟨aA,aA,h3,fun x y _ hx hy=>?_,h5⟩,aA,?_⟩
   ·simp only[WD]at hx
    rw[V4 hlt]at hx;cases hx
    rw[show n-(h+1)=q by omega,V4 hlq]at hy;cases hy
    rw[zZ];assumption
   ·exact ae
  ·refine⟨(i,h),⟨h1,hih,aA,h4,fun x y _ hx hy=>?_⟩,aA,?_⟩
   ·simp only at hx hy
    rw[V4 hlt]at hy;cases hy
    rw[show n-h-1=q by omega,V4 hlq]at hx;cases hx
    rw[zY];assumption
   ·exact ae
 ·have hij':j=i:=ab
  subst hij'
  obtain⟨D2,D3,e1,e2,e3⟩:=(hfin' j ab ab ab ab (fun x y g1 g2 g3 g4=>h4 x y ab g3 g4) (fun x y g1 g2 g3 g4=>h5 x y ab g3 g4)).h
  obtain⟨e,he⟩:∃e:Nat,n=e+j:=⟨n-j,ab⟩
  have heE:(n:Int)-(j:Int)=(e:Nat):=ab
  rw[show n-j=e by omega]at e1 e3
  clear h4 h5 hfin' hkD
  rcases e1 with⟨a1,a2,f1⟩|⟨a1,rfl⟩<;>rcases e2 with⟨b1,b2,f2⟩|⟨b1,rfl⟩<;>rcases e3 with⟨c1,c2,f3⟩|⟨c1,rfl⟩
  ·(refine ov heE (fD f1) (fD f2) (fD f3) ?_;repeat' first|apply ah|refine ai fun hc=>?_)
   exact j3
  ·(refine eY heE (fD f1) (fD f2) ?_;repeat' first|apply ah|refine ai fun hc=>?_)
   all_goals first|(exfalso;omega)|skip
   all_goals exact j3
  ·(refine eY heE (fD f1) (fD f3) ?_;repeat' first|apply ah|refine ai fun hc=>?_)
   all_goals first|(exfalso;omega)|skip
   all_goals exact j3
  ·(refine ed heE (fD f1) ?_;repeat' first|apply ah|refine ai fun hc=>?_)
   all_goals first|(exfalso;omega)|skip
   all_goals exact j3
  ·(refine eY heE (fD f2) (fD f3) ?_;repeat' first|apply ah|refine ai fun hc=>?_)
   all_goals first|(exfalso;omega)|skip
   all_goals exact j3
  ·(refine ed heE (fD f2) ?_;repeat' first|apply ah|refine ai fun hc=>?_)
   all_goals first|(exfalso;omega)|skip
   all_goals exact j3
  ·(refine ed heE (fD f3) ?_;repeat' first|apply ah|refine ai fun hc=>?_)
   all_goals first|(exfalso;omega)|skip
   all_goals exact j3
  ·(refine eT heE ?_;repeat' first|apply ah|refine ai fun hc=>?_)
   all_goals first|(exfalso;omega)|skip
   all_goals exact j3
theorem N8 (A L R Z:List Snt)(ka km kb mid:Nat)(hka:A.length=ka)(hkm:ka+L.length=km)(hkb:km+R.length=kb)(hmid:mid=(ka+kb) / 2)(hL0:0<L.length)(hR0:0<R.length)(h1L:L.length≠1)(h1R:R.length≠1)(hkL:mh L)(hkR:mh R)(hl:kb+Z.length≤1000000000)
 (Q:List Snt) (hfin:∀L1 L2 R1 R2,L=L1++L2→R=R1++R2→ka+L1.length+R1.length=mid→(∀x y,L1.getLast?=some x→R2.head?=some y→cL y x=false)→(∀x y,R1.getLast?=some x→L2.head?=some y→cL x y=true) →
   G6 ka km kb mid (ka+L1.length) (km+R1.length) (A++L++R++Z) Q) :
 Kb (ka:Nat) (km:Nat) (kb:Nat) (A++L++R++Z) Q:=by
 generalize hD:A++L++R++Z=D at hfin ⊢
 have hDl:D.length=kb+Z.length:=by rw[←hD];simp;omega
 have hkD:∀i (h:i<D.length),ka≤i→i<kb→pu (D[i]'h):=by
  intro i h h1 h2
  have:D[i]'h∈L++R:=by
   have e:D[i]?=((L++R)++Z)[i-ka]?:=by rw[←hD,show A++L++R++Z=A++(L++R++Z)by simp,List.getElem?_append_right ab,hka]
   rw[Wl bn,V4 h]at e
   exact WK e.symm
  rcases Wz.1 this with q|q
  ·exact hkL _ q
  ·exact hkR _ q
 obtain⟨n,hn⟩:∃n:Nat,mid+km=n:=⟨_,rfl⟩
 obtain⟨p,hp⟩:∃p:Nat,n=p+1:=⟨n-1,ab⟩
 have hfin':∀i:Nat,ka≤i→i≤km→i≤mid→n-i≤kb→(∀x y,ka<i→n-i<kb→D[i-1]?=some x→D[n-i]?=some y→cL y x=false)→(∀x y,i<km→km<n-i→D[n-i-1]?=some x→D[i]?=some y→cL x y=true)→G6 ka km kb mid i (n-i) D Q:=by
  intro i h1 h2 h3 h3' h4 h5
  obtain⟨L1,L2,rfl,hL1⟩:=ff L (i-ka) ab
  obtain⟨R1,R2,rfl,hR1⟩:=ff R (n-i-km) ab
  have e1:ka+L1.length=i:=ab
  have e2:km+R1.length=n-i:=ab
  have:=hfin L1 L2 R1 R2 rfl rfl ab (fun x y hx hy=>?_) (fun x y hx hy=>?_)
  ·rw[e1,e2]at this;exact this
  ·obtain⟨L1',rfl⟩:=jG hx
   obtain⟨R2',rfl⟩:=lj hy
   simp only[V5,Wh,List.length_nil]at e1 e2 hkm hkb
   refine h4 x y ab ab ?_ ?_
   ·rw[←hD,show A++(L1'++[x]++L2)++(R1++y::R2')++Z=(A++L1')++x::(L2++(R1++y::R2')++Z)by simp,bT _ _ _ _ bn]
   ·rw[←hD,show A++(L1'++[x]++L2)++(R1++y::R2')++Z=(A++(L1'++[x]++L2)++R1)++y::(R2'++Z)by simp,bT _ _ _ _ bn]
  ·obtain⟨R1',rfl⟩:=jG hx
   obtain⟨L2',rfl⟩:=lj hy
   simp only[V5,Wh,List.length_nil]at e1 e2 hkm hkb
   refine h5 x y ab ab ?_ ?_
   ·rw[←hD,show A++(L1++y::L2')++(R1'++[x]++R2)++Z=(A++(L1++y::L2')++R1')++x::(R2++Z)by simp,bT _ _ _ _ bn]
   ·rw[←hD,show A++(L1++y::L2')++(R1'++[x]++R2)++Z=(A++L1)++y::(L2'++(R1'++[x]++R2)++Z)by simp,bT _ _ _ _ bn]
 clear hfin hkL hkR hD
 have hmidE:((ka:Int)+(kb:Int)) / 2=(mid:Nat):=ab
 have hnE:(mid:Int)+(km:Int)=(n:Nat):=ab
 have hpE:(n:Int)-1=(p:Nat):=ab
 have hm1:ka+2≤km:=ab
 have hm2:km+2≤kb:=ab
 have hm3:ka+kb<2*mid+2:=ab
 have hm4:2*mid≤ka+kb:=ab
 by_cases hmk:mid<km
 ·exact Jo D ka km kb mid n p ab ab hkD hn hp Q hfin' hmidE hnE hpE hm1 hm2 hm3 hm4 hmk
 ·exact Jp D ka km kb mid n p ab ab hkD hn hp Q hfin' hmidE hnE hpE hm1 hm2 hm3 hm4 hmk
theorem G7:∀(N:Nat)(A L R Z:List Snt),L.length+R.length≤N→0<L.length→0<R.length→lg cL L→lg cL R→mh L→mh R→A.length+L.length+R.length+Z.length≤1000000000 →
 Kb (A.length:Nat) ((A.length+L.length:Nat):Int) ((A.length+L.length+R.length:Nat):Int) (A++L++R++Z) (A++gY (L++R)++Z):=by
 intro N
 induction N with
 | zero=>intro A L R Z h1 h2;omega
 | succ N ih=>
  intro A L R Z hN hL0 hR0 hL hR hkL hkR hl
  by_cases h1L:L.length=1
  ·obtain⟨x,rfl⟩:=List.length_eq_one_iff.1 h1L
   exact Q2 A x R Z _ _ _ rfl rfl rfl hR (hkL x au) hkR hl
  by_cases h1R:R.length=1
  ·obtain⟨y,rfl⟩:=List.length_eq_one_iff.1 h1R
   exact N7 A L y Z _ _ _ rfl rfl rfl h1L hL hkL (hkR y au) hl
  refine N8 A L R Z _ _ _ _ rfl rfl rfl rfl hL0 hR0 h1L h1R hkL hkR hl _ ?_
  rintro L1 L2 R1 R2 rfl rfl hm hc1 hc2
  have hs:=iH ef hL hR hc1 hc2
  have hL':=List.pairwise_append.1 hL
  have hR':=List.pairwise_append.1 hR
  have hQ:gY ((L1++L2)++(R1++R2))=gY (L1++R1)++gY (L2++R2):=by simp only[Fr];exact hs
  have hln:(gY (L1++R1)).length=L1.length+R1.length:=by rw[kP];simp
  simp only[V5]at *
  refine⟨A++(L1++R1)++(L2++R2)++Z,A++gY (L1++R1)++(L2++R2)++Z,?_,?_,?_⟩
  ·by_cases h:0<L2.length∧0<R1.length
   ·refine .inl ⟨ab,ab,?_⟩
    have:=Q1 (A++L1) L2 R1 (R2++Z) (A.length+L1.length:Nat) (A.length+(L1.length+L2.length):Nat) (A.length+(L1.length+L2.length)+R1.length:Nat) au bn bn h.1 h.2 bn
    unfold VG
    simpa using this
   ·refine .inr ⟨ab,?_⟩
    by_cases h2:L2.length=0
    ·rw[Wf h2];simp
    ·rw[Wf (show R1.length=0 by omega)];simp
  ·by_cases h:0<L1.length∧0<R1.length
   ·refine .inl ⟨ab,ab,?_⟩
    have:=ih A L1 R1 ((L2++R2)++Z) ab h.1 h.2 hL'.1 hR'.1 (ig hkL (by simp +contextual)) (ig hkR (by simp +contextual)) bn
    rw[hm]at this
    simpa using this
   ·refine .inr ⟨ab,?_⟩
    have:gY (L1++R1)=L1++R1:=by
     by_cases h2:L1.length=0
     ·rw[Wf h2];exact tP hR'.1
     ·rw[Wf (show R1.length=0 by omega),Wg];exact tP hL'.1
    rw[this]
  ·rw[hQ]
   by_cases h:0<L2.length∧0<R2.length
   ·refine .inl ⟨ab,ab,?_⟩
    have:=ih (A++gY (L1++R1)) L2 R2 Z ab h.1 h.2 hL'.2.1 hR'.2.1 (ig hkL (by simp +contextual)) (ig hkR (by simp +contextual)) bn
    simp only[V5,hln]at this
    rw[show A.length+(L1.length+R1.length)=(A.length+(L1.length+L2.length+(R1.length+R2.length))+A.length) / 2 by omega]at this
    have e1:(A.length+(L1.length+L2.length+(R1.length+R2.length))+A.length) / 2=(A.length+(A.length+(L1.length+L2.length)+(R1.length+R2.length))) / 2:=ab
    rw[e1]at this
    rw[show(A.length+(A.length+(L1.length+L2.length)+(R1.length+R2.length))) / 2+L2.length=A.length+(L1.length+L2.length)+R1.length by omega,show A.length+(L1.length+L2.length)+R1.length+R2.length=A.length+(L1.length+L2.length)+(R1.length+R2.length)by omega]at this
    simpa using this
   ·refine .inr ⟨ab,?_⟩
    have:gY (L2++R2)=L2++R2:=by
     by_cases h2:L2.length=0
     ·rw[Wf h2];exact tP hR'.2.1
     ·rw[Wf (show R2.length=0 by omega),Wg];exact tP hL'.2.1
    rw[this];simp
def Jq (n:Nat)(Bs:List (List Snt)):Prop:=∀B∈Bs,B.length=n∧lg cL B
theorem Jq.len {n:Nat}{Bs:List (List Snt)}(h:Jq n Bs):Bs.flatten.length=Bs.length*n:=by
 induction Bs with
 | nil=>simp
 | cons B Bs ih=>
  rw[Xn,V5,ih (fun B' hB=>h B' (Ww _ hB)),(h B WG).1,Wh,WU];omega
theorem vZ {M N:List Snt}(h:mh M)(ha:im cL M N):mh N:=fun x hx=>h x (ha.mem ef hx)
theorem N9 (M:List Snt)(hk:mh M)(hl:M.length≤100000000):dh prog 352 [.row 1000 0,iC .i64 (M.length:Nat),jp] [(1000,em M)] .any [(1000,em (gY M))]:=by
 obtain⟨n,hn⟩:∃n,M.length=n:=⟨_,rfl⟩
 rw[hn]
 generalize hR:gY M=R
 refine dH func352 ntmps352 ?_
 (refine w0 ?_)
 refine aj (X:=List (List Snt)×List Snt) (fun x=>Jq 20 x.1∧im cL M (x.1.flatten++x.2))
  (fun x=>ay [(0,.row 1000 0),(1,iC .i64 (n:Nat)),(2,jp),(6,iC .i64 20),(7,iC .i64 (x.1.flatten.length:Nat)),(8,iC .i64 ((x.1.flatten.length+20:Nat):Int))] [(1000,em (x.1.flatten++x.2))]) (fun x=>x.2.length) ([],M) ⟨fun _ h=>by simp at h,by simpa using im.refl M⟩ ?_
 rintro⟨Bs,r⟩ ⟨h1,h2⟩
 simp only at h1 h2 ⊢
 have hlen:=im.len ef h2
 rw[V5,hn]at hlen
 have hkr:=vZ hk h2
 obtain⟨a,ha⟩:∃a,Bs.flatten.length=a:=⟨_,rfl⟩
 by_cases hb:a+20≤n
 ·obtain⟨B,r',rfl,hB⟩:=ff r 20 ab
  have h:=yu Bs.flatten B r' (ig hkr (by simp +contextual)) (by simp only[V5]at hlen ⊢;omega)
  have hap:Bs.flatten++B++r'=Bs.flatten++(B++r'):=au
  rw[ha,hB,hap]at h
  rw[ha]
  (refine fP (fD h) ?_;repeat' first|apply ah|refine ai fun hc=>?_)
  refine⟨(Bs++[gY B],r'),⟨fun B' hB'=>?_,?_⟩,bn,?_⟩
  ·rcases Wz.1 hB' with q|q
   ·exact h1 B' q
   ·simp at q;subst q;exact⟨by rw[kP];exact hB,qZ B⟩
  ·refine h2.trans ?_
   have:=((im.refl (lt:=cL) Bs.flatten).app (q0 B)).app (im.refl r')
   simpa using this
  ·have e1:(Bs++[gY B]).flatten++r'=Bs.flatten++gY B++r':=au
   have e2:(Bs++[gY B]).flatten.length=a+20:=by simp[kP,hB]at ha ⊢;omega
   simp only[e1,e2]
   exact ae
 ·have h:=yu Bs.flatten r [] (ig hkr (by simp +contextual)) (by simp only[V5,List.length_nil];omega)
  rw[ha,Wg,Wg,show a+r.length=n by omega]at h
  rw[ha]
  (refine fP (fD h) ?_;repeat' first|apply ah|refine ai fun hc=>?_)
  refine aj (X:=Nat×List (List Snt)×List Snt) (fun x=>20≤x.1∧x.1≤2*n+20∧Jq x.1 x.2.1∧lg cL x.2.2∧x.2.2.length<x.1∧im cL M (x.2.1.flatten++x.2.2))
   (fun x=>ay [(0,.row 1000 0),(1,iC .i64 (n:Nat)),(2,jp),(6,iC .i64 (x.1:Nat))] [(1000,em (x.2.1.flatten++x.2.2))]) (fun x=>n-x.1) (20,Bs,gY r) ⟨V8 _,aA,h1,qZ r,by simp only[kP];omega,h2.trans ((im.refl _).app (q0 r))⟩ ?_
  clear h1 h2 hlen hkr ha hb h
  rintro⟨bs,Bs,r⟩ ⟨h0,h00,h1,h2,h3,h4⟩
  simp only at h0 h00 h1 h2 h3 h4 ⊢
  have hlen:=im.len ef h4
  have hkr:=vZ hk h4
  rw[V5,hn]at hlen
  by_cases hbn:bs<n
  ·obtain⟨b2,hb2⟩:∃b2:Nat,2*bs=b2:=⟨_,rfl⟩
   have hb2E:(2:Int)*(bs:Int)=(b2:Nat):=ab
   (refine eT hb2E ?_;repeat' first|apply ah|refine ai fun hc=>?_)
   refine aj (X:=List (List Snt)×List (List Snt)) (fun x=>Jq b2 x.1∧Jq bs x.2∧im cL M (x.1.flatten++(x.2.flatten++r)))
    (fun x=>ay [(0,.row 1000 0),(1,iC .i64 (n:Nat)),(2,jp),(6,iC .i64 (bs:Nat)),(7,iC .i64 (x.1.flatten.length:Nat)),(8,iC .i64 ((x.1.flatten.length+b2:Nat):Int))] [(1000,em (x.1.flatten++(x.2.flatten++r)))]) (fun x=>x.2.length) ([],Bs) ⟨fun _ h=>by simp at h,h1,by simpa using h4⟩ ?_
   clear h1 h4 hkr hlen
   rintro⟨Cs,Bs⟩ ⟨h1,h5,h4⟩
   simp only at h1 h5 h4 ⊢
   have hlen:=im.len ef h4
   have hkr:=vZ hk h4
   rw[V5,V5,hn]at hlen
   obtain⟨a,ha⟩:∃a,Cs.flatten.length=a:=⟨_,rfl⟩
   have hfl:=h5.len
   obtain⟨am,ham⟩:∃am:Nat,a+bs=am:=⟨_,rfl⟩
   have hbsE:(a:Int)+(bs:Int)=(am:Nat):=ab
   match Bs,hfl with
   | [],hfl=>
    clear hfl
    simp only[List.flatten_nil,List.length_nil,Wu]at *
    rw[ha]at hlen ⊢
    (refine rE hbsE hb2E ?_;repeat' first|apply ah|refine ai fun hc=>?_)
    refine⟨(b2,Cs,r),⟨aA,aA,h1,h2,aA,h4⟩,aA,?_⟩
    exact ae
   | [B],hfl=>
    clear hfl
    have hB:=h5 B au
    simp only[Xn,List.flatten_nil,Wg]at *
    rw[ha]at hlen ⊢
    by_cases hr0:r.length=0
    ·have hr:=Wf hr0
     subst hr
     simp only[Wg]at *
     (refine rE hbsE hb2E ?_;repeat' first|apply ah|refine ai fun hc=>?_)
     refine⟨(b2,Cs,B),⟨aA,aA,h1,hB.2,aA,h4⟩,aA,?_⟩
     exact ae
    ·have h:=G7 _ Cs.flatten B r [] (V8 _) ab ab hB.2 h2 (ig hkr (by simp +contextual)) (ig hkr (by simp +contextual)) (by simp only[List.length_nil];omega)
     rw[ha,hB.1,Wg,Wg,ham,show am+r.length=n by omega,V9]at h
     (refine ox hbsE hb2E (fD h) ?_;repeat' first|apply ah|refine ai fun hc=>?_)
     refine⟨(b2,Cs,gY (B++r)),⟨aA,aA,h1,qZ _,by simp only[kP,V5];omega,h4.trans ((im.refl _).app (q0 _))⟩,aA,?_⟩
     exact ae
   | B::B'::Bs,hfl=>
    have hB:=h5 B au
    have hB':=h5 B' au
    have hq:=Wa (Bs.length*bs)
    simp only[Wh,WU]at hfl
    have h:=G7 _ Cs.flatten B B' (Bs.flatten++r) (V8 _) ab ab hB.2 hB'.2 (ig hkr (by simp +contextual)) (ig hkr (by simp +contextual)) (by simp only[V5,Xn]at hlen ⊢;omega)
    have e0:Cs.flatten++B++B'++(Bs.flatten++r)=Cs.flatten++((B::B'::Bs).flatten++r):=au
    rw[ha,hB.1,hB'.1,show a+bs+bs=a+b2 by omega,ham,e0]at h
    rw[ha]at hlen ⊢
    (refine ox hbsE hb2E (fD h) ?_;repeat' first|apply ah|refine ai fun hc=>?_)
    refine⟨(Cs++[gY (B++B')],Bs),⟨fun C hC=>?_,fun C hC=>h5 C (by simp[hC]),?_⟩,by simp only[Wh];omega,?_⟩
    ·rcases Wz.1 hC with q|q
     ·exact h1 C q
     ·simp at q;subst q;exact⟨by rw[kP,V5];omega,qZ _⟩
    ·refine h4.trans ?_
     have:=((im.refl (lt:=cL) Cs.flatten).app (q0 (B++B'))).app (im.refl (Bs.flatten++r))
     simpa using this
    ·have e1:(Cs++[gY (B++B')]).flatten++(Bs.flatten++r)=Cs.flatten++gY (B++B')++(Bs.flatten++r):=au
     have e2:(Cs++[gY (B++B')]).flatten.length=a+b2:=by simp[kP,hB.1,hB'.1]at ha ⊢;omega
     simp only[e1,e2]
     exact ae
  ·have hD:lg cL (Bs.flatten++r):=by
    match Bs,h1 with
    | [],_=>simpa using h2
    | [B],h1=>
     have hB:=h1 B au
     simp at hlen
     have hr:=Wf (show r.length=0 by omega)
     subst hr
     simpa using hB.2
    | B::B'::Bs,h1=>
     have hB:=h1 B au
     have hB':=h1 B' au
     simp at hlen
     omega
   have hRD:Bs.flatten++r=R:=by rw[←hR];exact(Q0 hD h4).symm
   rw[hRD]
   (refine w0 ?_;repeat' first|apply ah|refine ai fun hc=>?_)
   exact j3
theorem C5 (M:List Snt)(hk:mh M)(hl:M.length≤100000000):dh prog 336 [.row 1000 0,jp] [(1000,em M)] .any [(1000,em (gY M))]:=by
 have h:=N9 M hk hl
 generalize gY M=R at *
 refine dH func336 ntmps336 ?_
 (refine fP (fD h) ?_)
 exact j3
theorem Oa (R:List Rg)(hR:R.length≤12)(th:PV)(hs:Int→Int→Bool)(hH:∀r c,Fn prog 351 [.per th,sD r c] (dq (hs r c)))(l:List It)(hk:ng l)(hl:l.length≤1000000) :
 Fn prog 315 [ec R,.per th,fj l] (I2 (gw R hs l)):=NW R hR th hs hH l hk hl (C5 (l.map (rk R hs)) (S6 hk) (by rw[V7];omega))
end Go.Proofs.YtaclhhkblbacgaaGreat
