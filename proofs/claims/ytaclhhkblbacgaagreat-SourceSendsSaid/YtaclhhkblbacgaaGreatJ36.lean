/- Texts joined: StN. -/
import Derived.Test.YtaclhhkblbacgaaGreatJ31
set_option maxRecDepth 10000
set_option maxHeartbeats 8000000
namespace Go.Proofs.YtaclhhkblbacgaaGreat
open Go.RowKit Go.Proofs.Tryz
theorem Fs {k:List Pc}(h:ew k):∀p∈k,vo p.set:=fun p hp=>by
 have h1:=gj Pc.set hp
 have h2:=gS Kn.runs (a:=p.set) (b:=k.flatMap Pc.set) (by
  clear h1 h
  induction k with
  | nil=>cases hp
  | cons q k ih=>
   rw[List.flatMap_cons]
   rcases Wp.1 hp with rfl|h
   ·exact List.sublist_append_left _ _
   ·exact(ih h).trans (List.sublist_append_right _ _))
 have h3:=h.2
 exact⟨ab,ab⟩
theorem Ob (k:List Pc)(id:Int)(hk:ew k):Fn prog 30 [dC k,iC .i64 id] (el (lm k id)):=by
 have hl0:=hk.1
 generalize hR:lm k id=R
 unfold lm at hR
 refine fi func30 ntmps30 ?_
 (refine w0 ?_)
 refine aj (X:=Nat×Int) (fun x=>x.1≤k.length∧0≤x.2∧(k.drop x.1).foldl (fun n p=>max n (qR p.set id)) x.2=R) (fun x=>ay [(0,dC k),(1,iC .i64 id),(5,iC .i64 x.2),(6,iC .i64 (x.1:Nat))] []) (fun x=>k.length-x.1) (0,0) ⟨Wa _,Int.le_refl _,by simpa using hR⟩ ?_
 rintro⟨i,n⟩ ⟨h1,h0,h2⟩
 simp only at h1 h0 h2 ⊢
 by_cases hi:i<k.length
 ·rw[List.drop_eq_getElem_cons hi,List.foldl_cons]at h2
  have hm:=Fs hk _ (Wk hi)
  have a1:=(NI k[i].set hm).frz
  have hv:=GD k[i].set
  have hvl:=(tI (X:=k[i].set) (M:=100000000) hm.2).1
  have hvs:=(tI (X:=k[i].set) (M:=100000000) hm.2).2
  rw[←I3 k[i].set id n h0]at h2
  generalize gH ofR k[i].set=V at *
  clear hk hR hm
  (refine aq a1 ?_;repeat' first|apply ah|refine ai fun hc=>?_)
  refine aj (X:=Nat×Int) (fun y=>y.1≤V.length∧0≤y.2∧(V.drop y.1).foldl (po id) y.2=V.foldl (po id) n) (fun y=>ay [(0,dC k),(1,iC .i64 id),(5,iC .i64 y.2),(6,iC .i64 (i:Nat)),(7,.per (Sx V)),(8,iC .i64 (y.1:Nat))] []) (fun y=>V.length-y.1) (0,n) ⟨Wa _,h0,au⟩ ?_
  rintro⟨j,m⟩ ⟨g1,g0,g2⟩
  simp only at g1 g0 g2 ⊢
  by_cases hj:j<V.length
  ·rw[List.drop_eq_getElem_cons hj,List.foldl_cons]at g2
   have hne:=(hv j hj hj).2.2.1
   unfold po at g2
   by_cases hid:V[j].rep=id
   ·rw[V6 hid]at g2
    rcases Gv V[j].runs with e|⟨l',r,e⟩
    ·exact absurd e hne
    ·rw[e,sI]at g2
     have hlen:((V[j].runs.length:Nat):Int)-1=(l'.length:Nat):=by rw[e];simp
     have hlt:l'.length<V[j].runs.length:=by rw[e];simp
     have hget:V[j].runs[l'.length]'hlt=r:=by simp[e]
     have hto:(V[j].runs[l'.length]'hlt).to=r.to:=by rw[hget]
     rw[←hto]at g2
     have hRl:V[j].runs.length≤2000000000:=by have:=gj Kn.runs (Wk hj);omega
     have hmx:=NJ m (V[j].runs[l'.length]'hlt).to
     have g4:0≤max m (V[j].runs[l'.length]'hlt).to:=ab
     clear h2 hv hget hto e hne hvs
     generalize max m (V[j].runs[l'.length]'hlt).to=m' at *
     (refine eT hlen ?_;repeat' first|apply ah|refine ai fun hc=>?_|((first|apply aB rfl|apply aC rfl|apply aD rfl|apply aF rfl);(focus ((try (apply bI;(focus rfl);apply ag rfl rfl rfl rfl rfl));first|((exact tF ⟨rfl,rfl,rfl⟩ rfl rfl rfl hmx))));refine eT hlen ?_))
     refine⟨(j+1,m'),⟨aA,g4,g2⟩,aA,?_⟩
     exact ae
   ·rw[V3 hid]at g2
    clear h2
    (refine w0 ?_;repeat' first|apply ah|refine ai fun hc=>?_)
    refine⟨(j+1,m),⟨aA,g0,g2⟩,aA,?_⟩
    exact ae
  ·rw[Wv ab]at g2
   have g2:m=V.foldl (po id) n:=g2
   rw[←g2]at h2
   clear g2
   (refine w0 ?_;repeat' first|apply ah|refine ai fun hc=>?_)
   refine⟨(i+1,m),⟨aA,g0,h2⟩,aA,?_⟩
   exact ae
 ·rw[Wv ab]at h2
  have h2:n=R:=h2
  subst h2
  clear hk hR
  (refine w0 ?_;repeat' first|apply ah|refine ai fun hc=>?_)
  exact wo
theorem Jr (l:List It)(hl:l.length≤1000000):Fn prog 31 [fj l] (dq (ja l)):=by
 have hE:∀x y:Vn,HU prog 10000 80 [.int .i64 x.1,.int .i64 x.2] [.int .i64 y.1,.int .i64 y.2]=some (decide (x=y)):=fun x y=>(ze x.1 x.2 y.1 y.2).trans (Wx some (RO x y))
 generalize hR:ja l=R
 unfold ja at hR
 refine fi func31 ntmps31 ?_
 (refine w0 ?_)
 refine aj (X:=Nat) (fun i=>i≤l.length∧((l.take i).map verOf).Nodup) (fun i=>ay [(0,fj l),(3,iC .i64 (i:Nat))] []) (fun i=>l.length-i) 0 ⟨Wa _,au⟩ ?_
 rintro i ⟨h1,h2⟩
 by_cases hi:i<l.length
 ·(refine w0 ?_;repeat' first|apply ah|refine ai fun hc=>?_)
  refine aj (X:=Nat) (fun j=>j≤i∧∀q (h:q<i),q<j→verOf l[i]≠verOf (l[q]'(ab))) (fun j=>ay [(0,fj l),(3,iC .i64 (i:Nat)),(4,iC .i64 (j:Nat))] []) (fun j=>i-j) 0 ⟨Wa _,fun q _ h=>ab⟩ ?_
  rintro j ⟨g1,g2⟩
  by_cases hj:j<i
  ·have hjl:j<l.length:=ab
   have hE1:=hE (verOf l[i]) (verOf l[j])
   by_cases hv:verOf l[i]=verOf l[j]
   ·rw[Wb hv]at hE1
    have hf:R=false:=by
     rw[←hR]
     refine Wj fun hn=>?_
     rw[List.nodup_iff_pairwise_ne,List.pairwise_iff_getElem]at hn
     have:=hn j i (by simpa using hjl) (by simpa using hi) hj
     simp only[List.getElem_map]at this
     exact this hv.symm
    rw[hf]
    clear hE hR g2 h2
    (refine w0 ?_;repeat' first|apply ah|refine ai fun hc=>?_|((first|apply aB rfl|apply aC rfl|apply aD rfl|apply aF rfl);(focus ((try (apply bI;(focus rfl);apply ag rfl rfl rfl rfl rfl));first|((apply aZ 5;(focus rfl);first|exact bO ⟨rfl,rfl,rfl⟩ rfl inferInstance inferInstance rfl rfl rfl rfl|exact bP ⟨rfl,rfl,rfl⟩ rfl inferInstance inferInstance rfl rfl rfl rfl))|(exact gX (us:=[.int .i64 l[i].rep,.int .i64 l[i].cnt]) (vs:=[.int .i64 l[j].rep,.int .i64 l[j].cnt]) ⟨rfl,rfl,rfl⟩ rfl rfl rfl (by first|exact .inl ⟨rfl,rfl⟩|exact .inr ⟨rfl,rfl⟩) Ed rfl hE1)));refine w0 ?_))
    exact dp
   ·rw[Wj hv]at hE1
    have g3:∀q (h:q<i),q<j+1→verOf l[i]≠verOf (l[q]'(ab)):=fun q h hq=>by
     rcases Wm q j with w|w
     ·exact g2 q h w
     ·obtain rfl:q=j:=ab
      exact hv
    clear hE hR g2 h2
    (refine w0 ?_;repeat' first|apply ah|refine ai fun hc=>?_|((first|apply aB rfl|apply aC rfl|apply aD rfl|apply aF rfl);(focus ((try (apply bI;(focus rfl);apply ag rfl rfl rfl rfl rfl));first|((apply aZ 5;(focus rfl);first|exact bO ⟨rfl,rfl,rfl⟩ rfl inferInstance inferInstance rfl rfl rfl rfl|exact bP ⟨rfl,rfl,rfl⟩ rfl inferInstance inferInstance rfl rfl rfl rfl))|(exact gX (us:=[.int .i64 l[i].rep,.int .i64 l[i].cnt]) (vs:=[.int .i64 l[j].rep,.int .i64 l[j].cnt]) ⟨rfl,rfl,rfl⟩ rfl rfl rfl (by first|exact .inl ⟨rfl,rfl⟩|exact .inr ⟨rfl,rfl⟩) Ed rfl hE1)));refine w0 ?_))
    refine⟨j+1,⟨ab,g3⟩,ab,?_⟩
    exact ae
  ·have h3:((l.take (i+1)).map verOf).Nodup:=by
    rw[bc l i hi,List.map_append,List.nodup_append]
    refine⟨h2,au,fun a ha b hb=>?_⟩
    have hb:b=verOf l[i]:=by simpa using hb
    subst hb
    obtain⟨x,hx,rfl⟩:=List.mem_map.1 ha
    obtain⟨q,hq,rfl⟩:=List.getElem_of_mem hx
    rw[List.getElem_take]
    have hq:q<i:=by rw[WA]at hq;omega
    exact fun e=>g2 q hq ab e.symm
   clear hE hR g2 h2
   (refine w0 ?_;repeat' first|apply ah|refine ai fun hc=>?_)
   refine⟨i+1,⟨ab,h3⟩,ab,?_⟩
   exact ae
 ·rw[Wd ab]at h2
  rw[Wb h2]at hR
  subst hR
  clear hE
  (refine w0 ?_;repeat' first|apply ah|refine ai fun hc=>?_)
  exact dp
end Go.Proofs.YtaclhhkblbacgaaGreat
