/- Lemmas, walks. -/
import Derived.Test.YtecdgdoledkdfaaGreatJ19
set_option maxRecDepth 10000
set_option maxHeartbeats 8000000
namespace Go.Proofs.YtecdgdoledkdfaaGreat
open Go.RowKit Go.Proofs.Tryz
theorem IE {k:List Pc}(h:ez k):∀p∈k,xQ p.set:=λp hp=>by
 have h1:=fE Pc.set hp
 have h2:=ii Kn.runs (a:=p.set) (b:=k.flatMap Pc.set) (by
  clear h1 h
  induction k<;>grind)
 have h3:=h.2
 exact⟨ae,ae⟩
theorem RH (k:List Pc)(id:Int)(hk:ez k):Fn prog 28 [dN k,iC .i64 id] (eA (mb k id)):=by
 have hl0:=hk.1
 generalize hR:mb k id=R
 unfold mb at hR
 refine fi func28 ntmps28 ?_
 (refine w0 ?_)
 refine aj (X:=Nat×Int) (λx=>x.1<=k.length/\0<=x.2/\(k.drop x.1).foldl (λn p=>max n (sQ p.set id)) x.2=R) (λx=>aF [(0,dN k),(1,iC .i64 id),(5,iC .i64 x.2),(6,iC .i64 (x.1:Nat))] []) (λx=>k.length-x.1) (0,0) ⟨aag _,aby _,by simpa using hR⟩ ?_
 rintro⟨i,n⟩ ⟨h1,h0,h2⟩
 simp only at h1 h0 h2 ⊢
 by_cases hi:i<k.length
 ·rw[List.drop_eq_getElem_cons hi,List.foldl_cons]at h2
  have hm:=IE hk _ (aar hi)
  have a1:=(Ra k[i].set hm).frz
  have hv:=JW k[i].set
  have hvl:=(v6 (X:=k[i].set) (M:=100000000) hm.2).1
  have hvs:=(v6 (X:=k[i].set) (M:=100000000) hm.2).2
  rw[<-LW k[i].set id n h0]at h2
  generalize gQ ofR k[i].set=V at *
  clear hk hR hm
  (refine au a1 ?_;refine ah λhc=>?_)
  refine aj (X:=Nat×Int) (λy=>y.1<=V.length/\0<=y.2/\(V.drop y.1).foldl (qH id) y.2=V.foldl (qH id) n) (λy=>aF [(0,dN k),(1,iC .i64 id),(5,iC .i64 y.2),(6,iC .i64 (i:Nat)),(7,.per (Xp V)),(8,iC .i64 (y.1:Nat))] []) (λy=>V.length-y.1) (0,n) ⟨aag _,h0,aA⟩ ?_
  rintro⟨j,m⟩ ⟨g1,g0,g2⟩
  simp only at g1 g0 g2 ⊢
  by_cases hj:j<V.length
  ·rw[List.drop_eq_getElem_cons hj,List.foldl_cons]at g2
   have hne:=(hv j hj hj).2.2.1
   unfold qH at g2
   by_cases hid:V[j].rep=id
   ·rw[aae hid]at g2
    rcases JS V[j].runs with e|⟨l',r,e⟩
    ·exact absurd e hne
    ·rw[e,vg]at g2
     have hlen:((V[j].runs.length:Nat):Int)-1=(l'.length:Nat):=by rw[e];simp
     have hlt:l'.length<V[j].runs.length:=by rw[e];simp
     have hget:V[j].runs[l'.length]'hlt=r:=by simp[e]
     have hto:(V[j].runs[l'.length]'hlt).to=r.to:=by rw[hget]
     rw[<-hto]at g2
     have hRl:V[j].runs.length<=2000000000:=by have:=fE Kn.runs (aar hj);omega
     have hmx:=Rb m (V[j].runs[l'.length]'hlt).to
     have g4:0<=max m (V[j].runs[l'.length]'hlt).to:=ae
     clear h2 hv hget hto e hne hvs
     generalize max m (V[j].runs[l'.length]'hlt).to=m' at *
     (refine eG hlen ?_;repeat' first|apply aw|refine ah λhc=>?_|((first|apply aH rfl|apply aJ rfl);(focus (try apply ag rfl rfl rfl rfl rfl);((exact vX ⟨rfl,rfl,rfl⟩ rfl rfl rfl hmx)));refine eG hlen ?_))
     refine⟨(j+1,m'),⟨aL,g4,g2⟩,aL,?_⟩
     exact ab
   ·rw[aab hid]at g2
    clear h2
    (refine w0 ?_;repeat' first|apply aw|refine ah λhc=>?_)
    refine⟨(j+1,m),⟨aL,g0,g2⟩,aL,?_⟩
    exact ab
  ·rw[aay ae]at g2
   have g2:m=V.foldl (qH id) n:=g2
   rw[<-g2]at h2
   clear g2
   (refine w0 ?_;refine ah λhc=>?_)
   refine⟨(i+1,m),⟨aL,g0,h2⟩,aL,?_⟩
   exact ab
 ·rw[aay ae]at h2
  have h2:n=R:=h2
  subst h2
  clear hk hR
  (refine w0 ?_;refine ah λhc=>?_)
  exact uZ
theorem Mk (l:List It)(hl:l.length<=1000000):Fn prog 29 [eS l] (dE (jw l)):=by
 have hE:∀x y:Vn,Jt prog 10000 77 [.int .i64 x.1,.int .i64 x.2] [.int .i64 y.1,.int .i64 y.2]=some (decide (x=y)):=λx y=>(BQ x.1 x.2 y.1 y.2).trans (aaA some (WA x y))
 generalize hR:jw l=R
 unfold jw at hR
 refine fi func29 ntmps29 ?_
 (refine w0 ?_)
 refine aj (X:=Nat) (λi=>i<=l.length/\((l.take i).map verOf).Nodup) (λi=>aF [(0,eS l),(3,iC .i64 (i:Nat))] []) (λi=>l.length-i) 0 ⟨aag _,aA⟩ ?_
 rintro i ⟨h1,h2⟩
 by_cases hi:i<l.length
 ·(refine w0 ?_;refine ah λhc=>?_)
  refine aj (X:=Nat) (λj=>j<=i/\∀q (h:q<i),q<j->verOf l[i]≠verOf (l[q]'(ae))) (λj=>aF [(0,eS l),(3,iC .i64 (i:Nat)),(4,iC .i64 (j:Nat))] []) (λj=>i-j) 0 ⟨aag _,λq _ h=>ae⟩ ?_
  rintro j ⟨g1,g2⟩
  by_cases hj:j<i
  ·have hjl:j<l.length:=ae
   have hE1:=hE (verOf l[i]) (verOf l[j])
   by_cases hv:verOf l[i]=verOf l[j]
   ·rw[aao hv]at hE1
    have hf:R=false:=by
     rw[<-hR]
     grind[List.pairwise_iff_getElem]
    rw[hf]
    clear hE hR g2 h2
    (refine w0 ?_;repeat' first|apply aw|refine ah λhc=>?_|((first|apply aH rfl|apply aJ rfl);(focus (try apply ag rfl rfl rfl rfl rfl);first|((apply bn 5;(focus rfl);first|exact bJ ⟨rfl,rfl,rfl⟩ rfl aS aS rfl rfl rfl rfl|exact bK ⟨rfl,rfl,rfl⟩ rfl aS aS rfl rfl rfl rfl))|(exact ga (us:=[.int .i64 l[i].rep,.int .i64 l[i].cnt]) (vs:=[.int .i64 l[j].rep,.int .i64 l[j].cnt]) ⟨rfl,rfl,rfl⟩ rfl rfl rfl (by first|exact .inl ⟨rfl,rfl⟩|exact .inr ⟨rfl,rfl⟩) G1 rfl hE1));refine w0 ?_))
    exact dz
   ·rw[aap hv]at hE1
    have g3:∀q (h:q<i),q<j+1->verOf l[i]≠verOf (l[q]'(ae)):=λq h hq=>by grind
    clear hE hR g2 h2
    (refine w0 ?_;repeat' first|apply aw|refine ah λhc=>?_|((first|apply aH rfl|apply aJ rfl);(focus (try apply ag rfl rfl rfl rfl rfl);first|((apply bn 5;(focus rfl);first|exact bJ ⟨rfl,rfl,rfl⟩ rfl aS aS rfl rfl rfl rfl|exact bK ⟨rfl,rfl,rfl⟩ rfl aS aS rfl rfl rfl rfl))|(exact ga (us:=[.int .i64 l[i].rep,.int .i64 l[i].cnt]) (vs:=[.int .i64 l[j].rep,.int .i64 l[j].cnt]) ⟨rfl,rfl,rfl⟩ rfl rfl rfl (by first|exact .inl ⟨rfl,rfl⟩|exact .inr ⟨rfl,rfl⟩) G1 rfl hE1));refine w0 ?_))
    refine⟨j+1,⟨ae,g3⟩,ae,?_⟩
    exact ab
  ·have h3:((l.take (i+1)).map verOf).Nodup:=by
    rw[bp l i hi,List.map_append,List.nodup_append]
    grind[List.getElem_of_mem]
   clear hE hR g2 h2
   (refine w0 ?_;repeat' first|apply aw|refine ah λhc=>?_)
   refine⟨i+1,⟨ae,h3⟩,ae,?_⟩
   exact ab
 ·rw[aaj ae]at h2
  rw[aao h2]at hR
  subst hR
  clear hE
  (refine w0 ?_;refine ah λhc=>?_)
  exact dz
