/- Texts joined: StN. -/
import Derived.Test.YtliiahjpiagdkaaGreatJ30
import Derived.Test.YtliiahjpiagdkaaGreatJ29
import Derived.Test.YtliiahjpiagdkaaGreatJ05
set_option maxRecDepth 10000
set_option maxHeartbeats 8000000
namespace Go.Proofs.YtliiahjpiagdkaaGreat
open Go.RowKit
theorem B1 {k:List Pc} (h:bS k):∀ p ∈ k,pJ p.set:=fun p hp=>by
 have h1:=fG Pc.set hp
 have h2:=gq Kn.runs (a:=p.set) (b:=k.flatMap Pc.set) (by
  clear h1 h
  induction k with
  | nil=>cases hp
  | cons q k ih=>
   rw [List.flatMap_cons]
   rcases List.mem_cons.1 hp with rfl|h
   ·exact List.sublist_append_left _ _
   ·exact (ih h).trans (List.sublist_append_right _ _))
 have h3:=h.2
 exact ⟨by omega,by omega⟩
section
theorem zF (k:List Pc) (id:Int) (hk:bS k):Fn Tryz.prog 53 [bV k,iC .i64 id] (gy (eG k id)):=by
 have hl0:=hk.1
 generalize hR:eG k id = R
 unfold eG at hR
 refine fi Tryz.func53 Tryz.ntmps53 ?_
 (refine w0 ?_;repeat' first|apply ai|refine aj fun hc=>?_)
 refine an (X:=Nat × Int) (fun x=>x.1 ≤ k.length ∧ 0 ≤ x.2 ∧ (k.drop x.1).foldl (fun n p=>max n (iK p.set id)) x.2 = R) (fun x=>ba [(0,bV k),(1,iC .i64 id),(5,iC .i64 x.2),(6,iC .i64 (x.1:Nat))] []) (fun x=>k.length - x.1) (0,0) ⟨Nat.zero_le _,Int.le_refl _,by simpa using hR⟩ ?_ ?_
 ·exact ae
 ·rintro ⟨i,n⟩ ⟨h1,h0,h2⟩
  simp only at h1 h0 h2 ⊢
  by_cases hi:i < k.length
  ·rw [List.drop_eq_getElem_cons hi,List.foldl_cons] at h2
   have hm:=B1 hk _ (List.getElem_mem hi)
   have a1:=(BN k[i].set hm).frz
   have hv:=CL k[i].set
   have hvl:=(q9 (X:=k[i].set) (M:=100000000) hm.2).1
   have hvs:=(q9 (X:=k[i].set) (M:=100000000) hm.2).2
   rw [← Ez k[i].set id n h0] at h2
   generalize ff ofR k[i].set = V at *
   clear hk hR hm
   (refine az a1 ?_;repeat' first|apply ai|refine aj fun hc=>?_)
   refine an (X:=Nat × Int) (fun y=>y.1 ≤ V.length ∧ 0 ≤ y.2 ∧ (V.drop y.1).foldl (nk id) y.2 = V.foldl (nk id) n) (fun y=>ba [(0,bV k),(1,iC .i64 id),(5,iC .i64 y.2),(6,iC .i64 (i:Nat)),(7,.per (Ec V)),(8,iC .i64 (y.1:Nat))] []) (fun y=>V.length - y.1) (0,n) ⟨Nat.zero_le _,h0,by simp⟩ ?_ ?_
   ·exact ae
   ·rintro ⟨j,m⟩ ⟨g1,g0,g2⟩
    simp only at g1 g0 g2 ⊢
    by_cases hj:j < V.length
    ·rw [List.drop_eq_getElem_cons hj,List.foldl_cons] at g2
     have hne:=(hv j hj hj).2.2.1
     unfold nk at g2
     by_cases hid:V[j].rep = id
     ·rw [if_pos hid] at g2
      rcases CE V[j].runs with e|⟨l',r,e⟩
      ·exact absurd e hne
      ·rw [e,mb] at g2
       have hlen:((V[j].runs.length:Nat):Int) - 1 = (l'.length:Nat):=by rw [e];simp
       have hlt:l'.length < V[j].runs.length:=by rw [e];simp
       have hget:V[j].runs[l'.length]'hlt = r:=by simp [e]
       have hto:(V[j].runs[l'.length]'hlt).to = r.to:=by rw [hget]
       rw [← hto] at g2
       have hRl:V[j].runs.length ≤ 2000000000:=by have:=fG Kn.runs (List.getElem_mem hj);omega
       have hmx:=JG m (V[j].runs[l'.length]'hlt).to
       have g4:0 ≤ max m (V[j].runs[l'.length]'hlt).to:=by omega
       clear h2 hv hget hto e hne hvs
       generalize max m (V[j].runs[l'.length]'hlt).to = m' at *
       (refine eL hlen ?_;repeat' first|apply ai|refine aj fun hc=>?_|((first|apply aO rfl|apply aP rfl|apply aQ rfl|apply aR rfl);(focus ((try (apply b8;(focus rfl);apply ah rfl rfl rfl rfl rfl));first|((exact mV ⟨rfl,rfl,rfl⟩ rfl rfl rfl hmx))));refine eL hlen ?_))
       refine ⟨(j + 1,m'),⟨by simp only;omega,g4,g2⟩,by simp only;omega,?_⟩
       exact ae
     ·rw [if_neg hid] at g2
      clear h2
      (refine w0 ?_;repeat' first|apply ai|refine aj fun hc=>?_)
      refine ⟨(j + 1,m),⟨by simp only;omega,g0,g2⟩,by simp only;omega,?_⟩
      exact ae
    ·rw [List.drop_of_length_le (by omega)] at g2
     have g2:m = V.foldl (nk id) n:=g2
     rw [← g2] at h2
     clear g2
     (refine w0 ?_;repeat' first|apply ai|refine aj fun hc=>?_)
     refine ⟨(i + 1,m),⟨by simp only;omega,g0,h2⟩,by simp only;omega,?_⟩
     exact ae
  ·rw [List.drop_of_length_le (by omega)] at h2
   have h2:n = R:=h2
   subst h2
   clear hk hR
   (refine w0 ?_;repeat' first|apply ai|refine aj fun hc=>?_)
   refine aU ?_
   exact aH rfl rfl
theorem u9 (l:List It) (hl:l.length ≤ 1000000):Fn Tryz.prog 54 [eD l] (cw (dV l)):=by
 have hE:∀ x y:Vn,xN Tryz.prog 10000 39 [.int .i64 x.1,.int .i64 x.2] [.int .i64 y.1,.int .i64 y.2] = some (decide (x = y)):=fun x y=>(vN x.1 x.2 y.1 y.2).trans (congrArg some (Nb x y))
 generalize hR:dV l = R
 unfold dV at hR
 refine fi Tryz.func54 Tryz.ntmps54 ?_
 (refine w0 ?_;repeat' first|apply ai|refine aj fun hc=>?_)
 refine an (X:=Nat) (fun i=>i ≤ l.length ∧ ((l.take i).map verOf).Nodup) (fun i=>ba [(0,eD l),(3,iC .i64 (i:Nat))] []) (fun i=>l.length - i) 0 ⟨Nat.zero_le _,by simp⟩ ?_ ?_
 ·exact ae
 ·rintro i ⟨h1,h2⟩
  by_cases hi:i < l.length
  ·(refine w0 ?_;repeat' first|apply ai|refine aj fun hc=>?_)
   refine an (X:=Nat) (fun j=>j ≤ i ∧ ∀ q (h:q < i),q < j → verOf l[i] ≠ verOf (l[q]'(by omega))) (fun j=>ba [(0,eD l),(3,iC .i64 (i:Nat)),(4,iC .i64 (j:Nat))] []) (fun j=>i - j) 0 ⟨Nat.zero_le _,fun q _ h=>by omega⟩ ?_ ?_
   ·exact ae
   ·rintro j ⟨g1,g2⟩
    by_cases hj:j < i
    ·have hjl:j < l.length:=by omega
     have hE1:=hE (verOf l[i]) (verOf l[j])
     by_cases hv:verOf l[i] = verOf l[j]
     ·rw [decide_eq_true hv] at hE1
      have hf:R = false:=by
       rw [← hR]
       refine decide_eq_false fun hn=>?_
       rw [List.nodup_iff_pairwise_ne,List.pairwise_iff_getElem] at hn
       have:=hn j i (by simpa using hjl) (by simpa using hi) hj
       simp only [List.getElem_map] at this
       exact this hv.symm
      rw [hf]
      clear hE hR g2 h2
      (refine w0 ?_;repeat' first|apply ai|refine aj fun hc=>?_|((first|apply aO rfl|apply aP rfl|apply aQ rfl|apply aR rfl);(focus ((try (apply b8;(focus rfl);apply ah rfl rfl rfl rfl rfl));first|((apply bn 5;(focus rfl);first|exact bg ⟨rfl,rfl,rfl⟩ rfl inferInstance inferInstance rfl rfl rfl rfl|exact bh ⟨rfl,rfl,rfl⟩ rfl inferInstance inferInstance rfl rfl rfl rfl))|(exact dR (us:=[.int .i64 l[i].rep,.int .i64 l[i].cnt]) (vs:=[.int .i64 l[j].rep,.int .i64 l[j].cnt]) ⟨rfl,rfl,rfl⟩ rfl rfl rfl (by first|exact .inl ⟨rfl,rfl⟩|exact .inr ⟨rfl,rfl⟩) AH rfl hE1)));refine w0 ?_))
      refine aU ?_
      exact af rfl rfl
     ·rw [decide_eq_false hv] at hE1
      have g3:∀ q (h:q < i),q < j + 1 → verOf l[i] ≠ verOf (l[q]'(by omega)):=fun q h hq=>by
       rcases Nat.lt_or_ge q j with w|w
       ·exact g2 q h w
       ·obtain rfl:q = j:=by omega
        exact hv
      clear hE hR g2 h2
      (refine w0 ?_;repeat' first|apply ai|refine aj fun hc=>?_|((first|apply aO rfl|apply aP rfl|apply aQ rfl|apply aR rfl);(focus ((try (apply b8;(focus rfl);apply ah rfl rfl rfl rfl rfl));first|((apply bn 5;(focus rfl);first|exact bg ⟨rfl,rfl,rfl⟩ rfl inferInstance inferInstance rfl rfl rfl rfl|exact bh ⟨rfl,rfl,rfl⟩ rfl inferInstance inferInstance rfl rfl rfl rfl))|(exact dR (us:=[.int .i64 l[i].rep,.int .i64 l[i].cnt]) (vs:=[.int .i64 l[j].rep,.int .i64 l[j].cnt]) ⟨rfl,rfl,rfl⟩ rfl rfl rfl (by first|exact .inl ⟨rfl,rfl⟩|exact .inr ⟨rfl,rfl⟩) AH rfl hE1)));refine w0 ?_))
      refine ⟨j + 1,⟨by omega,g3⟩,by omega,?_⟩
      exact ae
    ·have h3:((l.take (i + 1)).map verOf).Nodup:=by
      rw [aJ l i hi,List.map_append,List.nodup_append]
      refine ⟨h2,by simp,fun a ha b hb=>?_⟩
      have hb:b = verOf l[i]:=by simpa using hb
      subst hb
      obtain ⟨x,hx,rfl⟩:=List.mem_map.1 ha
      obtain ⟨q,hq,rfl⟩:=List.getElem_of_mem hx
      rw [List.getElem_take]
      have hq:q < i:=by rw [List.length_take] at hq;omega
      exact fun e=>g2 q hq (by omega) e.symm
     clear hE hR g2 h2
     (refine w0 ?_;repeat' first|apply ai|refine aj fun hc=>?_)
     refine ⟨i + 1,⟨by omega,h3⟩,by omega,?_⟩
     exact ae
  ·rw [List.take_of_length_le (by omega)] at h2
   rw [decide_eq_true h2] at hR
   subst hR
   clear hE
   (refine w0 ?_;repeat' first|apply ai|refine aj fun hc=>?_)
   refine aU ?_
   exact af rfl rfl
end
end Go.Proofs.YtliiahjpiagdkaaGreat
