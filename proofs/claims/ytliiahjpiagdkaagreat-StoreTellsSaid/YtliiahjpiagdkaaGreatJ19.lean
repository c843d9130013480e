/- Texts joined: Wins Law18 Best LawCh Find StP SwP. -/
import Derived.Test.YtliiahjpiagdkaaGreatJ18
import Derived.Test.YtliiahjpiagdkaaGreatJ05
import Derived.Test.YtliiahjpiagdkaaGreatJ07
import Derived.Test.YtliiahjpiagdkaaGreatJ14
import Derived.Test.YtliiahjpiagdkaaGreatJ17
set_option maxRecDepth 10000
set_option maxHeartbeats 8000000
namespace Go.Proofs.YtliiahjpiagdkaaGreat
open Go.RowKit
def Qy:It:=⟨⟨#[]⟩,0,0,0,0,false,⟨#[]⟩⟩
def wg (b:Option (Nat × It)) (i:Nat) (x:It):Option (Nat × It):=if itR x then (match b with
 | none=>some (i,x)
 | some p=>if oE x p.2 > 0 then some (i,x) else some p) else b
def ao:Option (Nat × It) → Int
 | none=>-1
 | some p=>(p.1:Nat)
def NU (l:List It) (b:Option (Nat × It)):Prop:=∀ p,b = some p → l[p.1]? = some p.2 ∧ itR p.2 = true
theorem LP {l:List It} {b:Option (Nat × It)} {i:Nat} (hi:i < l.length) (h:NU l b):NU l (wg b i l[i]):=by
 intro p hp
 unfold wg at hp
 split at hp
 ·rename_i hr
  cases b with
  | none=>simp at hp;subst hp;exact ⟨by simp [hi],hr⟩
  | some q=>
   simp only at hp
   split at hp
   ·cases hp;exact ⟨by simp [hi],hr⟩
   ·cases hp;exact h _ rfl
 ·exact h _ hp
theorem mY (s u:ByteArray):s.toList = u.toList ↔ s = u:=by
 rw [← io,beq_toListBytes,beq_iff_eq]
section
abbrev P8 (ls:List (List It)):Cnt:=.bor 1 (ls.map fun l=>[dC l])
abbrev IG (l:List It):Ret:=.own 41 7 (l.map itP)
theorem nR (ls:List (List It)) (hl:(ls.flatten.filter itR).length ≤ 100000000) (hn:ls.length ≤ 1000000000) (hm:∀ l ∈ ls,l.length ≤ 1000000000):Fn Tryz.prog 84 [P8 ls] (IG (bN ls)):=by
 generalize hT:ls.flatten.filter itR = T at *
 have hTr:∀ x ∈ T,itR x = true:=fun x hx=>by rw [← hT] at hx;exact (List.mem_filter.1 hx).2
 have hs:=qJ T (Ev hTr) hl
 generalize hR:bN ls = R
 unfold bN at hR
 rw [hT] at hR
 have hql:=gv T
 generalize d8 T = Q at *
 refine fi Tryz.func84 Tryz.ntmps84 ?_
 (refine w0 ?_;repeat' first|apply ai|refine aj fun hc=>?_)
 refine bZ (b7 3 600 41 7 rfl rfl) ?_
 refine an (X:=Nat × List It) (fun x=>x.1 ≤ ls.length ∧ x.2 ++ (ls.drop x.1).flatten.filter itR = T)
  (fun x=>ba [(3,.row 600 0),(12,P8 ls),(13,iC .i64 (ls.length:Nat)),(14,iC .i64 (x.1:Nat))] [(600,eS x.2)]) (fun x=>ls.length - x.1) (0,[]) ⟨Nat.zero_le _,by simp [hT]⟩ ?_ ?_
 ·exact ae
 ·rintro ⟨i,acc⟩ ⟨h1,h2⟩
  simp only at h1 h2 ⊢
  by_cases hlt:i < ls.length
  ·have hml:=hm _ (List.getElem_mem hlt)
   rw [List.drop_eq_getElem_cons hlt,List.flatten_cons,List.filter_append] at h2
   (refine w0 ?_;repeat' first|apply ai|refine aj fun hc=>?_)
   refine an (X:=Nat × List It) (fun x=>x.1 ≤ ls[i].length ∧ x.2 ++ ((ls[i].drop x.1).filter itR ++ (ls.drop (i + 1)).flatten.filter itR) = T)
    (fun x=>ba [(3,.row 600 0),(12,P8 ls),(13,iC .i64 (ls.length:Nat)),(14,iC .i64 (i:Nat)),(18,.per (dC ls[i])),(19,iC .i64 (ls[i].length:Nat)),(20,iC .i64 (x.1:Nat))] [(600,eS x.2)]) (fun x=>ls[i].length - x.1) (0,acc) ⟨Nat.zero_le _,by simpa using h2⟩ ?_ ?_
   ·exact ae
   ·rintro ⟨k,ac⟩ ⟨g1,g2⟩
    simp only at g1 g2 ⊢
    by_cases hk:k < ls[i].length
    ·have hir:=ny ls[i][k]
     have hlen:ac.length ≤ 100000000:=by
      have:=congrArg List.length g2
      simp only [List.length_append] at this;omega
     rw [List.drop_eq_getElem_cons hk,List.filter_cons] at g2
     cases hr:itR ls[i][k] with
     | false=>
      rw [hr] at hir g2
      (refine az hir ?_;repeat' first|apply ai|refine aj fun hc=>?_)
      refine ⟨(k + 1,ac),⟨by simp only;omega,by simpa using g2⟩,by simp only;omega,?_⟩
      exact ae
     | true=>
      rw [hr] at hir g2
      (refine az hir ?_;repeat' first|apply ai|refine aj fun hc=>?_)
      refine ⟨(k + 1,ac ++ [ls[i][k]]),⟨by simp only;omega,by simpa using g2⟩,by simp only;omega,ay (aN 600 601) (ay (aN 601 600) ?_)⟩
      exact ae
    ·have hkl:k = ls[i].length:=by omega
     rw [hkl,List.drop_length,List.filter_nil,List.nil_append] at g2
     (refine w0 ?_;repeat' first|apply ai|refine aj fun hc=>?_)
     refine ⟨(i + 1,ac),⟨by simp only;omega,g2⟩,by simp only;omega,?_⟩
     exact ae
  ·have hil:i = ls.length:=by omega
   subst hil
   rw [List.drop_length] at h2
   simp at h2
   subst h2
   (refine fB (gj [(1000,600)] hs) ?_;repeat' first|apply ai|refine aj fun hc=>?_)
   clear hs hTr hT hm hn
   refine bZ (b7 8 700 41 7 rfl rfl) ?_
   refine an (X:=Nat × List It) (fun x=>x.1 ≤ Q.length ∧ x.2.length ≤ x.1 ∧ (Q.drop x.1).foldl nP x.2 = R)
    (fun x=>ba [(8,.row 700 0),(34,.row 600 0),(35,iC .i64 (Q.length:Nat)),(36,iC .i64 (x.1:Nat))] [(600,eS Q),(700,eS x.2)]) (fun x=>Q.length - x.1) (0,[]) ⟨Nat.zero_le _,Nat.le_refl _,hR⟩ ?_ ?_
   ·exact ae
   ·rintro ⟨k,out⟩ ⟨g1,g2,g3⟩
    simp only at g1 g2 g3 ⊢
    by_cases hk:k < Q.length
    ·have hol:out.length ≤ 100000000:=by omega
     have HQ:(Q.map itP)[k]? = some (itP Q[k]):=by rw [List.getElem?_map,List.getElem?_eq_getElem hk];rfl
     rw [List.drop_eq_getElem_cons hk,List.foldl_cons,nP] at g3
     rcases dU out with rfl|⟨o,y,rfl⟩
     ·simp only [List.reverse_nil] at g3
      (refine w0 ?_;repeat' first|apply ai|refine aj fun hc=>?_|((first|apply aO rfl|apply aP rfl|apply aQ rfl|apply aR rfl);(focus ((try (apply b8;(focus rfl);apply ah rfl rfl rfl rfl rfl));first|((apply bn 5;(focus rfl);exact aB ⟨rfl,rfl,rfl⟩ rfl inferInstance inferInstance rfl rfl rfl HQ rfl rfl rfl))));refine w0 ?_))
      refine ⟨(k + 1,[Q[k]]),⟨by simp only;omega,by simp,g3⟩,by simp only;omega,ay (aN 700 701) (ay (aN 701 700) ?_)⟩
      exact ae
     ·simp only [List.reverse_append,List.reverse_cons,List.reverse_nil,List.nil_append,List.singleton_append,List.reverse_reverse] at g3
      have hcm:=Hk Q[k] y
      have hL1:(o ++ [y]).length = o.length + 1:=by simp
      generalize hL:o ++ [y] = L at *
      have HY:(L.map itP)[((L.length:Int) - 1).toNat]? = some (itP y):=by
       rw [List.getElem?_map,← hL,show (((o ++ [y]).length:Int) - 1).toNat = o.length by rw [hL];omega]
       simp
      have HS:(L.map itP).set ((L.length:Int) - 1).toNat (cG (itP y) 0 (itP Q[k])) = (o ++ [Q[k]]).map itP:=by
       rw [show (L.map itP).set ((L.length:Int) - 1).toNat (cG (itP y) 0 (itP Q[k])) = (L.set ((L.length:Int) - 1).toNat Q[k]).map itP from cN itP _ _ _,← hL,gQ o y Q[k] [] _ (by rw [hL];omega)]
      by_cases hky:y.key = Q[k].key
      ·rw [if_pos hky] at g3
       (refine az hcm ?_;repeat' first|apply ai|refine aj fun hc=>?_|((first|apply aO rfl|apply aP rfl|apply aQ rfl|apply aR rfl);(focus ((try (apply b8;(focus rfl);apply ah rfl rfl rfl rfl rfl));first|((apply bn 5;(focus rfl);first|exact bm ⟨rfl,rfl,rfl⟩ rfl inferInstance rfl rfl rfl HY rfl|exact aB ⟨rfl,rfl,rfl⟩ rfl inferInstance inferInstance rfl rfl rfl HY rfl rfl rfl|exact aB ⟨rfl,rfl,rfl⟩ rfl inferInstance inferInstance rfl rfl rfl HQ rfl rfl rfl))|((apply bn 6;(focus rfl);exact aX ⟨rfl,rfl⟩ rfl inferInstance rfl rfl rfl rfl HY rfl (.inl rfl) rfl HS))));refine az hcm ?_))
       ·rw [if_pos (by omega)] at g3
        refine ⟨(k + 1,o ++ [Q[k]]),⟨by simp only;omega,by simp;omega,g3⟩,by simp only;omega,?_⟩
        exact ae
       ·rw [if_neg (by omega)] at g3
        refine ⟨(k + 1,L),⟨by simp only;omega,by simp only;omega,g3⟩,by simp only;omega,?_⟩
        exact ae
      ·rw [if_neg hky] at g3
       have hne:y.key.toList ≠ Q[k].key.toList:=fun h=>hky ((mY _ _).1 h)
       (refine az hcm ?_;repeat' first|apply ai|refine aj fun hc=>?_|((first|apply aO rfl|apply aP rfl|apply aQ rfl|apply aR rfl);(focus ((try (apply b8;(focus rfl);apply ah rfl rfl rfl rfl rfl));first|((apply bn 5;(focus rfl);first|exact bm ⟨rfl,rfl,rfl⟩ rfl inferInstance rfl rfl rfl HY rfl|exact aB ⟨rfl,rfl,rfl⟩ rfl inferInstance inferInstance rfl rfl rfl HY rfl rfl rfl|exact aB ⟨rfl,rfl,rfl⟩ rfl inferInstance inferInstance rfl rfl rfl HQ rfl rfl rfl))|((apply bn 6;(focus rfl);exact aX ⟨rfl,rfl⟩ rfl inferInstance rfl rfl rfl rfl HY rfl (.inl rfl) rfl HS))));refine az hcm ?_))
       refine ⟨(k + 1,L ++ [Q[k]]),⟨by simp only;omega,by simp;omega,g3⟩,by simp only;omega,ay (aN 700 701) (ay (aN 701 700) ?_)⟩
       exact ae
    ·have hkl:k = Q.length:=by omega
     rw [hkl,List.drop_length,List.foldl_nil] at g3
     (refine w0 ?_;repeat' first|apply ai|refine aj fun hc=>?_)
     refine aU ?_
     exact fN rfl rfl rfl (by rw [g3])
end
section
variable {P:Program} {n t:Nat} {ops:Array Oper} {o:Oper} {S:St}
theorem NV {op:BinOp} {q:Bool} {ty ty':TypeId} {x y:Operand} {u v:Bool} (hp:Pl n o t) (ho:o.op = .binOp op ty x y ty') (hT:dQ P ty .bool) (hx:S.opd x = bC u) (hy:S.opd y = bC v) (hq:Nm q op):aw n P ops o (aA x ++ aA y) (bC ((u == v) != q)) [] S:=
 aM hp fun C T g a w hA hR=>by
  have h1:=aV (x:=x) hA (fun k h=>by simp [h]) hR hx
  have h2:=aV (x:=y) hA (fun k h=>by simp [h]) hR hy
  refine ⟨.bool ((u == v) != q),?_,rfl⟩
  rcases hq with ⟨rfl,rfl⟩|⟨rfl,rfl⟩
  ·simp [execOp,ho,h1,h2,eqGuard_at_bool,run_eql_bool _ _ _ _ hT.h]
  ·simp [execOp,ho,h1,h2,eqGuard_at_bool,run_neq_bool _ _ _ _ hT.h]
end
section
end
def jK:Option It → Option It → Option It
 | none,b=>b
 | some a,none=>some a
 | some a,some b=>if oE b a > 0 then some b else some a
theorem gR (a:Option It):jK a none = a:=by cases a <;> rfl
theorem oZ (x y:It):oE x y > 0 ↔ (x.rank > y.rank ∨ x.rank = y.rank ∧ (x.rep > y.rep ∨ x.rep = y.rep ∧ x.cnt > y.cnt)):=by
 unfold oE yd
 split
 ·exact ⟨fun _=>.inl (by assumption),fun _=>by decide⟩
 ·split
  ·exact ⟨fun h=>absurd h (by decide),fun h=>by omega⟩
  ·split
   ·exact ⟨fun h=>absurd h (by decide),fun h=>by omega⟩
   ·split
    ·exact ⟨fun h=>absurd h (by decide),fun h=>by omega⟩
    ·exact ⟨fun h=>by omega,fun h=>by decide⟩
theorem sB (a b c:Option It):jK (jK a b) c = jK a (jK b c):=by
 cases a with
 | none=>rfl
 | some a=>
  cases b with
  | none=>rfl
  | some b=>
   cases c with
   | none=>simp only [gR]
   | some c=>
    simp only [jK]
    by_cases h1:oE b a > 0 <;> by_cases h2:oE c b > 0 <;> simp only [h1,h2,if_true,if_false]
    all_goals (rw [oZ] at h1 h2)
    ·rw [if_pos];rw [oZ];omega
    ·rw [if_neg];rw [oZ];omega
def Pe (b:Option It) (x:It):Option It:=jK b (some x)
def cj (k:ByteArray) (l:List It):Option It:=(l.filter fun x=>x.key == k).foldl Pe none
theorem yO (l:List It):∀ b,l.foldl Pe b = jK b (l.foldl Pe none):=by
 induction l with
 | nil=>intro b;exact (gR b).symm
 | cons x l ih=>
  intro b
  rw [List.foldl_cons,List.foldl_cons,ih (Pe b x),ih (Pe none x)]
  exact sB b (some x) _
theorem d9 (k:ByteArray) (l r:List It):cj k (l ++ r) = jK (cj k l) (cj k r):=by
 unfold cj
 rw [List.filter_append,List.foldl_append,yO]
theorem fJ (k:ByteArray) (x:It):cj k [x] = if x.key == k then some x else none:=by
 unfold cj
 rw [List.filter_cons]
 split <;> rfl
theorem i8 {k:ByteArray} {l:List It} (h:∀ x ∈ l,x.key ≠ k):cj k l = none:=by
 unfold cj
 rw [List.filter_eq_nil_iff.2 (fun x hx=>by simpa [io] using h x hx)];rfl
theorem uL:∀ (a b:List UInt8),cz b a = - cz a b ∧ (cz a b = 0 → a = b):=by
 intro a
 induction a with
 | nil=>intro b;cases b <;> simp [cz]
 | cons x a ih=>
  intro b
  cases b with
  | nil=>simp [cz]
  | cons y b=>
   obtain ⟨h1,h2⟩:=ih b
   simp only [cz]
   refine ⟨?_,?_⟩
   ·split
    ·split
     ·omega
     ·rfl
    ·split
     ·rfl
     ·exact h1
   ·split
    ·intro h;cases h
    ·split
     ·intro h;cases h
     ·intro h
      rw [h2 h,show x = y from UInt8.toNat_inj.1 (by omega)]
theorem kQ (s t:ByteArray):bu s t = 0 ↔ s = t:=by
 constructor
 ·intro h
  have:=(uL s.data.toList t.data.toList).2 h
  cases s;cases t;simp only at this;rw [Array.toList_inj.1 this]
 ·rintro rfl
  exact (ra s.data.toList [] []).1
theorem uM (s t:ByteArray):bu t s = - bu s t:=(uL _ _).1
theorem LQ (x y:It):sm ltK x y = (y.key == x.key):=by
 have h1:=kQ y.key x.key
 have h2:=uM y.key x.key
 rw [Bool.eq_iff_iff,io,← h1]
 unfold sm ltK
 simp only [Bool.and_eq_true,Bool.not_eq_true',decide_eq_false_iff_not]
 omega
theorem CV (x:It):sm ltK x = fun y=>y.key == x.key:=funext (LQ x)
theorem IH {M N:List It} (h:i7 ltK M N) (k:ByteArray):cj k N = cj k M:=by
 have:=h ⟨k,0,0,0,0,false,⟨#[]⟩⟩
 simp only [CV] at this
 unfold cj;rw [this]
def Up (l:List It):Prop:=l.Pairwise fun x y=>ltK x y = true
theorem Up.srt {l:List It} (h:Up l):lS ltK l:=h.imp fun h=>dA.asym h
theorem wh {x y:It} (h:ltK x y = true):x.key ≠ y.key:=fun e=>by
 rw [fj,e,(kQ _ _).2 rfl] at h;omega
theorem wi {x y:It} (h1:ltK x y = false) (h2:y.key ≠ x.key):ltK y x = true:=by
 rw [yN] at h1
 have h3:=uM x.key y.key
 have h4:bu y.key x.key ≠ 0:=mt (kQ y.key x.key).1 h2
 rw [fj];omega
theorem Up.filter {l:List It} (h:Up l) (k:ByteArray):l.filter (fun x=>x.key == k) = (cj k l).toList:=by
 unfold cj
 suffices hs:∃ o:Option It,l.filter (fun x=>x.key == k) = o.toList by
  obtain ⟨o,ho⟩:=hs
  rw [ho];cases o <;> rfl
 induction l with
 | nil=>exact ⟨none,rfl⟩
 | cons x l ih=>
  have h':=List.pairwise_cons.1 h
  rw [List.filter_cons]
  split
  ·rename_i hx
   rw [io] at hx
   refine ⟨some x,?_⟩
   rw [List.filter_eq_nil_iff.2 (fun y hy e=>by
    rw [io] at e
    exact wh (h'.1 y hy) (hx.trans e.symm))]
   rfl
  ·exact ih h'.2
theorem Up.uniq {M N:List It} (hM:Up M) (hN:Up N) (h:∀ k,cj k M = cj k N):M = N:=
 lS.uniq dA hM.srt hN.srt fun x=>by simp only [CV];rw [hN.filter,hM.filter,h]
theorem II:∀ (r P out:List It),lS ltK r → Up out → (∀ z ∈ out,∀ x ∈ r,ltK x z = false) → (∀ z ∈ out,z ∈ P) → (∀ k,cj k out = cj k P) →
 Up (r.foldl nP out) ∧ (∀ z ∈ r.foldl nP out,z ∈ P ++ r) ∧ ∀ k,cj k (r.foldl nP out) = cj k (P ++ r):=by
 intro r
 induction r with
 | nil=>intro P out _ h2 _ h4 h5;simpa using ⟨h2,h4,h5⟩
 | cons x r ih=>
  intro P out h1 h2 h3 h4 h5
  have h1':=List.pairwise_cons.1 h1
  have key:Up (nP out x) ∧ (∀ z ∈ nP out x,z = x ∨ z ∈ out) ∧ ∀ k,cj k (nP out x) = jK (cj k out) (cj k [x]):=by
   unfold nP
   rcases dU out with rfl|⟨o,y,rfl⟩
   ·exact ⟨List.pairwise_singleton _ _,fun z hz=>by simp at hz;exact .inl hz,fun k=>rfl⟩
   ·simp only [List.reverse_append,List.reverse_cons,List.reverse_nil,List.nil_append,List.singleton_append,List.reverse_reverse]
    have hu:=List.pairwise_append.1 h2
    have hyx:=h3 y (by simp) x (by simp)
    split
    ·rename_i hk
     have ho:∀ z ∈ o,z.key ≠ y.key:=fun z hz=>wh (hu.2.2 z hz y (by simp))
     split
     ·rename_i hc
      refine ⟨List.pairwise_append.2 ⟨hu.1,List.pairwise_singleton _ _,fun z hz w hw=>?_⟩,fun z hz=>?_,fun k=>?_⟩
      ·simp at hw;subst hw
       have:=hu.2.2 z hz y (by simp)
       rw [fj,hk] at this;rw [fj];exact this
      ·simp at hz ⊢;rcases hz with q|q
       ·exact .inr (.inl q)
       ·exact .inl q
      ·rw [d9,d9,fJ,fJ,hk]
       by_cases hkk:(x.key == k) = true
       ·simp only [hkk,if_true]
        rw [i8 (fun z hz e=>ho z hz (by rw [e,hk,(io _ _).1 hkk]))]
        simp [jK,hc]
       ·simp only [hkk];simp [gR]
     ·rename_i hc
      refine ⟨h2,fun z hz=>.inr hz,fun k=>?_⟩
      rw [d9,fJ,fJ,hk]
      by_cases hkk:(x.key == k) = true
      ·simp only [hkk,if_true]
       rw [i8 (fun z hz e=>ho z hz (by rw [e,hk,(io _ _).1 hkk]))]
       simp only [jK];rw [if_neg hc]
      ·simp only [hkk];simp [gR]
    ·rename_i hk
     have hlt:=wi hyx hk
     refine ⟨List.pairwise_append.2 ⟨h2,List.pairwise_singleton _ _,fun z hz w hw=>?_⟩,fun z hz=>?_,fun k=>d9 k _ _⟩
     ·simp at hw;subst hw
      rcases List.mem_append.1 hz with q|q
      ·exact dA.tr z y _ (hu.2.2 z q y (by simp)) hlt
      ·simp at q;subst q;exact hlt
     ·rcases List.mem_append.1 hz with q|q
      ·exact .inr q
      ·simp at q;exact .inl q
  obtain ⟨k1,k2,k3⟩:=key
  have:=ih (P ++ [x]) (nP out x) h1'.2 k1 (fun z hz w hw=>?_) (fun z hz=>?_) (fun k=>by rw [k3,d9,h5])
  ·simpa using this
  ·rcases k2 z hz with q|q
   ·subst q;exact h1'.1 w hw
   ·exact h3 z q w (by simp [hw])
  ·rcases k2 z hz with q|q
   ·subst q;simp
   ·exact List.mem_append_left _ (h4 z q)
theorem cZ (ls:List (List It)):Up (bN ls) ∧ (∀ z ∈ bN ls,z ∈ ls.flatten.filter itR) ∧ ∀ k,cj k (bN ls) = cj k (ls.flatten.filter itR):=by
 unfold bN
 generalize ls.flatten.filter itR = T
 obtain ⟨h1,h2,h3⟩:=II (d8 T) [] [] (ma T) List.Pairwise.nil (fun z h=>by simp at h) (fun z h=>by simp at h) (fun _=>rfl)
 exact ⟨h1,fun z hz=>(j1 T).mem dA (by simpa using h2 z hz),fun k=>by rw [h3,List.nil_append,IH (j1 T)]⟩
theorem wj {ls:List (List It)}:(bN ls).filter itR = bN ls:=List.filter_eq_self.2 fun z hz=>(List.mem_filter.1 ((cZ ls).2.1 z hz)).2
theorem sD (ls:List (List It)):(bN ls).length ≤ (ls.flatten.filter itR).length:=by
 unfold bN
 generalize ls.flatten.filter itR = T
 have:∀ (r out:List It),(r.foldl nP out).length ≤ out.length + r.length:=by
  intro r
  induction r with
  | nil=>intro out;exact Nat.le_refl _
  | cons x r ih=>
   intro out
   rw [List.foldl_cons,List.length_cons]
   have h1:=ih (nP out x)
   have h2:=IA out x
   omega
 have:=this (d8 T) []
 rw [gv] at this
 simpa using this
section
end
def wk (l:List It) (i:Nat):Prop:=∀ h:i < l.length,itR l[i] = true ∧ ∀ h0:0 < i,bu l[i - 1].key l[i].key < 0
def sE (l:List It):Prop:=∀ i,wk l i
theorem pU {l:List It} (h:sE l):Up l:=by
 unfold Up
 rw [List.pairwise_iff_getElem]
 intro i j hi hj hij
 induction j with
 | zero=>omega
 | succ j ih=>
  have h1:=(h (j + 1) hj).2 (by omega)
  simp only [Nat.add_sub_cancel] at h1
  rcases Nat.lt_or_ge i j with q|q
  ·exact dA.tr _ _ _ (ih (by omega) q) (by rw [fj];exact h1)
  ·obtain rfl:i = j:=by omega
   rw [fj];exact h1
theorem wl {l:List It} (h:sE l):∀ x ∈ l,itR x = true:=fun x hx=>by
 obtain ⟨i,hi,rfl⟩:=List.getElem_of_mem hx
 exact (h i hi).1
section
variable {P:Program} {n t:Nat} {ops:Array Oper} {o:Oper} {S:St}
end
section
theorem uN (l:List It) (hk:lm l) (hl:l.length ≤ 1000000000) (b:Bool) (hb:b = true ↔ sE l):Fn Tryz.prog 76 [eD l] (cw b):=by
 refine fi Tryz.func76 Tryz.ntmps76 ?_
 (refine w0 ?_;repeat' first|apply ai|refine aj fun hc=>?_)
 refine an (X:=Nat) (fun z=>z ≤ l.length ∧ ∀ i,i < z → wk l i)
  (fun z=>ba [(0,eD l),(5,eD l),(6,iC .i64 (l.length:Nat)),(7,iC .i64 (z:Nat))] []) (fun z=>l.length - z) 0 ⟨Nat.zero_le _,fun i h=>absurd h (Nat.not_lt_zero _)⟩ ?_ ?_
 ·exact ae
 ·rintro z ⟨h1,h2⟩
  by_cases hz:z < l.length
  ·have hir:=ny l[z]
   have hno:¬ wk l z → b = false:=fun h=>by rw [← Bool.not_eq_true,hb];exact fun q=>h (q z)
   cases hr:itR l[z] with
   | false=>
    have hb0:=hno (fun h=>by have:=(h hz).1;rw [hr] at this;cases this)
    subst hb0
    clear hb hno h2
    rw [hr] at hir
    (refine az hir ?_;repeat' first|apply ai|refine aj fun hc=>?_)
    refine aU ?_
    exact af rfl rfl
   | true=>
    rw [hr] at hir
    by_cases h0:0 < z
    ·obtain ⟨q,rfl⟩:∃ q,z = q + 1:=⟨z - 1,by omega⟩
     have hqE:((q + 1:Nat):Int) - 1 = (q:Nat):=by omega
     have hcm:=eN l[q].key l[q + 1].key (by have:=hk l[q] (List.getElem_mem _);omega)
     by_cases hlt:bu l[q].key l[q + 1].key < 0
     ·have hok:wk l (q + 1):=fun _=>⟨hr,fun _=>hlt⟩
      clear hb hno
      (refine bi hqE hir hcm ?_;repeat' first|apply ai|refine aj fun hc=>?_)
      refine ⟨q + 1 + 1,⟨by omega,fun i hi=>?_⟩,by omega,?_⟩
      ·rcases Nat.lt_or_ge i (q + 1) with q'|q'
       ·exact h2 i q'
       ·obtain rfl:i = q + 1:=by omega
        exact hok
      ·exact ae
     ·have hb0:=hno (fun h=>hlt ((h hz).2 h0))
      subst hb0
      clear hb hno h2
      (refine bi hqE hir hcm ?_;repeat' first|apply ai|refine aj fun hc=>?_)
      refine aU ?_
      exact af rfl rfl
    ·have hok:wk l z:=fun _=>⟨hr,fun h=>absurd h h0⟩
     clear hb hno
     (refine az hir ?_;repeat' first|apply ai|refine aj fun hc=>?_)
     refine ⟨z + 1,⟨by omega,fun i hi=>?_⟩,by omega,?_⟩
     ·rcases Nat.lt_or_ge i z with q|q
      ·exact h2 i q
      ·obtain rfl:i = z:=by omega
       exact hok
     ·exact ae
  ·have hb1:b = true:=hb.2 (fun i=>by
    rcases Nat.lt_or_ge i z with q|q
    ·exact h2 i q
    ·exact fun h=>by omega)
   subst hb1
   clear hb h2
   (refine w0 ?_;repeat' first|apply ai|refine aj fun hc=>?_)
   refine aU ?_
   exact af rfl rfl
theorem yP (l:List It) (hk:lm l) (hl:l.length ≤ 1000000000) (b:Bool) (hb:b = true ↔ sE l):Fn Tryz.prog 49 [eD l] (cw b):=by
 refine fi Tryz.func49 Tryz.ntmps49 ?_
 (refine w0 ?_;repeat' first|apply ai|refine aj fun hc=>?_)
 refine an (X:=Nat) (fun z=>z ≤ l.length ∧ ∀ i,i < z → wk l i)
  (fun z=>ba [(0,eD l),(3,iC .i64 (z:Nat))] []) (fun z=>l.length - z) 0 ⟨Nat.zero_le _,fun i h=>absurd h (Nat.not_lt_zero _)⟩ ?_ ?_
 ·exact ae
 ·rintro z ⟨h1,h2⟩
  by_cases hz:z < l.length
  ·have hir:=lR l[z]
   have hno:¬ wk l z → b = false:=fun h=>by rw [← Bool.not_eq_true,hb];exact fun q=>h (q z)
   cases hr:itR l[z] with
   | false=>
    have hb0:=hno (fun h=>by have:=(h hz).1;rw [hr] at this;cases this)
    subst hb0
    clear hb hno h2
    rw [hr] at hir
    (refine az hir ?_;repeat' first|apply ai|refine aj fun hc=>?_)
    refine aU ?_
    exact af rfl rfl
   | true=>
    rw [hr] at hir
    by_cases h0:0 < z
    ·obtain ⟨q,rfl⟩:∃ q,z = q + 1:=⟨z - 1,by omega⟩
     have hqE:((q + 1:Nat):Int) - 1 = (q:Nat):=by omega
     have hcm:=eZ l[q].key l[q + 1].key (by have:=hk l[q] (List.getElem_mem _);omega)
     by_cases hlt:bu l[q].key l[q + 1].key < 0
     ·have hok:wk l (q + 1):=fun _=>⟨hr,fun _=>hlt⟩
      rw [decide_eq_true hlt] at hcm
      clear hb hno
      (refine bi hqE hir hcm ?_;repeat' first|apply ai|refine aj fun hc=>?_)
      refine ⟨q + 1 + 1,⟨by omega,fun i hi=>?_⟩,by omega,?_⟩
      ·rcases Nat.lt_or_ge i (q + 1) with q'|q'
       ·exact h2 i q'
       ·obtain rfl:i = q + 1:=by omega
        exact hok
      ·exact ae
     ·have hb0:=hno (fun h=>hlt ((h hz).2 h0))
      rw [decide_eq_false hlt] at hcm
      subst hb0
      clear hb hno h2
      (refine bi hqE hir hcm ?_;repeat' first|apply ai|refine aj fun hc=>?_)
      refine aU ?_
      exact af rfl rfl
    ·have hok:wk l z:=fun _=>⟨hr,fun h=>absurd h h0⟩
     clear hb hno
     (refine az hir ?_;repeat' first|apply ai|refine aj fun hc=>?_)
     refine ⟨z + 1,⟨by omega,fun i hi=>?_⟩,by omega,?_⟩
     ·rcases Nat.lt_or_ge i z with q|q
      ·exact h2 i q
      ·obtain rfl:i = z:=by omega
       exact hok
     ·exact ae
  ·have hb1:b = true:=hb.2 (fun i=>by
    rcases Nat.lt_or_ge i z with q|q
    ·exact h2 i q
    ·exact fun h=>by omega)
   subst hb1
   clear hb h2
   (refine w0 ?_;repeat' first|apply ai|refine aj fun hc=>?_)
   refine aU ?_
   exact af rfl rfl
end
structure Sta where
 id:Int:=0
 flt:List Rg:=[]
 its:List It:=[]
 know:List Pc:=[]
 cnt:Int:=0
def jq (k:List Pc) (f:List Rg) (s:ByteArray):List Kn:=if bA f s then iW k s else []
def jL (k:List Pc) (f:List Rg):List ByteArray:=iw [emB] (bB k ++ f)
def bz (k:List Pc) (f:List Rg):List Pc:=kL (jq k f) (jL k f)
theorem CX (k:List Pc) (f:List Rg) (s:ByteArray):cg (jq k f s):=by
 unfold jq
 split
 ·exact pN k s
 ·exact gd
theorem pV {k:List Pc} {f:List Rg} {r:Rg} (hr:r ∈ bB k ++ f) {m:ByteArray} (h:jJ r m):m ∈ jL k f:=(e8 _ _ _).2 (.inr ⟨r,hr,h⟩)
theorem LR (k:List Pc) (f:List Rg):wW (jL k f):=CK _ _ (by simp)
theorem LS (k:List Pc) (f:List Rg):emB ∈ jL k f:=(e8 _ _ _).2 (.inl (by simp))
theorem wm (k:List Pc) (f:List Rg):nj (jL k f):=fun m hm=>by
 rcases (e8 _ _ _).1 hm with h|⟨r,_,h1,h2⟩
 ·have h:m = emB:=by simpa using h
  rw [h];decide
 ·have:=(bT r).1 h1
  rcases h2 with h2|⟨_,h2⟩ <;> rw [h2] <;> omega
theorem IJ (k:List Pc) (f:List Rg):Im (jq k f) (jL k f):=fun e n hen h=>by
 have h1:iW k e = iW k n:=CO hen fun p hp m hm=>h m (pV (List.mem_append_left _ (List.mem_map_of_mem hp)) hm)
 have h2:bA f e = bA f n:=by
  unfold bA
  rw [Bool.eq_iff_iff,List.any_eq_true,List.any_eq_true]
  constructor
  ·rintro ⟨r,hr,q⟩
   exact ⟨r,hr,by rw [← pO hen fun m hm=>h m (pV (List.mem_append_right _ hr) hm)];exact q⟩
  ·rintro ⟨r,hr,q⟩
   exact ⟨r,hr,by rw [pO hen fun m hm=>h m (pV (List.mem_append_right _ hr) hm)];exact q⟩
 unfold jq
 rw [h1,h2]
theorem iy (k:List Pc) (f:List Rg):aY (bz k f) ∧ ∀ s,db (bz k f) s = jq k f s:=vX (CX k f) (LR k f) (wm k f) (LS k f) (IJ k f)
def kR (l:List Rn):Int:=match l.getLast? with|some r=>r.to|none=>0
def lc (l:List Rn):Int:=kR (ofR l)
def iK (s:List Kn) (id:Int):Int:=if 1 ≤ id ∧ id ≤ 16 then lc (aK s (id - 1).toNat) else 0
def eG (k:List Pc) (id:Int):Int:=k.foldl (fun n p=>max n (iK p.set id)) 0
theorem mb (l:List Rn) (r:Rn):kR (l ++ [r]) = r.to:=by unfold kR;simp
theorem IK (l:List Rn):0 ≤ lc l:=by
 unfold lc
 have h:=nz l
 generalize ofR l = L at *
 rcases List.eq_nil_or_concat L with rfl|⟨a,y,rfl⟩
 ·exact Int.le_refl 0
 ·rw [List.concat_eq_append,mb]
  have:=(h a.length (by simp) (by simp)).1
  simp at this
  have:=(bK y).1 this
  omega
def nk (id:Int) (n:Int) (k:Kn):Int:=if k.rep = id then max n (kR k.runs) else n
theorem IL (id:Int):∀ (T:List (List Rn)) (i:Nat) (n:Int),0 ≤ n → (bj ofR i T).foldl (nk id) n = if h:(i:Int) < id ∧ id ≤ i + T.length then max n (lc (T[(id - 1 - i).toNat]'(by omega))) else n:=by
 intro T
 induction T with
 | nil=>intro i n hn;rw [dif_neg (fun q=>by have:=q.2;simp only [List.length_nil] at this;omega)];rfl
 | cons l T ih=>
  intro i n hn
  rw [bj,List.foldl_append]
  by_cases e:id = (i:Int) + 1
  ·have h1:(if (ofR l).length = 0 then [] else [(⟨(i:Int) + 1,ofR l⟩:Kn)]).foldl (nk id) n = max n (lc l):=by
    split
    ·rename_i h0
     have:ofR l = []:=List.eq_nil_of_length_eq_zero h0
     have hm:lc l = 0:=by unfold lc;rw [this];rfl
     rw [hm];exact (Int.max_eq_left hn).symm
    ·simp only [List.foldl_cons,List.foldl_nil,nk]
     rw [if_pos e.symm];rfl
   rw [h1,ih (i + 1) _ (by omega),dif_neg (by simp;omega),dif_pos (by simp;omega)]
   have:(id - 1 - (i:Int)).toNat = 0:=by omega
   simp only [this,List.getElem_cons_zero]
  ·have h1:(if (ofR l).length = 0 then [] else [(⟨(i:Int) + 1,ofR l⟩:Kn)]).foldl (nk id) n = n:=by
    split
    ·rfl
    ·simp only [List.foldl_cons,List.foldl_nil,nk]
     rw [if_neg (fun q=>e q.symm)]
   rw [h1,ih (i + 1) n hn]
   by_cases c:(i:Int) < id ∧ id ≤ (i:Int) + ((l :: T).length:Nat)
   ·simp only [List.length_cons] at c
    rw [dif_pos (by omega),dif_pos (by simp only [List.length_cons];omega)]
    obtain ⟨m,hm⟩:∃ m,(id - 1 - (i:Int)).toNat = m + 1:=⟨(id - 1 - (i:Int)).toNat - 1,by omega⟩
    have hm2:(id - 1 - ((i + 1:Nat):Int)).toNat = m:=by omega
    simp only [hm,hm2,List.getElem_cons_succ]
   ·rw [dif_neg (by simp only [List.length_cons] at c;omega),dif_neg c]
theorem Ez (s:List Kn) (id n:Int) (hn:0 ≤ n):(ff ofR s).foldl (nk id) n = max n (iK s id):=by
 unfold ff
 rw [IL id _ 0 n hn]
 unfold iK
 by_cases c:1 ≤ id ∧ id ≤ 16
 ·rw [dif_pos (by rw [bG];omega),if_pos c]
  have h:=b9 s (r:=(id - 1).toNat) (by omega)
  have e:(id - 1 - ((0:Nat):Int)).toNat = (id - 1).toNat:=by omega
  simp only [e]
  rw [List.getElem?_eq_getElem (by rw [bG];omega)] at h
  rw [Option.some.inj h]
 ·rw [dif_neg (by rw [bG];omega),if_neg c];omega
def verOf (x:It):Int × Int:=(x.rep,x.cnt)
def dV (l:List It):Bool:=decide ((l.map verOf).Nodup)
def gC (s:List Kn) (r c:Int):Bool:=cC r c && cH (aK s (r - 1).toNat) c
def bv (k:List Pc) (s:ByteArray) (r c:Int):Bool:=k.any fun p=>aZ p.rg s && gC p.set r c
def du (l:List It):Bool:=l.all itR && decide ((l.map It.key).Pairwise (· < ·))
def f0 (s:Sta):Bool:=
 decide (1 ≤ s.id ∧ s.id ≤ 16) && decide (0 ≤ s.cnt ∧ s.cnt ≤ 1099511627776) && decide (s.its.length ≤ 4096) && decide (dr s.flt) && du s.its && decide (aY s.know) &&
 decide (bz s.know s.flt = s.know) && decide (eG s.know s.id ≤ s.cnt) && dV s.its && s.its.all (fun x=>bA s.flt x.key && bv s.know x.key x.rep x.cnt)
theorem uO (r c:Int):gC [] r c = false:=by unfold gC aK cH;simp
theorem j2:∀ {k:List Pc},aY k → ∀ (s:ByteArray) (r c:Int),bv k s r c = gC (db k s) r c:=by
 intro k
 induction k with
 | nil=>intro _ s r c;rw [lX,uO];rfl
 | cons p l ih=>
  intro h s r c
  have hl:=((ci p l).1 h).2.2
  have e:bv (p :: l) s r c = ((aZ p.rg s && gC p.set r c) || bv l s r c):=rfl
  rw [e,ih hl]
  by_cases q:aZ p.rg s = true
  ·have hn:db l s = []:=by
    by_cases g:db l s = []
    ·exact g
    ·obtain ⟨g1,g2⟩:=j0 h g
     have hr:=(bO ((ci p l).1 h).1.1 s).1 q
     rcases hr.2 with q2|q2
     ·rw [g1] at q2;cases q2
     ·grind
   rw [q,iV q,hn,uO];simp
  ·rw [d7 q,Bool.eq_false_iff.2 q];simp
theorem j3 {s:List Kn} {r c:Int}:gC s r c = true ↔ cC r c = true ∧ eF (aK s (r - 1).toNat) c:=by
 unfold gC
 rw [Bool.and_eq_true,eI]
theorem sF {r c:Int} (h:cC r c = true):1 ≤ r ∧ r ≤ 16:=by
 unfold cC at h
 simp at h
 omega
theorem IM {a b:List Kn} {r c:Int}:gC (ff ofR (a ++ b)) r c = true ↔ gC a r c = true ∨ gC b r c = true:=by
 rw [j3,j3,j3]
 constructor
 ·rintro ⟨h1,h2⟩
  have:=sF h1
  rw [nN _ (by omega),gn,pT,ir] at h2
  rcases h2 with h2|h2
  ·exact .inl ⟨h1,h2⟩
  ·exact .inr ⟨h1,h2⟩
 ·intro h
  have h1:cC r c = true:=by rcases h with h|h <;> exact h.1
  have:=sF h1
  refine ⟨h1,?_⟩
  rw [nN _ (by omega),gn,pT,ir]
  rcases h with h|h
  ·exact .inl h.2
  ·exact .inr h.2
theorem IO:ff ofR [] = []:=kO gd
theorem sG {a b:List Pc} (ha:aY a) (hb:aY b) (s:ByteArray) (r c:Int):bv (qu (a ++ b)) s r c = (bv a s r c || bv b s r c):=by
 obtain ⟨h1,h2⟩:=nK (a ++ b)
 rw [Bool.eq_iff_iff,Bool.or_eq_true,j2 h1,h2,wa,IM,j2 ha,j2 hb,eP ha,eP hb]
theorem yQ (k:List Pc) (f:List Rg):bz (bz k f) f = bz k f:=by
 obtain ⟨h1,h2⟩:=iy k f
 obtain ⟨h3,h4⟩:=iy (bz k f) f
 refine nH h3 h1 fun s=>?_
 rw [h4,h2]
 unfold jq
 by_cases q:bA f s = true
 ·rw [if_pos q,if_pos q,eP h1,h2];unfold jq;rw [if_pos q]
 ·rw [if_neg q,if_neg q]
def nl (f:List Rg) (l:List It):List It:=l.filter fun x=>bA f x.key
def fK (s:Sta) (l:List It) (k:List Pc):Sta × Int:=
 if f0 s = false then ({},41)
 else if du l = false ∨ ¬ aY k then ({},2)
 else if (nl s.flt l).any (fun x=>!bv s.know x.key x.rep x.cnt && !bv (bz k s.flt) x.key x.rep x.cnt) then ({},2)
 else if eG (bz k s.flt) s.id > s.cnt then ({},2)
 else if dV (bN [s.its ++ nl s.flt l]) = false then ({},2)
 else if (bN [s.its ++ nl s.flt l]).length > 4096 then ({},32)
 else (⟨s.id,s.flt,bN [s.its ++ nl s.flt l],qu (s.know ++ bz k s.flt),s.cnt⟩,0)
theorem sH {s:Sta} {l:List It} {k:List Pc} (h:(fK s l k).2 = 0) :
 f0 s = true ∧ du l = true ∧ aY k ∧ (fK s l k).1 = ⟨s.id,s.flt,bN [s.its ++ nl s.flt l],qu (s.know ++ bz k s.flt),s.cnt⟩:=by
 unfold fK at h ⊢
 by_cases c1:f0 s = false
 ·rw [if_pos c1] at h;simp at h
 rw [if_neg c1] at h ⊢
 by_cases c2:du l = false ∨ ¬ aY k
 ·rw [if_pos c2] at h;simp at h
 rw [if_neg c2] at h ⊢
 by_cases c3:(nl s.flt l).any (fun x=>!bv s.know x.key x.rep x.cnt && !bv (bz k s.flt) x.key x.rep x.cnt) = true
 ·rw [if_pos c3] at h;simp at h
 rw [if_neg c3] at h ⊢
 by_cases c4:eG (bz k s.flt) s.id > s.cnt
 ·rw [if_pos c4] at h;simp at h
 rw [if_neg c4] at h ⊢
 by_cases c5:dV (bN [s.its ++ nl s.flt l]) = false
 ·rw [if_pos c5] at h;simp at h
 rw [if_neg c5] at h ⊢
 by_cases c6:(bN [s.its ++ nl s.flt l]).length > 4096
 ·rw [if_pos c6] at h;simp at h
 rw [if_neg c6]
 refine ⟨by simpa using c1,?_,?_,rfl⟩
 ·by_cases q:du l = false
  ·exact absurd (.inl q) c2
  ·simpa using q
 ·by_cases q:aY k
  ·exact q
  ·exact absurd (.inr q) c2
theorem LU:∀ (X:List Kn),((List.range 16).flatMap (aK X)).length ≤ (X.flatMap Kn.runs).length:=by
 intro X
 induction X with
 | nil=>simp [aK];decide
 | cons k X ih=>
  have e:∀ R:List Nat,R.Nodup → (R.flatMap (aK (k :: X))).length ≤ k.runs.length + (R.flatMap (aK X)).length:=by
   intro R
   induction R with
   | nil=>intro _;simp
   | cons r R ih2=>
    intro hn
    obtain ⟨hr,hn⟩:=List.nodup_cons.1 hn
    have e1:aK (k :: X) r = (if k.rep = (r:Int) + 1 then k.runs else []) ++ aK X r:=by unfold aK;rw [List.flatMap_cons]
    rw [List.flatMap_cons,List.flatMap_cons,List.length_append,List.length_append,e1,List.length_append]
    by_cases c:k.rep = (r:Int) + 1
    ·rw [if_pos c]
     have e2:R.flatMap (aK (k :: X)) = R.flatMap (aK X):=by
      rw [List.flatMap_def,List.flatMap_def]
      congr 1
      refine List.map_congr_left fun q hq=>?_
      have : ¬ k.rep = (q : Int) + 1 := fun w => hr (by have : q = r := by omega
                                                        rw [← this];exact hq)
      unfold aK
      rw [List.flatMap_cons,if_neg this,List.nil_append]
     rw [e2];omega
    ·rw [if_neg c]
     have:=ih2 hn
     simp only [List.length_nil];omega
  have:=e (List.range 16) List.nodup_range
  rw [List.flatMap_cons,List.length_append]
  omega
theorem wn:∀ (T:List (List Rn)) (i:Nat),((bj ofR i T).flatMap Kn.runs).length ≤ T.flatten.length:=by
 intro T
 induction T with
 | nil=>intro i;simp [bj]
 | cons l T ih=>
  intro i
  have h1:=ih (i + 1)
  have h2:=vQ l
  rw [bj,List.flatMap_append,List.length_append,List.flatten_cons,List.length_append]
  split
  ·simp only [List.flatMap_nil,List.length_nil];omega
  ·simp only [List.flatMap_cons,List.flatMap_nil,List.append_nil];omega
theorem EA (X:List Kn):((ff ofR X).flatMap Kn.runs).length ≤ (X.flatMap Kn.runs).length:=by
 have h1:=wn (b6 X) 0
 have h2:=LU X
 unfold ff
 have e:(b6 X).flatten = (List.range 16).flatMap (aK X):=by unfold b6;rw [List.flatMap_def]
 rw [e] at h1
 omega
end Go.Proofs.YtliiahjpiagdkaaGreat
