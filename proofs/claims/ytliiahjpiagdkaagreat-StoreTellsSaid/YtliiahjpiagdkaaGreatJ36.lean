/- Texts joined: InW DeZ KkR DeW MrR PlC PlR. -/
import Derived.Test.YtliiahjpiagdkaaGreatJ26
import Derived.Test.YtliiahjpiagdkaaGreatJ09
import Derived.Test.YtliiahjpiagdkaaGreatJ19
import Derived.Test.YtliiahjpiagdkaaGreatJ05
import Derived.Test.YtliiahjpiagdkaaGreatJ17
import Derived.Test.YtliiahjpiagdkaaGreatJ34
import Derived.Test.YtliiahjpiagdkaaGreatJ11
import Derived.Test.YtliiahjpiagdkaaGreatJ32
import Derived.Test.YtliiahjpiagdkaaGreatJ35
set_option maxRecDepth 10000
set_option maxHeartbeats 8000000
namespace Go.Proofs.YtliiahjpiagdkaaGreat
open Go.RowKit
section
def PU (r:List Rg) (l:List It):List It:=l.filter fun x=>bA r x.key
theorem MD (l:List It) (r:List Rg) (hk:lm l) (hl:l.length ≤ 1000000000) (hr:r.length ≤ 12):Fn Tryz.prog 83 [eD l,dS r] (IG (PU r l)):=by
 have h1:=(BG r (by have:=List.length_filter_le eO r;omega) (by omega)).frz
 have h2:∀ s:ByteArray,s.size ≤ 1000000000 → Fn Tryz.prog 82 [.per (fC (sn r)),sC s] (cw (bA r s)):=fun s hs=>by
  have:=Mm (sn r) s (by have:=sq r;omega) hs
  rwa [(mW r).2] at this
 generalize sn r = R at *
 unfold PU
 generalize hT:l.filter (fun x=>bA r x.key) = T
 refine fi Tryz.func83 Tryz.ntmps83 ?_
 (refine az h1 ?_;repeat' first|apply ai|refine aj fun hc=>?_)
 refine bZ (b7 5 600 41 7 rfl rfl) ?_
 refine an (X:=Nat × List It) (fun x=>x.1 ≤ l.length ∧ x.2.length ≤ x.1 ∧ x.2 ++ (l.drop x.1).filter (fun x=>bA r x.key) = T)
  (fun x=>ba [(1,.per (fC R)),(5,.row 600 0),(10,eD l),(11,iC .i64 (l.length:Nat)),(12,iC .i64 (x.1:Nat))] [(600,eS x.2)]) (fun x=>l.length - x.1) (0,[]) ⟨Nat.zero_le _,Nat.le_refl _,by simpa using hT⟩ ?_ ?_
 ·exact ae
 ·rintro ⟨k,ac⟩ ⟨g1,g0,g2⟩
  simp only at g1 g0 g2 ⊢
  by_cases hlt:k < l.length
  ·have h3:=h2 l[k].key (hk _ (List.getElem_mem hlt))
   rw [List.drop_eq_getElem_cons hlt,List.filter_cons] at g2
   clear h2 hT
   cases hr:bA r l[k].key with
   | false=>
    rw [hr] at h3 g2
    (refine az h3 ?_;repeat' first|apply ai|refine aj fun hc=>?_)
    refine ⟨(k + 1,ac),⟨by simp only;omega,by simp only;omega,by simpa using g2⟩,by simp only;omega,?_⟩
    exact ae
   | true=>
    rw [hr] at h3 g2
    (refine az h3 ?_;repeat' first|apply ai|refine aj fun hc=>?_)
    refine ⟨(k + 1,ac ++ [l[k]]),⟨by simp only;omega,by simp;omega,by simpa using g2⟩,by simp only;omega,ay (aN 600 601) (ay (aN 601 600) ?_)⟩
    exact ae
  ·have hkl:k = l.length:=by omega
   subst hkl
   rw [List.drop_length] at g2
   simp at g2
   subst g2
   clear h2 hT
   (refine w0 ?_;repeat' first|apply ai|refine aj fun hc=>?_)
   refine aU ?_
   exact fN rfl rfl rfl rfl
theorem OB (l:List It) (r:List Rg) (hk:lm l) (hl:l.length ≤ 1000000000) (hr:r.length ≤ 1000000000):Fn Tryz.prog 104 [eD l,dS r] (IG (PU r l)):=by
 have h2:∀ s:ByteArray,s.size ≤ 1000000000 → Fn Tryz.prog 34 [dS r,sC s] (cw (bA r s)):=fun s hs=>l7 r s hr hs
 unfold PU
 generalize hT:l.filter (fun x=>bA r x.key) = T
 refine fi Tryz.func104 Tryz.ntmps104 ?_
 (refine w0 ?_;repeat' first|apply ai|refine aj fun hc=>?_)
 refine bZ (b7 5 600 41 7 rfl rfl) ?_
 refine an (X:=Nat × List It) (fun x=>x.1 ≤ l.length ∧ x.2.length ≤ x.1 ∧ x.2 ++ (l.drop x.1).filter (fun x=>bA r x.key) = T)
  (fun x=>ba [(0,eD l),(1,dS r),(5,.row 600 0),(6,iC .i64 (x.1:Nat))] [(600,eS x.2)]) (fun x=>l.length - x.1) (0,[]) ⟨Nat.zero_le _,Nat.le_refl _,by simpa using hT⟩ ?_ ?_
 ·exact ae
 ·rintro ⟨k,ac⟩ ⟨g1,g0,g2⟩
  simp only at g1 g0 g2 ⊢
  by_cases hlt:k < l.length
  ·have h3:=h2 l[k].key (hk _ (List.getElem_mem hlt))
   rw [List.drop_eq_getElem_cons hlt,List.filter_cons] at g2
   clear h2 hT
   cases hr:bA r l[k].key with
   | false=>
    rw [hr] at h3 g2
    (refine az h3 ?_;repeat' first|apply ai|refine aj fun hc=>?_)
    refine ⟨(k + 1,ac),⟨by simp only;omega,by simp only;omega,by simpa using g2⟩,by simp only;omega,?_⟩
    exact ae
   | true=>
    rw [hr] at h3 g2
    (refine az h3 ?_;repeat' first|apply ai|refine aj fun hc=>?_)
    refine ⟨(k + 1,ac ++ [l[k]]),⟨by simp only;omega,by simp;omega,by simpa using g2⟩,by simp only;omega,ay (aN 600 601) (ay (aN 601 600) ?_)⟩
    exact ae
  ·have hkl:k = l.length:=by omega
   subst hkl
   rw [List.drop_length] at g2
   simp at g2
   subst g2
   clear h2 hT
   (refine w0 ?_;repeat' first|apply ai|refine aj fun hc=>?_)
   refine aU ?_
   exact fN rfl rfl rfl rfl
end
end Go.Proofs.YtliiahjpiagdkaaGreat
namespace Go.Proofs.YtliiahjpiagdkaaGreat
section
end
section
theorem zG (a b:List Pc) (ha:bS a) (hb:bS b) (hab:bS (a ++ b)) (la:a.length ≤ 500000) (lb:b.length ≤ 500000):Fn Tryz.prog 106 [bV a,bV b] (l8 (qu (a ++ b))):=by
 have h:=J8 1 a b (iW (a ++ b)) la lb (fun s hs=>E3 a b s ha hb (CS hs)) (fun s _=>by
  have:=v8 hab s
  exact cR.sz ⟨by omega,by omega⟩)
 rw [show kL (iW (a ++ b)) (gP (a ++ b)) = qu (a ++ b) from rfl] at h
 generalize qu (a ++ b) = R at *
 refine fi Tryz.func106 Tryz.ntmps106 ?_
 (refine az h ?_;repeat' first|apply ai|refine aj fun hc=>?_)
 refine aU ?_
 exact cI rfl rfl rfl
end
def tE (s:ByteArray):Nat → Option (Nat × It) → List It → Option (Nat × It)
 | _,b,[]=>b
 | i,b,x :: r=>tE s (i + 1) (if x.key = s then wg b i x else b) r
theorem Fk {s:ByteArray} {b:Option (Nat × It)} {i:Nat} {x:It}:(if x.key = s then wg b i x else b).map Prod.snd = jK (b.map Prod.snd) (cj s ([x].filter itR)):=by
 by_cases hr:itR x = true
 ·rw [List.filter_cons_of_pos hr,List.filter_nil,fJ]
  by_cases hk:x.key = s
  ·rw [if_pos hk,if_pos ((io _ _).2 hk)]
   unfold wg
   rw [if_pos hr]
   cases b with
   | none=>rfl
   | some p=>
    simp only [Option.map_some,jK]
    split <;> rfl
  ·rw [if_neg hk,if_neg (by rw [io];exact hk),gR]
 ·rw [List.filter_cons_of_neg hr,List.filter_nil]
  have:wg b i x = b:=by unfold wg;rw [if_neg hr]
  rw [this]
  have hn:cj s ([]:List It) = none:=rfl
  rw [hn,gR]
  split <;> rfl
theorem Fl (s:ByteArray):∀ (r:List It) (i:Nat) (b:Option (Nat × It)),(tE s i b r).map Prod.snd = jK (b.map Prod.snd) (cj s (r.filter itR)):=by
 intro r
 induction r with
 | nil=>intro i b;exact (gR _).symm
 | cons x r ih=>
  intro i b
  rw [tE,ih,Fk,sB,← d9,← List.filter_append,List.singleton_append]
theorem zH {l:List It} {s:ByteArray} {b:Option (Nat × It)} {i:Nat} (hi:i < l.length) (h:NU l b):NU l (if l[i].key = s then wg b i l[i] else b):=by
 split
 ·exact LP hi h
 ·exact h
theorem MF {l:List It} {s:ByteArray}:∀ (r:List It) (i:Nat) (b:Option (Nat × It)),l.drop i = r → NU l b → NU l (tE s i b r):=by
 intro r
 induction r with
 | nil=>intro i b _ h;exact h
 | cons x r ih=>
  intro i b hd h
  have hi:i < l.length:=by
   rcases Nat.lt_or_ge i l.length with q|q
   ·exact q
   ·rw [List.drop_eq_nil_of_le q] at hd;cases hd
  rw [List.drop_eq_getElem_cons hi] at hd
  cases hd
  exact ih (i + 1) _ rfl (zH hi h)
theorem Fm {a:It} {b:Option It}:jK (some a) b ≠ none:=by
 cases b with
 | none=>simp [jK]
 | some b=>simp only [jK];split <;> simp
theorem MG {k:ByteArray} {l:List It} {x:It} (hx:x ∈ l) (hk:x.key = k):cj k l ≠ none:=by
 unfold cj
 have hm:x ∈ l.filter fun x=>x.key == k:=List.mem_filter.2 ⟨hx,(io _ _).2 hk⟩
 cases hf:l.filter (fun x=>x.key == k) with
 | nil=>rw [hf] at hm;cases hm
 | cons y r=>
  rw [List.foldl_cons,yO]
  exact Fm
def OC (o:List It) (k:ByteArray):Bool:=match o.reverse with
 | []=>true
 | z :: _=>decide (bu z.key k < 0)
def zI (o:List It) (x:It):Bool:=itR x && OC o x.key
theorem B2 (x y:It):ltK x y = true ↔ x.key < y.key:=by rw [fj,dz]
theorem MH {o R:List It} (h:Up (o ++ R)) {w:It} (hw:w ∈ o):OC o w.key = false:=by
 rcases dU o with rfl|⟨o,z,rfl⟩
 ·cases hw
 ·have h1:=(List.pairwise_append.1 (List.pairwise_append.1 h).1).2.2
  unfold OC
  simp only [List.reverse_append,List.reverse_cons,List.reverse_nil,List.nil_append,List.singleton_append,decide_eq_false_iff_not]
  rw [dz]
  rcases List.mem_append.1 hw with e|e
  ·have:=(B2 _ _).1 (h1 w e z (by simp));grind
  ·rw [List.mem_singleton.1 e];grind
theorem Di {l o R:List It} (hM:bN [l] = o ++ R) {x:It} (hx:x ∈ l) (hc:zI o x = true):∃ w ∈ R,w.key = x.key:=by
 obtain ⟨h1,h2,h3⟩:=cZ [l]
 rw [hM] at h1 h2 h3
 simp only [List.flatten_cons,List.flatten_nil,List.append_nil] at h2 h3
 unfold zI at hc
 rw [Bool.and_eq_true] at hc
 have hT:x ∈ l.filter itR:=List.mem_filter.2 ⟨hx,hc.1⟩
 have hl:=MG hT rfl
 rw [← h3] at hl
 apply Classical.byContradiction
 intro hn
 apply hl
 refine i8 fun w hw e=>?_
 rcases List.mem_append.1 hw with q|q
 ·have:=MH h1 q
  rw [e,hc.2] at this
  cases this
 ·exact hn ⟨w,q,e⟩
theorem J9 {l o:List It} (hM:bN [l] = o ++ []) {x:It} (hx:x ∈ l):zI o x = false:=by
 cases hc:zI o x with
 | false=>rfl
 | true=>obtain ⟨w,hw,_⟩:=Di hM hx hc;cases hw
theorem Ka {l o R:List It} {y:It} (hM:bN [l] = o ++ y :: R):y ∈ l ∧ zI o y = true ∧ (∀ x ∈ l,zI o x = true → y.key ≤ x.key) ∧ cj y.key (l.filter itR) = some y:=by
 obtain ⟨h1,h2,h3⟩:=cZ [l]
 rw [hM] at h1 h2 h3
 simp only [List.flatten_cons,List.flatten_nil,List.append_nil] at h2 h3
 have hy:=List.mem_filter.1 (h2 y (by simp))
 refine ⟨hy.1,?_,fun x hx hc=>?_,?_⟩
 ·unfold zI
  rw [hy.2,Bool.true_and]
  have h4:=(List.pairwise_append.1 h1).2.2
  rcases dU o with rfl|⟨o,z,rfl⟩
  ·rfl
  ·have:=(B2 _ _).1 (h4 z (by simp) y (by simp))
   unfold OC
   simp only [List.reverse_append,List.reverse_cons,List.reverse_nil,List.nil_append,List.singleton_append,decide_eq_true_eq]
   rw [dz];exact this
 ·obtain ⟨w,hw,e⟩:=Di hM hx hc
  rw [← e]
  have h4:=List.pairwise_cons.1 (List.pairwise_append.1 h1).2.1
  rcases List.mem_cons.1 hw with q|q
  ·rw [q];grind
  ·have:=(B2 _ _).1 (h4.1 w q);grind
 ·rw [← h3,d9]
  have h4:=List.pairwise_cons.1 (List.pairwise_append.1 h1).2.1
  have h5:=(List.pairwise_append.1 h1).2.2
  have e1:cj y.key o = none:=i8 fun x hx=>wh (h5 x hx y (by simp))
  have e2:cj y.key R = none:=i8 fun x hx e=>wh (h4.1 x hx) e.symm
  rw [show y :: R = [y] ++ R from rfl,d9,e1,e2,fJ,if_pos ((io _ _).2 rfl)]
  rfl
section
theorem Fo (l:List It) (s:ByteArray) (hl:l.length ≤ 1000000000):Fn Tryz.prog 151 [eD l,sC s,bC false] (gy (ao (tE s 0 none l))):=by
 generalize hR:tE s 0 none l = R at *
 refine fi Tryz.func151 Tryz.ntmps151 ?_
 (refine w0 ?_;repeat' first|apply ai|refine aj fun hc=>?_)
 refine an (X:=Nat × Option (Nat × It)) (fun x=>x.1 ≤ l.length ∧ NU l x.2 ∧ tE s x.1 x.2 (l.drop x.1) = R)
  (fun x=>ba [(0,eD l),(1,sC s),(2,bC false),(7,iC .i64 (ao x.2)),(8,iC .i64 (x.1:Nat))] []) (fun x=>l.length - x.1) (0,none) ⟨Nat.zero_le _,(fun p h=>by cases h),hR⟩ ?_ ?_
 ·exact ae
 ·rintro ⟨k,b⟩ ⟨h1,h2,h3⟩
  simp only at h1 h2 h3 ⊢
  by_cases hlt:k < l.length
  ·have hir:=lR l[k]
   rw [List.drop_eq_getElem_cons hlt,tE] at h3
   have h4:=zH (s:=s) hlt h2
   by_cases hky:l[k].key = s
   ·have hkt:l[k].key.toList = s.toList:=by rw [hky]
    rw [if_pos hky] at h3 h4
    unfold wg at h3 h4
    cases hr:itR l[k] with
    | false=>
     rw [hr] at hir h3 h4
     simp only [Bool.false_eq_true,if_false] at h3 h4
     (refine az hir ?_;repeat' first|apply ai|refine aj fun hc=>?_)
     refine ⟨(k + 1,b),⟨by simp only;omega,h4,h3⟩,by simp only;omega,?_⟩
     exact ae
    | true=>
     rw [hr] at hir h3 h4
     simp only [if_true] at h3 h4
     cases b with
     | none=>
      simp only [ao] at h3 h4 ⊢
      (refine az hir ?_;repeat' first|apply ai|refine aj fun hc=>?_)
      refine ⟨(k + 1,some (k,l[k])),⟨by simp only;omega,h4,h3⟩,by simp only;omega,?_⟩
      simp only
      exact ae
     | some p=>
      obtain ⟨j,y⟩:=p
      have hjy:=(h2 _ rfl).1
      simp only at hjy
      obtain ⟨hj,hy⟩:=List.getElem?_eq_some_iff.1 hjy
      subst hy
      have hcm:=Eb l[k] l[j]
      unfold Hj at hcm
      simp only [ao] at h3 h4 ⊢
      (refine aL hir hcm ?_;repeat' first|apply ai|refine aj fun hc=>?_)
      ·rw [if_pos (by omega)] at h3 h4
       refine ⟨(k + 1,some (k,l[k])),⟨by simp only;omega,h4,h3⟩,by simp only;omega,?_⟩
       simp only
       exact ae
      ·rw [if_neg (by omega)] at h3 h4
       refine ⟨(k + 1,some (j,l[j])),⟨by simp only;omega,h4,h3⟩,by simp only;omega,?_⟩
       simp only
       exact ae
   ·have hne:l[k].key.toList ≠ s.toList:=fun h=>hky ((mY _ _).1 h)
    rw [if_neg hky] at h3 h4
    cases hr:itR l[k] with
    | false=>
     rw [hr] at hir
     (refine az hir ?_;repeat' first|apply ai|refine aj fun hc=>?_)
     refine ⟨(k + 1,b),⟨by simp only;omega,h4,h3⟩,by simp only;omega,?_⟩
     exact ae
    | true=>
     rw [hr] at hir
     (refine az hir ?_;repeat' first|apply ai|refine aj fun hc=>?_)
     refine ⟨(k + 1,b),⟨by simp only;omega,h4,h3⟩,by simp only;omega,?_⟩
     exact ae
  ·have hkl:k = l.length:=by omega
   subst hkl
   rw [List.drop_length,tE] at h3
   subst h3
   (refine w0 ?_;repeat' first|apply ai|refine aj fun hc=>?_)
   refine aU ?_
   exact aH rfl rfl
def oI:Option Nat → Int
 | none=>-1
 | some j=>(j:Nat)
structure gW (l o:List It) (i:Nat) (b:Option Nat):Prop where
 le:i ≤ l.length
 hs:∀ j,b = some j → ∃ hj:j < l.length,zI o l[j] = true ∧ ∀ m (hm:m < l.length),m < i → zI o l[m] = true → l[j].key ≤ l[m].key
 hn:b = none → ∀ m (hm:m < l.length),m < i → zI o l[m] = false
theorem gW.zero (l o:List It):gW l o 0 none:=⟨Nat.zero_le _,fun j h=>(by cases h),fun _ m _ h=>absurd h (Nat.not_lt_zero _)⟩
theorem gW.skip {l o:List It} {i:Nat} {b:Option Nat} (h:gW l o i b) (hi:i < l.length) (hc:zI o l[i] = false):gW l o (i + 1) b:=by
 refine ⟨hi,fun j hj=>?_,fun hb m hm hlt=>?_⟩
 ·obtain ⟨a1,a2,a3⟩:=h.hs j hj
  refine ⟨a1,a2,fun m hm hlt hcm=>?_⟩
  rcases Nat.lt_or_ge m i with q|q
  ·exact a3 m hm q hcm
  ·obtain rfl:m = i:=by omega
   rw [hc] at hcm;cases hcm
 ·rcases Nat.lt_or_ge m i with q|q
  ·exact h.hn hb m hm q
  ·obtain rfl:m = i:=by omega
   exact hc
theorem gW.new {l o:List It} {i:Nat} {b:Option Nat} (h:gW l o i b) (hi:i < l.length) (hc:zI o l[i] = true) (hb:∀ j (hj:j < l.length),b = some j → bu l[i].key l[j].key < 0):gW l o (i + 1) (some i):=by
 refine ⟨hi,fun j hj=>?_,fun hb=>by cases hb⟩
 cases hj
 refine ⟨hi,hc,fun m hm hlt hcm=>?_⟩
 rcases Nat.lt_or_ge m i with q|q
 ·cases b with
  | none=>have:=h.hn rfl m hm q;rw [hcm] at this;cases this
  | some j=>
   obtain ⟨a1,a2,a3⟩:=h.hs j rfl
   have h1:=a3 m hm q hcm
   have h2:=(dz _ _).1 (hb j a1 rfl)
   grind
 ·obtain rfl:m = i:=by omega
  grind
theorem gW.keep {l o:List It} {i j:Nat} (h:gW l o i (.some j)) (hi:i < l.length) (hj:j < l.length) (hb:¬ bu l[i].key l[j].key < 0):gW l o (i + 1) (.some j):=by
 refine ⟨hi,fun k hk=>?_,fun hb=>by cases hb⟩
 cases hk
 obtain ⟨a1,a2,a3⟩:=h.hs j rfl
 refine ⟨a1,a2,fun m hm hlt hcm=>?_⟩
 rcases Nat.lt_or_ge m i with q|q
 ·exact a3 m hm q hcm
 ·obtain rfl:m = i:=by omega
  rw [dz] at hb
  grind
theorem Fp (l:List It) (hk:lm l) (hl:l.length ≤ 1000000000):Fn Tryz.prog 105 [eD l] (IG (bN [l])):=by
 have hml:(bN [l]).length ≤ l.length:=by
  have h1:=sD [l]
  simp only [List.flatten_cons,List.flatten_nil,List.append_nil] at h1
  have:=List.length_filter_le itR l
  omega
 have hin:=fun z hz=>(cZ [l]).2.1 z hz
 simp only [List.flatten_cons,List.flatten_nil,List.append_nil,List.mem_filter] at hin
 have hN:∀ (o R:List It) (y:It),bN [l] = o ++ y :: R → y ∈ l ∧ zI o y = true ∧ (∀ x ∈ l,zI o x = true → y.key ≤ x.key) ∧ cj y.key (l.filter itR) = some y:=fun o R y=>Ka
 have hZ:∀ (o:List It),bN [l] = o ++ [] → ∀ x ∈ l,zI o x = false:=fun o h x hx=>J9 h hx
 generalize bN [l] = M at *
 refine fi Tryz.func105 Tryz.ntmps105 ?_
 (refine w0 ?_;repeat' first|apply ai|refine aj fun hc=>?_)
 refine bZ (b7 3 600 41 7 rfl rfl) ?_
 refine an (X:=List It × List It) (fun x=>M = x.1 ++ x.2)
  (fun x=>ba [(0,eD l),(3,.row 600 0)] [(600,eS x.1)]) (fun x=>x.2.length) ([],M) rfl ?_ ?_
 ·exact ae
 ·rintro ⟨out,R⟩ hM
  simp only at hM ⊢
  have hol:out.length ≤ l.length:=by have:=congrArg List.length hM;rw [List.length_append] at this;omega
  have hok:lm out:=fun z hz=>hk z (hin z (by rw [hM];simp [hz])).1
  (refine w0 ?_;repeat' first|apply ai|refine aj fun hc=>?_)
  refine an (X:=Nat × Option Nat) (fun x=>gW l out x.1 x.2)
   (fun x=>ba [(0,eD l),(3,.row 600 0),(4,iC .i64 (oI x.2)),(5,iC .i64 (x.1:Nat))] [(600,eS out)]) (fun x=>l.length - x.1) (0,none) (gW.zero l out) ?_ ?_
  ·exact ae
  ·rintro ⟨i,b⟩ hI
   simp only at hI ⊢
   by_cases hi:i < l.length
   ·have hir:=lR l[i]
    have hki:=hk _ (List.getElem_mem hi)
    have sk:=hI.skip hi
    have nw:=hI.new hi
    have hcn:zI out l[i] = (itR l[i] && OC out l[i].key):=rfl
    cases hr:itR l[i] with
    | false=>
     rw [hr] at hir
     have hI':=sk (by rw [hcn,hr];rfl)
     clear sk nw hcn hN hZ hin
     (refine az hir ?_;repeat' first|apply ai|refine aj fun hc=>?_)
     refine ⟨(i + 1,b),hI',by simp only;omega,?_⟩
     exact ae
    | true=>
     rw [hr] at hir hcn
     rw [Bool.true_and] at hcn
     rcases dU out with rfl|⟨o,z,rfl⟩
     ·have hc1:zI [] l[i] = true:=hcn
      clear sk hcn hN hZ hin
      cases b with
      | none=>
       have hI':=nw hc1 (fun j hj h=>by cases h)
       clear nw
       simp only [oI]
       (refine az hir ?_;repeat' first|apply ai|refine aj fun hc=>?_)
       refine ⟨(i + 1,some i),hI',by simp only;omega,?_⟩
       exact ae
      | some j=>
       obtain ⟨hj,-,-⟩:=hI.hs j rfl
       have hls:=eZ l[i].key l[j].key (by omega)
       simp only [oI]
       by_cases hb:bu l[i].key l[j].key < 0
       ·have hI':=nw hc1 (fun k hk h=>by cases h;exact hb)
        rw [decide_eq_true hb] at hls
        clear nw
        (refine aL hir hls ?_;repeat' first|apply ai|refine aj fun hc=>?_)
        refine ⟨(i + 1,some i),hI',by simp only;omega,?_⟩
        exact ae
       ·have hI':=hI.keep hi hj hb
        rw [decide_eq_false hb] at hls
        clear nw
        (refine aL hir hls ?_;repeat' first|apply ai|refine aj fun hc=>?_)
        refine ⟨(i + 1,some j),hI',by simp only;omega,?_⟩
        exact ae
     ·have haf:OC (o ++ [z]) l[i].key = decide (bu z.key l[i].key < 0):=by
       unfold OC
       simp only [List.reverse_append,List.reverse_cons,List.reverse_nil,List.nil_append,List.singleton_append]
      rw [haf] at hcn
      have hkz:=hok z (by simp)
      have hl1:=eZ z.key l[i].key (by omega)
      have hL1:(o ++ [z]).length = o.length + 1:=by simp
      generalize hL:o ++ [z] = L at *
      have HZ:(L.map itP)[((L.length:Int) - 1).toNat]? = some (itP z):=by
       rw [List.getElem?_map,← hL,show (((o ++ [z]).length:Int) - 1).toNat = o.length by rw [hL];omega]
       simp
      clear hN hZ hin haf
      by_cases hzl:bu z.key l[i].key < 0
      ·rw [decide_eq_true hzl] at hcn hl1
       cases b with
       | none=>
        have hI':=nw hcn (fun j hj h=>by cases h)
        clear nw sk
        simp only [oI]
        (refine aL hir hl1 ?_;repeat' first|apply ai|refine aj fun hc=>?_|((first|apply aO rfl|apply aP rfl|apply aQ rfl|apply aR rfl);(focus ((try (apply b8;(focus rfl);apply ah rfl rfl rfl rfl rfl));first|((apply bn 5;(focus rfl);exact bm ⟨rfl,rfl,rfl⟩ rfl inferInstance rfl rfl rfl HZ rfl))));refine aL hir hl1 ?_))
        refine ⟨(i + 1,some i),hI',by simp only;omega,?_⟩
        exact ae
       | some j=>
        obtain ⟨hj,-,-⟩:=hI.hs j rfl
        have hls:=eZ l[i].key l[j].key (by omega)
        simp only [oI]
        by_cases hb:bu l[i].key l[j].key < 0
        ·have hI':=nw hcn (fun k hk h=>by cases h;exact hb)
         rw [decide_eq_true hb] at hls
         clear nw sk
         (refine eV hir hl1 hls ?_;repeat' first|apply ai|refine aj fun hc=>?_|((first|apply aO rfl|apply aP rfl|apply aQ rfl|apply aR rfl);(focus ((try (apply b8;(focus rfl);apply ah rfl rfl rfl rfl rfl));first|((apply bn 5;(focus rfl);exact bm ⟨rfl,rfl,rfl⟩ rfl inferInstance rfl rfl rfl HZ rfl))));refine eV hir hl1 hls ?_))
         refine ⟨(i + 1,some i),hI',by simp only;omega,?_⟩
         exact ae
        ·have hI':=hI.keep hi hj hb
         rw [decide_eq_false hb] at hls
         clear nw sk
         (refine eV hir hl1 hls ?_;repeat' first|apply ai|refine aj fun hc=>?_|((first|apply aO rfl|apply aP rfl|apply aQ rfl|apply aR rfl);(focus ((try (apply b8;(focus rfl);apply ah rfl rfl rfl rfl rfl));first|((apply bn 5;(focus rfl);exact bm ⟨rfl,rfl,rfl⟩ rfl inferInstance rfl rfl rfl HZ rfl))));refine eV hir hl1 hls ?_))
         refine ⟨(i + 1,some j),hI',by simp only;omega,?_⟩
         exact ae
      ·rw [decide_eq_false hzl] at hcn hl1
       have hI':=sk hcn
       clear nw sk
       (refine aL hir hl1 ?_;repeat' first|apply ai|refine aj fun hc=>?_|((first|apply aO rfl|apply aP rfl|apply aQ rfl|apply aR rfl);(focus ((try (apply b8;(focus rfl);apply ah rfl rfl rfl rfl rfl));first|((apply bn 5;(focus rfl);exact bm ⟨rfl,rfl,rfl⟩ rfl inferInstance rfl rfl rfl HZ rfl))));refine aL hir hl1 ?_))
       refine ⟨(i + 1,b),hI',by simp only;omega,?_⟩
       exact ae
   ·have hil:i = l.length:=by have:=hI.le;omega
    subst hil
    cases b with
    | none=>
     have hRn:R = []:=by
      cases R with
      | nil=>rfl
      | cons y R=>
       obtain ⟨c1,c2,-,-⟩:=hN out R y hM
       obtain ⟨m,hm,rfl⟩:=List.getElem_of_mem c1
       have:=hI.hn rfl m hm hm
       rw [c2] at this;cases this
     subst hRn
     rw [List.append_nil] at hM
     clear hN hZ hin
     simp only [oI]
     (refine w0 ?_;repeat' first|apply ai|refine aj fun hc=>?_)
     refine aU ?_
     exact fN rfl rfl rfl (by rw [hM])
    | some j=>
     obtain ⟨hj,d1,d2⟩:=hI.hs j rfl
     cases R with
     | nil=>
      have:=hZ out hM l[j] (List.getElem_mem hj)
      rw [d1] at this;cases this
     | cons y R=>
      obtain ⟨c1,c2,c3,c4⟩:=hN out R y hM
      obtain ⟨m,hm,hmy⟩:=List.getElem_of_mem c1
      have e1:=d2 m hm hm (by rw [hmy];exact c2)
      rw [hmy] at e1
      have e2:=c3 l[j] (List.getElem_mem hj) d1
      have e3:l[j].key = y.key:=by grind
      have hB:Fn Tryz.prog 151 [eD l,sC l[j].key,bC false] (gy (ao (tE y.key 0 none l))):=by rw [← e3];exact Fo l l[j].key hl
      have hL:=Fl y.key l 0 none
      have hO:=MF (s:=y.key) l 0 none rfl (fun p h=>by cases h)
      rw [c4] at hL
      generalize tE y.key 0 none l = W at *
      cases W with
      | none=>cases hL
      | some p=>
       obtain ⟨q,v⟩:=p
       have hv:v = y:=by simpa [jK] using hL
       subst hv
       obtain ⟨hq,hqy⟩:=List.getElem?_eq_some_iff.1 (hO _ rfl).1
       simp only at hq hqy
       simp only [ao] at hB
       have hol':out.length ≤ 1000000000:=by omega
       clear hN hZ hin c1 c2 c3 c4 hO hL d1 d2 e1 e2 hI
       simp only [oI]
       (refine az hB ?_;repeat' first|apply ai|refine aj fun hc=>?_)
       refine ⟨(out ++ [v],R),by simp only;rw [hM];simp,by simp,ay (aN 600 601) (ay (aN 601 600) ?_)⟩
       subst hqy
       exact ae
end
def Nd (s:Sta) (IN M:List It) (J:List Pc) (mo:Int) (ap:Bool) (f g:It → Bool):Sta × Int:=
 if IN.any (fun x=>!f x && !g x) then ({},2)
 else if mo > s.cnt then ({},2)
 else if ap = false then ({},2)
 else if M.length > 4096 then ({},32)
 else (⟨s.id,s.flt,M,J,s.cnt⟩,0)
abbrev PY:Blk:=.box 26 [iC .i64 0,.per (av (.slice none 0 0)),.per (av (.slice none 0 0)),.per (av (.slice none 0 0)),iC .i64 0]
theorem vd {l:List It} {p:It → Bool} {i:Nat} (hi:i < l.length) (h:(l.take i).any p = false):(l.take (i + 1)).any p = p l[i]:=by
 rw [aJ l i hi,List.any_append,h];simp
theorem zJ {l:List It} {p:It → Bool} {i:Nat} (hi:i < l.length) (h:p l[i] = true):l.any p = true:=List.any_eq_true.2 ⟨_,List.getElem_mem hi,h⟩
section
theorem Kb (s:Sta) (l IN M:List It) (k OW J:List Pc) (mo:Int) (ap:Bool) (f g:It → Bool) (hl:IN.length ≤ 1000000)
 (a1:Fn Tryz.prog 40 [dX s] (cw true)) (a2:Fn Tryz.prog 76 [eD l] (cw true)) (a3:Fn Tryz.prog 77 [bV k] (cw true))
 (a4:Fn Tryz.prog 83 [eD l,dS s.flt] (.per (dC IN))) (a5:Fn Tryz.prog 79 [gr k,.per (fC s.flt)] (.per (iq OW)))
 (a6:∀ x ∈ IN,Fn Tryz.prog 33 [bV s.know,sC x.key,qF x.rep x.cnt] (cw (f x))) (a7:∀ x ∈ IN,Fn Tryz.prog 33 [bV OW,sC x.key,qF x.rep x.cnt] (cw (g x)))
 (a8:Fn Tryz.prog 80 [bV OW,iC .i64 s.id] (gy mo)) (a9:Fn Tryz.prog 84 [.bor 1 [[dC s.its],[dC IN]]] (.per (dC M))) (a10:Fn Tryz.prog 81 [eD M] (cw ap))
 (a11:Fn Tryz.prog 85 [.bor 1 [[iq s.know],[iq OW]]] (.per (iq J))) (a12:Fn Tryz.prog 86 [dS s.flt] (.per (fC s.flt))) :
 Fn Tryz.prog 41 [dX s,.per (dC l),gr k] (.tup2 (.per (m5 (Nd s IN M J mo ap f g).1)) (gy (Nd s IN M J mo ap f g).2)):=by
 unfold Nd
 generalize hp:(fun x=>!f x && !g x) = p
 refine fi Tryz.func41 Tryz.ntmps41 ?_
 (refine oB a1 a2 a3 a4 a5 ?_;repeat' first|apply ai|refine aj fun hc=>?_)
 clear a1 a2 a3 a4 a5
 refine an (X:=Nat) (fun i=>i ≤ IN.length ∧ (IN.take i).any p = false) (fun i=>ba [(1,.per (dC IN)),(2,gr OW),(3,.ptr 3 0 0),(6,.ptr 6 0 0),(7,iC .i64 0),(34,.per (dC IN)),(35,iC .i64 (IN.length:Nat)),(36,iC .i64 (i:Nat))] [(3,.box 26 ((nc s).map Cnt.per)),(6,PY)]) (fun i=>IN.length - i) 0 ⟨Nat.zero_le _,rfl⟩ ?_ ?_
 ·exact ae
 ·rintro i ⟨h1,h2⟩
  by_cases hi:i < IN.length
  ·have c6:=a6 _ (List.getElem_mem hi)
   have c7:=a7 _ (List.getElem_mem hi)
   have hsn:=vd hi h2
   have hh:=zJ (p:=p) hi
   have hpx:p IN[i] = (!f IN[i] && !g IN[i]):=by rw [← hp]
   clear a6 a7 a8 a9 a10 a11 a12 hp h2
   generalize f IN[i] = x1 at *
   generalize g IN[i] = x2 at *
   generalize p IN[i] = px at *
   cases x1 with
   | true=>
    subst hpx
    clear hh
    (refine aL c6 c7 ?_;repeat' first|apply ai|refine aj fun hc=>?_)
    refine ⟨i + 1,⟨by omega,hsn⟩,by omega,?_⟩
    exact ae
   | false=>
    cases x2 with
    | true=>
     subst hpx
     clear hh
     (refine aL c6 c7 ?_;repeat' first|apply ai|refine aj fun hc=>?_)
     refine ⟨i + 1,⟨by omega,hsn⟩,by omega,?_⟩
     exact ae
    | false=>
     subst hpx
     rw [if_pos (hh rfl)]
     clear hsn hh
     (refine aL c6 c7 ?_;repeat' first|apply ai|refine aj fun hc=>?_)
     refine im ?_ ?_
     ·exact dE (bL inferInstance inferInstance rfl rfl rfl rfl rfl rfl) aI
     ·exact aH rfl rfl
  ·rw [List.take_of_length_le (by omega)] at h2
   rw [h2,if_neg (by simp)]
   clear a6 a7 hp h2
   by_cases q1:mo > s.cnt
   ·rw [if_pos q1]
    clear a9 a10 a11 a12
    (refine az a8 ?_;repeat' first|apply ai|refine aj fun hc=>?_)
    refine im ?_ ?_
    ·exact dE (bL inferInstance inferInstance rfl rfl rfl rfl rfl rfl) aI
    ·exact aH rfl rfl
   rw [if_neg q1]
   cases ap with
   | false=>
    rw [if_pos rfl]
    clear a11 a12
    (refine eX a8 a9 a10 ?_;repeat' first|apply ai|refine aj fun hc=>?_)
    refine im ?_ ?_
    ·exact dE (bL inferInstance inferInstance rfl rfl rfl rfl rfl rfl) aI
    ·exact aH rfl rfl
   | true=>
    rw [if_neg (by simp)]
    by_cases q2:M.length > 4096
    ·rw [if_pos q2]
     clear a11 a12
     (refine eX a8 a9 a10 ?_;repeat' first|apply ai|refine aj fun hc=>?_)
     refine im ?_ ?_
     ·exact dE (bL inferInstance inferInstance rfl rfl rfl rfl rfl rfl) aI
     ·exact aH rfl rfl
    ·rw [if_neg q2]
     (refine oB a8 a9 a10 a11 a12 ?_;repeat' first|apply ai|refine aj fun hc=>?_)
     refine im ?_ ?_
     ·exact bL inferInstance inferInstance rfl rfl rfl rfl rfl rfl
     ·exact aH rfl rfl
theorem Fq (s:Sta) (l:List It) (k:List Pc) (a1:Fn Tryz.prog 40 [dX s] (cw false)):Fn Tryz.prog 41 [dX s,.per (dC l),gr k] (.tup2 (.per (m5 {})) (gy 41)):=by
 refine fi Tryz.func41 Tryz.ntmps41 ?_
 (refine az a1 ?_;repeat' first|apply ai|refine aj fun hc=>?_)
 refine im ?_ ?_
 ·exact dE (bL inferInstance inferInstance rfl rfl rfl rfl rfl rfl) aI
 ·exact aH rfl rfl
theorem Kc (s:Sta) (l:List It) (k:List Pc) (b c:Bool) (h:(b && c) = false) (a1:Fn Tryz.prog 40 [dX s] (cw true)) (a2:Fn Tryz.prog 76 [eD l] (cw b)) (a3:Fn Tryz.prog 77 [bV k] (cw c)) :
 Fn Tryz.prog 41 [dX s,.per (dC l),gr k] (.tup2 (.per (m5 {})) (gy 2)):=by
 cases b <;> cases c
 case true.true=>cases h
 all_goals
  refine fi Tryz.func41 Tryz.ntmps41 ?_
  (refine eX a1 a2 a3 ?_;repeat' first|apply ai|refine aj fun hc=>?_)
  refine im ?_ ?_
  ·exact dE (bL inferInstance inferInstance rfl rfl rfl rfl rfl rfl) aI
  ·exact aH rfl rfl
end
section
theorem Fr (s:Sta) (l IN M:List It) (k OW J:List Pc) (mo:Int) (ap:Bool) (f g:It → Bool) (hl:IN.length ≤ 1000000) (hsl:s.its.length ≤ 1000000)
 (a1:Fn Tryz.prog 23 [dX s] (cw true)) (a2:Fn Tryz.prog 49 [eD l] (cw true)) (a3:Fn Tryz.prog 50 [bV k] (cw true))
 (a4:Fn Tryz.prog 104 [eD l,dS s.flt] (.per (dC IN))) (a5:Fn Tryz.prog 52 [bV k,dS s.flt] (.per (iq OW)))
 (a6:∀ x ∈ IN,Fn Tryz.prog 35 [bV s.know,sC x.key,qF x.rep x.cnt] (cw (f x))) (a7:∀ x ∈ IN,Fn Tryz.prog 35 [bV OW,sC x.key,qF x.rep x.cnt] (cw (g x)))
 (a8:Fn Tryz.prog 53 [bV OW,iC .i64 s.id] (gy mo)) (a9:Fn Tryz.prog 105 [eD (s.its ++ IN)] (.per (dC M))) (a10:Fn Tryz.prog 54 [eD M] (cw ap))
 (a11:Fn Tryz.prog 106 [bV s.know,bV OW] (.per (iq J))) :
 Fn Tryz.prog 57 [dX s,.per (dC l),gr k] (.tup2 (.per (m5 (Nd s IN M J mo ap f g).1)) (gy (Nd s IN M J mo ap f g).2)):=by
 unfold Nd
 generalize hp:(fun x=>!f x && !g x) = p
 have a9':Fn Tryz.prog 105 [.bor 7 ([] ++ s.its.map itP ++ IN.map itP)] (.per (dC M)):=by rw [List.nil_append,← List.map_append];exact a9
 clear a9
 refine fi Tryz.func57 Tryz.ntmps57 ?_
 (refine oB a1 a2 a3 a4 a5 ?_;repeat' first|apply ai|refine aj fun hc=>?_)
 clear a1 a2 a3 a4 a5
 refine an (X:=Nat) (fun i=>i ≤ IN.length ∧ (IN.take i).any p = false) (fun i=>ba [(3,.ptr 3 0 0),(6,.ptr 6 0 0),(7,iC .i64 0),(8,.per (dC IN)),(9,gr OW),(10,iC .i64 (i:Nat))] [(3,.box 26 ((nc s).map Cnt.per)),(6,PY)]) (fun i=>IN.length - i) 0 ⟨Nat.zero_le _,rfl⟩ ?_ ?_
 ·exact ae
 ·rintro i ⟨h1,h2⟩
  by_cases hi:i < IN.length
  ·have c6:=a6 _ (List.getElem_mem hi)
   have c7:=a7 _ (List.getElem_mem hi)
   have hsn:=vd hi h2
   have hh:=zJ (p:=p) hi
   have hpx:p IN[i] = (!f IN[i] && !g IN[i]):=by rw [← hp]
   clear a6 a7 a8 a9' a10 a11 hp h2
   generalize f IN[i] = x1 at *
   generalize g IN[i] = x2 at *
   generalize p IN[i] = px at *
   cases x1 with
   | true=>
    subst hpx
    clear hh
    (refine aL c6 c7 ?_;repeat' first|apply ai|refine aj fun hc=>?_|((first|apply aO rfl|apply aP rfl|apply aQ rfl|apply aR rfl);(focus ((try (apply b8;(focus rfl);apply ah rfl rfl rfl rfl rfl));first|((apply bn 5;(focus rfl);first|exact bg ⟨rfl,rfl,rfl⟩ rfl inferInstance inferInstance rfl rfl rfl rfl|exact bh ⟨rfl,rfl,rfl⟩ rfl inferInstance inferInstance rfl rfl rfl rfl))));refine aL c6 c7 ?_))
    refine ⟨i + 1,⟨by omega,hsn⟩,by omega,?_⟩
    exact ae
   | false=>
    cases x2 with
    | true=>
     subst hpx
     clear hh
     (refine aL c6 c7 ?_;repeat' first|apply ai|refine aj fun hc=>?_|((first|apply aO rfl|apply aP rfl|apply aQ rfl|apply aR rfl);(focus ((try (apply b8;(focus rfl);apply ah rfl rfl rfl rfl rfl));first|((apply bn 5;(focus rfl);first|exact bg ⟨rfl,rfl,rfl⟩ rfl inferInstance inferInstance rfl rfl rfl rfl|exact bh ⟨rfl,rfl,rfl⟩ rfl inferInstance inferInstance rfl rfl rfl rfl))));refine aL c6 c7 ?_))
     refine ⟨i + 1,⟨by omega,hsn⟩,by omega,?_⟩
     exact ae
    | false=>
     subst hpx
     rw [if_pos (hh rfl)]
     clear hsn hh
     (refine aL c6 c7 ?_;repeat' first|apply ai|refine aj fun hc=>?_|((first|apply aO rfl|apply aP rfl|apply aQ rfl|apply aR rfl);(focus ((try (apply b8;(focus rfl);apply ah rfl rfl rfl rfl rfl));first|((apply bn 5;(focus rfl);first|exact bg ⟨rfl,rfl,rfl⟩ rfl inferInstance inferInstance rfl rfl rfl rfl|exact bh ⟨rfl,rfl,rfl⟩ rfl inferInstance inferInstance rfl rfl rfl rfl))));refine aL c6 c7 ?_))
     refine im ?_ ?_
     ·exact dE (bL inferInstance inferInstance rfl rfl rfl rfl rfl rfl) aI
     ·exact aH rfl rfl
  ·rw [List.take_of_length_le (by omega)] at h2
   rw [h2,if_neg (by simp)]
   clear a6 a7 hp h2
   by_cases q1:mo > s.cnt
   ·rw [if_pos q1]
    clear a9' a10 a11
    (refine az a8 ?_;repeat' first|apply ai|refine aj fun hc=>?_)
    refine im ?_ ?_
    ·exact dE (bL inferInstance inferInstance rfl rfl rfl rfl rfl rfl) aI
    ·exact aH rfl rfl
   rw [if_neg q1]
   cases ap with
   | false=>
    rw [if_pos rfl]
    clear a11
    (refine az a8 ?_;repeat' first|apply ai|refine aj fun hc=>?_)
    refine jx (b7 77 700 41 7 rfl rfl) ?_
    (refine aL a9' a10 ?_;repeat' first|apply ai|refine aj fun hc=>?_)
    refine im ?_ ?_
    ·exact dE (bL inferInstance inferInstance rfl rfl rfl rfl rfl rfl) aI
    ·exact aH rfl rfl
   | true=>
    rw [if_neg (by simp)]
    by_cases q2:M.length > 4096
    ·rw [if_pos q2]
     clear a11
     (refine az a8 ?_;repeat' first|apply ai|refine aj fun hc=>?_)
     refine jx (b7 77 700 41 7 rfl rfl) ?_
     (refine aL a9' a10 ?_;repeat' first|apply ai|refine aj fun hc=>?_)
     refine im ?_ ?_
     ·exact dE (bL inferInstance inferInstance rfl rfl rfl rfl rfl rfl) aI
     ·exact aH rfl rfl
    ·rw [if_neg q2]
     (refine az a8 ?_;repeat' first|apply ai|refine aj fun hc=>?_)
     refine jx (b7 77 700 41 7 rfl rfl) ?_
     (refine eX a9' a10 a11 ?_;repeat' first|apply ai|refine aj fun hc=>?_)
     refine im ?_ ?_
     ·exact bL inferInstance inferInstance rfl rfl rfl rfl rfl rfl
     ·exact aH rfl rfl
theorem B3 (s:Sta) (l:List It) (k:List Pc) (a1:Fn Tryz.prog 23 [dX s] (cw false)):Fn Tryz.prog 57 [dX s,.per (dC l),gr k] (.tup2 (.per (m5 {})) (gy 41)):=by
 refine fi Tryz.func57 Tryz.ntmps57 ?_
 (refine az a1 ?_;repeat' first|apply ai|refine aj fun hc=>?_)
 refine im ?_ ?_
 ·exact dE (bL inferInstance inferInstance rfl rfl rfl rfl rfl rfl) aI
 ·exact aH rfl rfl
theorem Ft (s:Sta) (l:List It) (k:List Pc) (b c:Bool) (h:(b && c) = false) (a1:Fn Tryz.prog 23 [dX s] (cw true)) (a2:Fn Tryz.prog 49 [eD l] (cw b)) (a3:Fn Tryz.prog 50 [bV k] (cw c)) :
 Fn Tryz.prog 57 [dX s,.per (dC l),gr k] (.tup2 (.per (m5 {})) (gy 2)):=by
 cases b <;> cases c
 case true.true=>cases h
 all_goals
  refine fi Tryz.func57 Tryz.ntmps57 ?_
  (refine eX a1 a2 a3 ?_;repeat' first|apply ai|refine aj fun hc=>?_)
  refine im ?_ ?_
  ·exact dE (bL inferInstance inferInstance rfl rfl rfl rfl rfl rfl) aI
  ·exact aH rfl rfl
end
end Go.Proofs.YtliiahjpiagdkaaGreat
