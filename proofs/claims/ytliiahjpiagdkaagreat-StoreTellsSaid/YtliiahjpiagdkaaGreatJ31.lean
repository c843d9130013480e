/- Texts joined: SwT SwV SwK SwY SxP. -/
import Derived.Test.YtliiahjpiagdkaaGreatJ20
import Derived.Test.YtliiahjpiagdkaaGreatJ29
import Derived.Test.YtliiahjpiagdkaaGreatJ30
import Derived.Test.YtliiahjpiagdkaaGreatJ05
import Derived.Test.YtliiahjpiagdkaaGreatJ26
set_option maxRecDepth 10000
set_option maxHeartbeats 8000000
namespace Go.Proofs.YtliiahjpiagdkaaGreat
open Go.RowKit
theorem JP {l:List Rn} (h:cu l):∀ r ∈ l,r.to ≤ kR l:=by
 have mono:∀ (d i:Nat) (hi:i + d < l.length),(l[i]'(by omega)).to ≤ (l[i + d]'hi).to:=by
  intro d
  induction d with
  | zero=>intro i hi;exact Int.le_refl _
  | succ d ih=>
   intro i hi
   have h1:=ih i (by omega)
   have h2:=h (i + d + 1) (by omega) (by omega)
   have h3:=(bK _).1 h2.1
   have h4:=h2.2 (by omega)
   have e:i + d + 1 - 1 = i + d:=by omega
   simp only [e] at h4
   have e2:i + (d + 1) = i + d + 1:=by omega
   simp only [e2]
   omega
 intro r hr
 obtain ⟨i,hi,rfl⟩:=List.getElem_of_mem hr
 have hl:kR l = (l[l.length - 1]'(by omega)).to:=by
  unfold kR
  rw [List.getLast?_eq_getElem?,List.getElem?_eq_getElem (by omega)]
 have:=mono (l.length - 1 - i) i (by omega)
 have e:i + (l.length - 1 - i) = l.length - 1:=by omega
 simp only [e] at this
 rw [hl];exact this
theorem zr {l:List Rn} {c:Int} (hc:0 ≤ c):lc l ≤ c ↔ ∀ n,eF l n → n ≤ c:=by
 unfold lc
 have hk:=nz l
 constructor
 ·intro h n hn
  obtain ⟨r,h1,h2,h3,h4⟩:=(gn l n).2 hn
  have:=JP hk r h1
  omega
 ·intro h
  by_cases e:ofR l = []
  ·rw [e];exact hc
  ·have hp:0 < (ofR l).length:=List.length_pos_iff.2 e
   have hl:kR (ofR l) = ((ofR l)[(ofR l).length - 1]'(by omega)).to:=by
    unfold kR
    rw [List.getLast?_eq_getElem?,List.getElem?_eq_getElem (by omega)]
   have h1:=(hk ((ofR l).length - 1) (by omega) (by omega)).1
   have h2:=(bK _).1 h1
   rw [hl]
   refine h _ ((gn l _).1 ⟨_,List.getElem_mem (by omega),h1,by omega,Int.le_refl _⟩)
theorem mq {s:List Kn} {id c:Int} (hc:0 ≤ c):iK s id ≤ c ↔ (1 ≤ id ∧ id ≤ 16 → ∀ n,eF (aK s (id - 1).toNat) n → n ≤ c):=by
 unfold iK
 by_cases h:1 ≤ id ∧ id ≤ 16
 ·rw [if_pos h,zr hc];exact ⟨fun q _=>q,fun q=>q h⟩
 ·rw [if_neg h];exact ⟨fun _ q=>absurd q h,fun _=>hc⟩
theorem BU (id c:Int):∀ (k:List Pc) (n:Int),k.foldl (fun n p=>max n (iK p.set id)) n ≤ c ↔ n ≤ c ∧ ∀ p ∈ k,iK p.set id ≤ c:=by
 intro k
 induction k with
 | nil=>intro n;simp
 | cons p k ih=>
  intro n
  rw [List.foldl_cons,ih]
  constructor
  ·rintro ⟨h1,h2⟩
   refine ⟨by omega,fun q hq=>?_⟩
   rcases List.mem_cons.1 hq with rfl|hq
   ·omega
   ·exact h2 q hq
  ·rintro ⟨h1,h2⟩
   have:=h2 p List.mem_cons_self
   exact ⟨by omega,fun q hq=>h2 q (List.mem_cons_of_mem _ hq)⟩
theorem JQ {k:List Pc} {s:ByteArray} (h:db k s ≠ []):∃ p ∈ k,p.set = db k s:=by
 induction k with
 | nil=>exact absurd (lX s) h
 | cons p k ih=>
  by_cases q:aZ p.rg s = true
  ·exact ⟨p,List.mem_cons_self,(iV q).symm⟩
  ·rw [d7 q] at h ⊢
   obtain ⟨r,h1,h2⟩:=ih h
   exact ⟨r,List.mem_cons_of_mem _ h1,h2⟩
theorem E7 (id:Int):iK [] id = 0:=by
 unfold iK
 split
 ·have:lc (aK [] (id - 1).toNat) ≤ 0:=(zr (Int.le_refl 0)).2 fun n h=>by
   unfold aK at h;exact absurd h (d0 n)
  have:=IK (aK [] (id - 1).toNat)
  omega
 ·rfl
theorem mr {k:List Pc} (hk:aY k) {id c:Int} (hc:0 ≤ c):eG k id ≤ c ↔ ∀ s,iK (db k s) id ≤ c:=by
 unfold eG
 rw [BU]
 constructor
 ·rintro ⟨_,h⟩ s
  by_cases e:db k s = []
  ·rw [e,E7];exact hc
  ·obtain ⟨p,h1,h2⟩:=JQ e
   rw [← h2];exact h p h1
 ·intro h
  refine ⟨hc,fun p hp=>?_⟩
  obtain ⟨_,s,h2⟩:=o9 hk p hp
  rw [← h2];exact h s
theorem tx {a b:List Pc} (ha:aY a) (hb:aY b) {id c:Int} (hc:0 ≤ c) (h1:eG a id ≤ c) (h2:eG b id ≤ c):eG (qu (a ++ b)) id ≤ c:=by
 obtain ⟨h3,h4⟩:=nK (a ++ b)
 rw [mr h3 hc]
 intro s
 rw [h4,wa,mq hc]
 intro hid n hn
 rw [nN _ (by omega),gn,pT,ir,eP ha,eP hb] at hn
 rcases hn with hn|hn
 ·exact (mq hc).1 ((mr ha hc).1 h1 s) hid n hn
 ·exact (mq hc).1 ((mr hb hc).1 h2 s) hid n hn
theorem mw {k:List Pc} (hk:aY k) {f:List Rg}:bz k f = k ↔ ∀ s,bA f s = false → db k s = []:=by
 obtain ⟨h1,h2⟩:=iy k f
 constructor
 ·intro h s hs
  rw [← h,h2]
  unfold jq
  rw [hs];rfl
 ·intro h
  refine nH h1 hk fun s=>?_
  rw [h2]
  unfold jq
  by_cases q:bA f s = true
  ·rw [if_pos q,eP hk]
  ·rw [if_neg q];exact (h s (by simpa using q)).symm
theorem u3 {a b:List Pc} (ha:aY a) (hb:aY b) {f:List Rg} (h1:bz a f = a) (h2:bz b f = b):bz (qu (a ++ b)) f = qu (a ++ b):=by
 obtain ⟨h3,h4⟩:=nK (a ++ b)
 rw [mw h3]
 intro s hs
 rw [h4,wa,eP ha,eP hb,(mw ha).1 h1 s hs,(mw hb).1 h2 s hs]
 exact IO
theorem Dc {l:List It} (h:Up l):(l.map It.key).Pairwise (· < ·):=by
 rw [List.pairwise_map]
 refine h.imp fun {x y} q=>?_
 rw [fj] at q
 exact (dz _ _).1 q
theorem E8 {s:Sta} {l:List It} {k:List Pc} (h:(fK s l k).2 = 0) :
 ((nl s.flt l).all fun x=>bv s.know x.key x.rep x.cnt || bv (bz k s.flt) x.key x.rep x.cnt) = true ∧ eG (bz k s.flt) s.id ≤ s.cnt ∧ dV (bN [s.its ++ nl s.flt l]) = true ∧ (bN [s.its ++ nl s.flt l]).length ≤ 4096:=by
 unfold fK at h
 by_cases c1:f0 s = false
 ·rw [if_pos c1] at h;simp at h
 rw [if_neg c1] at h
 by_cases c2:du l = false ∨ ¬ aY k
 ·rw [if_pos c2] at h;simp at h
 rw [if_neg c2] at h
 by_cases c3:(nl s.flt l).any (fun x=>!bv s.know x.key x.rep x.cnt && !bv (bz k s.flt) x.key x.rep x.cnt) = true
 ·rw [if_pos c3] at h;simp at h
 rw [if_neg c3] at h
 by_cases c4:eG (bz k s.flt) s.id > s.cnt
 ·rw [if_pos c4] at h;simp at h
 rw [if_neg c4] at h
 by_cases c5:dV (bN [s.its ++ nl s.flt l]) = false
 ·rw [if_pos c5] at h;simp at h
 rw [if_neg c5] at h
 by_cases c6:(bN [s.its ++ nl s.flt l]).length > 4096
 ·rw [if_pos c6] at h;simp at h
 refine ⟨?_,by omega,by simpa using c5,by omega⟩
 rw [List.all_eq_true]
 intro x hx
 cases hq:(bv s.know x.key x.rep x.cnt || bv (bz k s.flt) x.key x.rep x.cnt) with
 | true=>rfl
 | false=>
  exfalso
  apply c3
  rw [List.any_eq_true]
  rw [Bool.or_eq_false_iff] at hq
  exact ⟨x,hx,by rw [hq.1,hq.2];rfl⟩
theorem JR {s:Sta} (h1:1 ≤ s.id ∧ s.id ≤ 16) (h2:0 ≤ s.cnt ∧ s.cnt ≤ 1099511627776) (h3:s.its.length ≤ 4096) (h4:dr s.flt) (h5:du s.its = true) (h6:aY s.know) (h7:bz s.know s.flt = s.know) (h8:eG s.know s.id ≤ s.cnt) (h9:dV s.its = true) (h10:∀ x ∈ s.its,bA s.flt x.key = true ∧ bv s.know x.key x.rep x.cnt = true):f0 s = true:=by
 unfold f0
 rw [decide_eq_true h1,decide_eq_true h2,decide_eq_true h3,decide_eq_true h4,h5,decide_eq_true h6,decide_eq_true h7,decide_eq_true h8,h9]
 simp only [Bool.true_and,List.all_eq_true,Bool.and_eq_true]
 exact h10
theorem gx {s:Sta} (h:f0 s = true):(1 ≤ s.id ∧ s.id ≤ 16) ∧ (0 ≤ s.cnt ∧ s.cnt ≤ 1099511627776) ∧ s.its.length ≤ 4096 ∧ dr s.flt ∧ du s.its = true ∧ aY s.know ∧ bz s.know s.flt = s.know ∧ eG s.know s.id ≤ s.cnt ∧ dV s.its = true ∧ ∀ x ∈ s.its,bA s.flt x.key = true ∧ bv s.know x.key x.rep x.cnt = true:=by
 unfold f0 at h
 simp only [Bool.and_eq_true,decide_eq_true_eq,List.all_eq_true] at h
 obtain ⟨⟨⟨⟨⟨⟨⟨⟨⟨h1,h2⟩,h3⟩,h4⟩,h5⟩,h6⟩,h7⟩,h8⟩,h9⟩,h10⟩:=h
 exact ⟨h1,h2,h3,h4,h5,h6,h7,h8,h9,h10⟩
theorem qC {s:Sta} {l:List It} {k:List Pc} (h:(fK s l k).2 = 0):f0 (fK s l k).1 = true:=by
 obtain ⟨a1,a2,a3,a4⟩:=sH h
 obtain ⟨b1,b2,b3,b4⟩:=E8 h
 obtain ⟨c1,c2,c3,c4,c5,c6,c7,c8,c9,c10⟩:=gx a1
 obtain ⟨r1,_⟩:=iy k s.flt
 obtain ⟨m1,m2,_⟩:=cZ [s.its ++ nl s.flt l]
 rw [a4]
 refine JR c1 c2 b4 c4 ?_ (nK _).1 (u3 c6 r1 c7 (yQ k s.flt)) (tx c6 r1 c2.1 c8 b2) b3 fun x hx=>?_
 ·unfold du
  rw [Bool.and_eq_true]
  refine ⟨?_,decide_eq_true (Dc m1)⟩
  rw [List.all_eq_true]
  exact fun x hx=>(List.mem_filter.1 (m2 x hx)).2
 ·have hm:=(List.mem_filter.1 (m2 x hx)).1
  have hm:x ∈ s.its ++ nl s.flt l:=by simpa using hm
  simp only
  rw [sG c6 r1]
  rcases List.mem_append.1 hm with q|q
  ·obtain ⟨q1,q2⟩:=c10 x q
   exact ⟨q1,by rw [q2];rfl⟩
  ·have q1:=(List.mem_filter.1 q).2
   have q2:=List.all_eq_true.1 b1 x q
   exact ⟨q1,q2⟩
theorem zt {l:List It} (h:du l = true):l.all itR = true:=by
 unfold du at h
 rw [Bool.and_eq_true] at h
 exact h.1
theorem E9:∀ (a s:List UInt8),cz a s ≤ 0 → cz s (a ++ [0]) < 0 → s = a:=by
 intro a
 induction a with
 | nil=>
  intro s _ h
  cases s with
  | nil=>rfl
  | cons c t=>
   exfalso
   have hc:¬ c.toNat < (0:UInt8).toNat:=by simp
   simp only [List.nil_append,cz] at h
   rw [if_neg hc] at h
   split at h
   ·omega
   ·cases t <;> simp [cz] at h
 | cons x a ih=>
  intro s h1 h2
  cases s with
  | nil=>simp [cz] at h1
  | cons c t=>
   simp only [List.cons_append,cz] at h1 h2
   by_cases q1:x.toNat < c.toNat
   ·rw [if_neg (by omega),if_pos q1] at h2;omega
   ·rw [if_neg q1] at h1
    by_cases q2:c.toNat < x.toNat
    ·rw [if_pos q2] at h1;omega
    ·rw [if_neg q2] at h1
     rw [if_neg q2,if_neg q1] at h2
     have e:c = x:=UInt8.toNat_inj.1 (by omega)
     rw [e,ih t h1 h2]
theorem u4:∀ (a:List UInt8),cz a (a ++ [0]) < 0:=by
 intro a
 induction a with
 | nil=>simp [cz]
 | cons x a ih=>
  simp only [List.cons_append,cz]
  rw [if_neg (by omega),if_neg (by omega)];exact ih
theorem app0 (k:ByteArray):(k ++ ⟨#[0]⟩:ByteArray).data.toList = k.data.toList ++ [0]:=by simp
theorem Nc {k:ByteArray} (h:cY k = true):eO ⟨k,k ++ ⟨#[0]⟩,false⟩ = true:=by
 rw [bT]
 unfold cY at h
 simp at h
 have hs:(k ++ ⟨#[0]⟩:ByteArray).size = k.size + 1:=by rw [ByteArray.size_append];rfl
 refine ⟨by simp only;omega,by simp only;omega,?_⟩
 simp only [Bool.false_eq_true,if_false]
 unfold bu
 rw [app0]
 exact u4 _
theorem zu {k:ByteArray} (h:cY k = true) (s:ByteArray):aZ ⟨k,k ++ ⟨#[0]⟩,false⟩ s = true ↔ s = k:=by
 rw [bO (Nc h)]
 simp only [Bool.false_eq_true,false_or]
 constructor
 ·rintro ⟨h1,h2⟩
  rw [← ym] at h1
  rw [← dz] at h2
  unfold bu at h1 h2
  rw [app0] at h2
  exact ByteArray.ext (Array.ext' (E9 _ _ h1 h2))
 ·rintro rfl
  refine ⟨(ym _ _).1 (by rw [rZ];decide),?_⟩
  rw [← dz]
  unfold bu
  rw [app0]
  exact u4 _
theorem qh {k:ByteArray} {r c:Int} (h1:cY k = true) (h2:cC r c = true):aY (ee k r c) ∧ ∀ s,db (ee k r c) s = if s = k then [⟨r,[⟨c,c⟩]⟩] else []:=by
 unfold ee
 rw [h1,h2,if_pos (by rfl)]
 have hv:1 ≤ r ∧ r ≤ 16 ∧ 1 ≤ c ∧ c ≤ 1099511627776:=by
  unfold cC at h2
  simp at h2
  omega
 have hkn:cg [⟨r,[⟨c,c⟩]⟩]:=by
  rw [kN]
  refine ⟨⟨hv.1,hv.2.1,by simp,fun i hi=>?_⟩,fun q hq=>(by simp at hq),gd⟩
  intro hi'
  have:i = 0:=by simp at hi;omega
  subst this
  exact ⟨(bK _).2 ⟨by simp;omega,by simp,by simp;omega⟩,fun q=>by omega⟩
 refine ⟨(ci _ _).2 ⟨⟨Nc h1,by simp,hkn⟩,fun q hq=>(by simp at hq),jZ⟩,fun s=>?_⟩
 by_cases e:s = k
 ·rw [if_pos e,iV ((zu h1 s).2 e)]
 ·rw [if_neg e,d7 (fun w=>e ((zu h1 s).1 w)),lX]
theorem Dd {r c:Int} (hr:1 ≤ r ∧ r ≤ 16) {j:Int} (hj:1 ≤ j):aK [⟨r,[⟨c,c⟩]⟩] (j - 1).toNat = if r = j then [⟨c,c⟩] else []:=by
 unfold aK
 simp only [List.flatMap_cons,List.flatMap_nil,List.append_nil]
 by_cases e:r = j
 ·rw [if_pos e,if_pos (by omega)]
 ·rw [if_neg e,if_neg (by omega)]
theorem JS {k:ByteArray} {r c:Int} (h1:cY k = true) (h2:cC r c = true):eG (ee k r c) r ≤ c:=by
 obtain ⟨a1,a2⟩:=qh h1 h2
 have hv:1 ≤ r ∧ r ≤ 16 ∧ 1 ≤ c ∧ c ≤ 1099511627776:=by
  unfold cC at h2
  simp at h2
  omega
 rw [mr a1 (by omega)]
 intro s
 rw [a2,mq (by omega)]
 intro _ n hn
 split at hn
 ·rw [Dd ⟨hv.1,hv.2.1⟩ hv.1,if_pos rfl,bM] at hn
  rcases hn with hn|hn
  ·exact hn.2.2
  ·exact absurd hn (d0 n)
 ·unfold aK at hn;exact absurd hn (d0 n)
theorem Mw {k:ByteArray} {r c:Int} (h1:cY k = true) (h2:cC r c = true):bv (ee k r c) k r c = true:=by
 obtain ⟨a1,a2⟩:=qh h1 h2
 have hv:1 ≤ r ∧ r ≤ 16 ∧ 1 ≤ c ∧ c ≤ 1099511627776:=by
  unfold cC at h2
  simp at h2
  omega
 rw [j2 a1,a2,if_pos rfl,j3]
 refine ⟨h2,?_⟩
 rw [Dd ⟨hv.1,hv.2.1⟩ hv.1,if_pos rfl,bM]
 exact .inl ⟨(bK _).2 ⟨by simp;omega,by simp,by simp;omega⟩,by simp,by simp⟩
theorem JT {k:ByteArray} {r c:Int} {f:List Rg} (h1:cY k = true) (h2:cC r c = true) (hf:bA f k = true):bz (ee k r c) f = ee k r c:=by
 obtain ⟨a1,a2⟩:=qh h1 h2
 rw [mw a1]
 intro s hs
 rw [a2,if_neg (fun e=>by rw [e,hf] at hs;cases hs)]
theorem Ou {k:List Pc} (hk:aY k) {id cnt:Int} (hc:0 ≤ cnt) (h:eG k id ≤ cnt) {s:ByteArray} {c:Int} (hp:bv k s id c = true):c ≤ cnt:=by
 rw [j2 hk,j3] at hp
 exact (mq hc).1 ((mr hk hc).1 h s) (sF hp.1) c hp.2
theorem m6 {l:List It} {k:ByteArray} {y:It} (h:bW l k = some y):y ∈ l ∧ y.key = k:=by
 unfold bW at h
 exact ⟨List.mem_of_find?_eq_some h,by simpa using List.find?_some h⟩
theorem Fa {l:List It} {k:ByteArray} (h:bW l k = none):∀ y ∈ l,y.key ≠ k:=by
 unfold bW at h
 rw [List.find?_eq_none] at h
 intro y hy
 simpa using h y hy
theorem zv:∀ (l:List It) (x:It),(gi x l).length ≤ l.length + 1:=by
 intro l
 induction l with
 | nil=>intro x;rw [gi];simp
 | cons y l ih=>
  intro x
  rw [gi]
  split
  ·have:=ih x;simp only [List.length_cons];omega
  ·have:=List.length_filter_le (fun z:It=>decide (z.key ≠ x.key)) (y :: l)
   simp only [List.length_cons] at this ⊢;omega
theorem u5:∀ (l:List It) (x:It),(∃ y ∈ l,y.key = x.key) → (gi x l).length ≤ l.length:=by
 intro l
 induction l with
 | nil=>rintro x ⟨y,hy,_⟩;cases hy
 | cons y l ih=>
  rintro x ⟨z,hz,hk⟩
  rw [gi]
  split
  ·rename_i hc
   rcases List.mem_cons.1 hz with rfl|hz
   ·rw [hk,(kQ _ _).2 rfl] at hc;omega
   ·have:=ih x ⟨z,hz,hk⟩;simp only [List.length_cons];omega
  ·have:((y :: l).filter fun z=>decide (z.key ≠ x.key)).length < (y :: l).length:=
    List.length_filter_lt_length_iff_exists.2 ⟨z,hz,by simp [hk]⟩
   simp only [List.length_cons] at this ⊢;omega
theorem wO (l:List It) (x:It):∀ z ∈ gi x l,z = x ∨ z ∈ l:=fun z hz=>(yR l x z hz).imp id And.left
theorem BV:∀ (l:List It) (x:It),dV l = true → (∀ y ∈ l,verOf y ≠ verOf x) → dV (gi x l) = true:=by
 intro l
 induction l with
 | nil=>intro x _ _;rw [gi];unfold dV;simp
 | cons y l ih=>
  intro x h hn
  have h':=of_decide_eq_true h
  rw [List.map_cons,List.nodup_cons] at h'
  rw [gi]
  split
  ·have i1:=of_decide_eq_true (ih x (decide_eq_true h'.2) (fun z hz=>hn z (List.mem_cons_of_mem _ hz)))
   refine decide_eq_true ?_
   rw [List.map_cons,List.nodup_cons]
   refine ⟨fun w=>?_,i1⟩
   obtain ⟨z,hz,e⟩:=List.mem_map.1 w
   rcases wO l x z hz with rfl|q
   ·exact hn y List.mem_cons_self e.symm
   ·exact h'.1 (by rw [← e];exact List.mem_map_of_mem q)
  ·refine decide_eq_true ?_
   rw [List.map_cons,List.nodup_cons]
   refine ⟨fun w=>?_,?_⟩
   ·obtain ⟨z,hz,e⟩:=List.mem_map.1 w
    exact hn z (List.mem_filter.1 hz).1 e
   ·have hs:((y :: l).filter fun z=>decide (z.key ≠ x.key)).Sublist (y :: l):=List.filter_sublist
    exact (of_decide_eq_true h).sublist (hs.map verOf)
theorem tz {s:Sta} {x:It} (h:f0 s = true) (hc:s.cnt ≠ 1099511627776) (hx:itR x = true) (hid:x.rep = s.id) (hcn:x.cnt = s.cnt + 1) (hf:bA s.flt x.key = true) (hl:(gi x s.its).length ≤ 4096):f0 (nb s x) = true:=by
 obtain ⟨c1,c2,c3,c4,c5,c6,c7,c8,c9,c10⟩:=gx h
 have hk:cY x.key = true:=by unfold itR at hx;simp only [Bool.and_eq_true] at hx;exact hx.1.1
 have hv:cC x.rep x.cnt = true:=by unfold itR at hx;simp only [Bool.and_eq_true] at hx;exact hx.1.2
 obtain ⟨r1,_⟩:=qh hk hv
 have hup:Up s.its:=by
  have:=(pU (i9.1 c5))
  exact this
 have hall:=zt c5
 have hnew:∀ y ∈ s.its,verOf y ≠ verOf x:=fun y hy e=>by
  unfold verOf at e
  have e1:y.rep = s.id:=by rw [← hid];exact (Prod.mk.inj e).1
  have e2:y.cnt = s.cnt + 1:=by rw [← hcn];exact (Prod.mk.inj e).2
  have:=(c10 y hy).2
  rw [e1] at this
  have:=Ou c6 c2.1 c8 this
  omega
 unfold nb
 refine JR c1 (by simp only;omega) hl c4 ?_ (nK _).1 (u3 c6 r1 c7 (JT hk hv hf)) (tx c6 r1 (by simp only;omega) (by simp only;omega) ?_) (BV _ _ c9 hnew) fun z hz=>?_
 ·unfold du
  rw [Bool.and_eq_true]
  refine ⟨?_,decide_eq_true (Dc (wo _ _ hup))⟩
  rw [List.all_eq_true]
  intro z hz
  rcases wO _ _ z hz with rfl|q
  ·exact hx
  ·exact List.all_eq_true.1 hall z q
 ·have:=JS hk hv
  rw [hid] at this ⊢
  rw [hcn] at this ⊢
  exact this
 ·simp only
  rw [sG c6 r1]
  rcases wO _ _ z hz with rfl|q
  ·exact ⟨hf,by rw [Mw hk hv,Bool.or_true]⟩
  ·exact ⟨(c10 z q).1,by rw [(c10 z q).2];rfl⟩
theorem jC {l:List It} (h:l.all itR = true):l.filter itR = l:=List.filter_eq_self.2 fun x hx=>List.all_eq_true.1 h x hx
theorem dn {s:Sta} (h:f0 s = true):s.its.all itR = true ∧ Up s.its:=by
 obtain ⟨_,_,_,_,c5,_⟩:=gx h
 exact ⟨zt c5,pU (i9.1 c5)⟩
theorem kf {l:List It} (h:Up l) (k:ByteArray):cj k l = bW l k:=by
 have h1:=h.filter k
 have h2:(l.filter fun x=>x.key == k).head? = l.find? fun x=>x.key == k:=List.head?_filter
 rw [h1] at h2
 have h3:bW l k = l.find? fun x=>x.key == k:=by
  unfold bW
  congr 1
  funext x
  rw [Bool.eq_iff_iff,decide_eq_true_eq,io]
 rw [h3,← h2]
 cases cj k l <;> rfl
theorem zw {l m:List It} (hl:Up l) (hm:Up m) (h:∀ k,bW l k = bW m k):l = m:=Up.uniq hl hm fun k=>by rw [kf hl,kf hm,h]
theorem wP {s:Int} {t:Tr} (h:qL s t):Up t.lst:=by
 rw [jn]
 unfold Up
 rw [List.pairwise_map]
 exact List.Pairwise.imp (fun {a b} q=>fj.2 ((dz _ _).2 q)) h.1
theorem JU {s:Int} {t:Tr} (h:qL s t) (k:ByteArray):jM t k = bW t.lst k:=wG t k h.1
theorem Fb {p:It → Bool}:∀ {l:List It},l.Pairwise (fun x y=>p y = true → p x = true) → l.filter p = l.take (l.filter p).length:=by
 intro l
 induction l with
 | nil=>intro _;rfl
 | cons x l ih=>
  intro h
  obtain ⟨h1,h2⟩:=List.pairwise_cons.1 h
  rw [List.filter_cons]
  by_cases c:p x = true
  ·rw [if_pos c,List.length_cons,List.take_succ_cons,← ih h2]
  ·rw [if_neg c]
   have:l.filter p = []:=by
    rw [List.filter_eq_nil_iff]
    exact fun y hy q=>c (h1 y hy q)
   rw [this];rfl
theorem Ov {r:Rg} (hr:eO r = true):∀ {l:List It},Up l → l.filter (fun x=>aZ r x.key) = (l.drop (l.filter fun x=>decide (x.key < r.lo)).length).take (l.filter fun x=>aZ r x.key).length:=by
 intro l
 induction l with
 | nil=>intro _;rfl
 | cons x l ih=>
  intro h
  obtain ⟨h1,h2⟩:=List.pairwise_cons.1 h
  by_cases c:x.key < r.lo
  ·have hx:aZ r x.key = false:=by
    rw [← Bool.not_eq_true,bO hr]
    rintro ⟨q,_⟩;grind
   have e1:((x :: l).filter fun y=>aZ r y.key) = l.filter fun y=>aZ r y.key:=by rw [List.filter_cons,if_neg (by rw [hx];simp)]
   have e2:((x :: l).filter fun y:It=>decide (y.key < r.lo)) = x :: l.filter fun y:It=>decide (y.key < r.lo):=by rw [List.filter_cons,if_pos (by simpa using c)]
   rw [e1,e2,List.length_cons,List.drop_succ_cons]
   exact ih h2
  ·have hn:((x :: l).filter fun x=>decide (x.key < r.lo)) = []:=by
    rw [List.filter_eq_nil_iff]
    intro y hy q
    have q:y.key < r.lo:=by simpa using q
    rcases List.mem_cons.1 hy with rfl|hy
    ·exact c q
    ·have:=(dz _ _).1 (fj.1 (h1 y hy));grind
   rw [hn,List.length_nil,List.drop_zero]
   refine Fb (h.imp_of_mem fun {a b} ha hb q w=>?_)
   have hab:=(dz _ _).1 (fj.1 q)
   rw [bO hr] at w ⊢
   have ha':¬ a.key < r.lo:=fun e=>by
    have:=List.filter_eq_nil_iff.1 hn a ha
    simp [e] at this
   refine ⟨by grind,?_⟩
   rcases w.2 with e|e
   ·exact .inl e
   ·exact .inr (by grind)
theorem wQ {p q:It → Bool}:∀ {l:List It},Up l → (∀ x ∈ l,∀ y ∈ l,p x = true → q y = true → x.key < y.key) → l.filter (fun x=>p x || q x) = l.filter p ++ l.filter q:=by
 intro l
 induction l with
 | nil=>intro _ _;rfl
 | cons x l ih=>
  intro h hc
  obtain ⟨h1,h2⟩:=List.pairwise_cons.1 h
  have ih':=ih h2 fun a ha b hb=>hc a (List.mem_cons_of_mem _ ha) b (List.mem_cons_of_mem _ hb)
  rw [List.filter_cons,List.filter_cons (p:=p),List.filter_cons (p:=q),ih']
  by_cases cp:p x = true
  ·have cq:¬ q x = true:=fun w=>by
    have:=hc x List.mem_cons_self x List.mem_cons_self cp w
    grind
   rw [if_pos (by rw [cp];rfl),if_pos cp,if_neg cq];rfl
  ·by_cases cq:q x = true
   ·have hn:l.filter p = []:=by
     rw [List.filter_eq_nil_iff]
     intro y hy w
     have e1:=hc y (List.mem_cons_of_mem _ hy) x List.mem_cons_self w cq
     have e2:=(dz _ _).1 (fj.1 (h1 y hy))
     grind
    rw [if_pos (by rw [cq,Bool.or_true]),if_neg cp,if_pos cq,hn];rfl
   ·rw [if_neg (by simp [cp,cq]),if_neg cp,if_neg cq]
theorem Fc:∀ {R:List Rg},dr R → R.Pairwise (fun a b=>a.op = false ∧ a.hi < b.lo):=by
 intro R h
 rw [List.pairwise_iff_getElem]
 have step:∀ (d i:Nat) (hi:i + d + 1 < R.length),(R[i]'(by omega)).op = false ∧ (R[i]'(by omega)).hi < (R[i + d + 1]'hi).lo:=by
  intro d
  induction d with
  | zero=>
   intro i hi
   have:=(h (i + 1) hi).2 (by omega)
   simpa [dz] using this
  | succ d ih=>
   intro i hi
   obtain ⟨a,b⟩:=ih i (by omega)
   have c:=(h (i + d + 1 + 1) (by omega)).2 (by omega)
   simp only [Nat.add_sub_cancel] at c
   have e:=fZ (vO h (show i + d + 1 < R.length by omega))
   rw [c.1] at e
   have e:(R[i + d + 1]'(by omega)).lo < (R[i + d + 1]'(by omega)).hi:=by simpa using e
   have f:=c.2
   rw [dz] at f
   refine ⟨a,?_⟩
   have e1:i + (d + 1) + 1 = i + d + 1 + 1:=by omega
   simp only [e1]
   grind
 intro i j hi hj hij
 obtain ⟨d,rfl⟩:∃ d,j = i + d + 1:=⟨j - i - 1,by omega⟩
 exact step d i hj
theorem JV:∀ {R:List Rg} {l:List It},dr R → Up l → R.flatMap (fun r=>l.filter fun x=>aZ r x.key) = l.filter fun x=>bA R x.key:=by
 have key:∀ (R:List Rg) (l:List It),(∀ r ∈ R,eO r = true) → R.Pairwise (fun a b=>a.op = false ∧ a.hi < b.lo) → Up l → R.flatMap (fun r=>l.filter fun x=>aZ r x.key) = l.filter fun x=>bA R x.key:=by
  intro R
  induction R with
  | nil=>intro l _ _ _;rw [List.flatMap_nil];exact (List.filter_eq_nil_iff.2 (fun x _=>by simp [bA])).symm
  | cons r R ih=>
   intro l hr hp hu
   obtain ⟨h1,h2⟩:=List.pairwise_cons.1 hp
   rw [List.flatMap_cons,ih l (fun q hq=>hr q (List.mem_cons_of_mem _ hq)) h2 hu]
   have e:(l.filter fun x=>bA (r :: R) x.key) = l.filter fun x=>aZ r x.key || bA R x.key:=List.filter_congr fun x _=>by unfold bA;rw [List.any_cons]
   rw [e,wQ hu fun x _ y _ hx hy=>?_]
   unfold bA at hy
   obtain ⟨q,hq,hy⟩:=List.any_eq_true.1 hy
   obtain ⟨e1,e2⟩:=h1 q hq
   have hx:=(bO (hr r List.mem_cons_self) _).1 hx
   have hy:=(bO (hr q (List.mem_cons_of_mem _ hq)) _).1 hy
   rcases hx.2 with w|w
   ·rw [e1] at w;cases w
   ·have:=hy.1;grind
 intro R l h hu
 exact key R l (fun r hr=>by obtain ⟨i,hi,rfl⟩:=List.getElem_of_mem hr;exact vO h hi) (Fc h) hu
theorem Fd (x:It) (o:Int) (k:ByteArray):∀ {L:List (It × Int)},mn L → bW ((j9 L x o).map (·.1)) k = if x.key = k then some x else bW (L.map (·.1)) k:=by
 intro L
 induction L with
 | nil=>intro _;unfold j9 bW;by_cases e:x.key = k <;> simp [e]
 | cons y L ih=>
  intro h
  obtain ⟨h1,h2⟩:=List.pairwise_cons.1 h
  have ih:=ih h2
  unfold bW at ih ⊢
  unfold j9
  by_cases c1:x.key < y.1.key
  ·rw [if_pos c1]
   simp only [List.map_cons,List.find?_cons]
   by_cases e:x.key = k <;> simp [e]
  ·rw [if_neg c1]
   by_cases c2:y.1.key < x.key
   ·rw [if_pos c2]
    simp only [List.map_cons,List.find?_cons]
    rw [ih]
    by_cases e:y.1.key = k
    ·have:¬ x.key = k:=fun q=>by rw [q,← e] at c2;grind
     simp [e,this]
    ·simp [e]
   ·rw [if_neg c2]
    have e0:x.key = y.1.key:=by grind
    simp only [List.map_cons,List.find?_cons]
    by_cases e:x.key = k
    ·simp [e]
    ·have:¬ y.1.key = k:=fun q=>e (e0.trans q)
     simp [e,this]
theorem zx {s:Int} {t:Tr} (h:qL s t) (x:It) (o:Int) (k:ByteArray):bW (j6 t x o).lst k = if x.key = k then some x else bW t.lst k:=by
 rw [jn,jn,s8 t x o h.1]
 exact Fd x o k h.1
def iA (s:Int) (T:Tr × Ix) (y:It):Tr × Ix:=
 (j6 T.1 y (dp s y),mc (match jM T.1 y.key with|some o=>jk T.2 o.rep o.cnt|none=>T.2) y.rep y.cnt y.key)
def dv (s:Int) (T:Tr × Ix) (y:It):Tr × Ix:=if jM T.1 y.key = some y then T else iA s T y
theorem De {s:Int} {t:Tr} (h:qL s t) {y:It} (hy:itR y = true):qL s (j6 t y (dp s y)):=by
 have:=Jp h ⟨false,y⟩
 unfold Jo at this
 simpa [hy] using this
theorem Fe {s:Int} {T:Tr × Ix} (h:qL s T.1) {y:It} (hy:itR y = true):qL s (dv s T y).1 ∧ ∀ k,bW (dv s T y).1.lst k = if y.key = k then some y else bW T.1.lst k:=by
 unfold dv
 by_cases e:jM T.1 y.key = some y
 ·rw [if_pos e]
  refine ⟨h,fun k=>?_⟩
  split
  ·rename_i q
   rw [← q,← JU h,e]
  ·rfl
 ·rw [if_neg e]
  exact ⟨De h hy,fun k=>zx h y _ k⟩
theorem JW {s:Int}:∀ (l:List It) (T:Tr × Ix),qL s T.1 → l.all itR = true → Up l → qL s (l.foldl (dv s) T).1 ∧ ∀ k,bW (l.foldl (dv s) T).1.lst k = (bW l k).or (bW T.1.lst k):=by
 intro l
 induction l with
 | nil=>intro T h _ _;exact ⟨h,fun k=>by unfold bW;rfl⟩
 | cons y l ih=>
  intro T h hr hu
  rw [List.all_cons,Bool.and_eq_true] at hr
  obtain ⟨h1,h2⟩:=List.pairwise_cons.1 hu
  obtain ⟨a,b⟩:=Fe h hr.1
  obtain ⟨c,d⟩:=ih (dv s T y) a hr.2 h2
  rw [List.foldl_cons]
  refine ⟨c,fun k=>?_⟩
  rw [d,b]
  unfold bW
  rw [List.find?_cons]
  by_cases e:y.key = k
  ·have hn:l.find? (fun x=>decide (x.key = k)) = none:=by
    rw [List.find?_eq_none]
    intro z hz q
    have q:z.key = k:=by simpa using q
    have:=(dz _ _).1 (fj.1 (h1 z hz))
    rw [q,← e] at this
    grind
   rw [hn,if_pos e]
   simp [e]
  ·rw [if_neg e]
   simp [e]
theorem JX {s:Int} {T:Tr × Ix} {l:List It} (h:qL s T.1) (hr:l.all itR = true) (hu:Up l) (hk:∀ k,bW l k = none → bW T.1.lst k = none):qL s (l.foldl (dv s) T).1 ∧ (l.foldl (dv s) T).1.lst = l:=by
 obtain ⟨a,b⟩:=JW l T h hr hu
 refine ⟨a,zw (wP a) hu fun k=>?_⟩
 rw [b]
 cases e:bW l k with
 | none=>rw [hk k e];rfl
 | some y=>rfl
theorem zy {l:List It} {x:It} (hu:Up l) {k:ByteArray} (h:bW (gi x l) k = none):bW l k = none:=by
 rw [← kf (wo l x hu),uQ l x k hu] at h
 rw [← kf hu]
 split at h
 ·cases h
 ·exact h
theorem BW {a b:List It} (hr:a.all itR = true) (hu:Up a) {k:ByteArray} (h:bW (bN [a ++ b]) k = none):bW a k = none:=by
 have e:([a ++ b]:List (List It)).flatten.filter itR = a ++ b.filter itR:=by
  rw [show ([a ++ b]:List (List It)).flatten = a ++ b by simp,List.filter_append,jC hr]
 rw [← kf (cZ _).1,(cZ _).2.2,e,d9] at h
 rw [← kf hu]
 cases q:cj k a with
 | none=>rfl
 | some y=>
  rw [q] at h
  cases q2:cj k (b.filter itR) with
  | none=>rw [q2] at h;cases h
  | some z=>
   rw [q2] at h
   simp only [jK] at h
   split at h <;> cases h
structure OU (s:Int) (T:Tr × Ix) (l:List It):Prop where
 tree:qL s T.1
 lst:T.1.lst = l
theorem pa {s:Int} {T:Tr × Ix} {l m:List It} (h:OU s T l) (hr:m.all itR = true) (hu:Up m) (hk:∀ k,bW m k = none → bW l k = none):OU s (m.foldl (dv s) T) m:=by
 obtain ⟨a,b⟩:=JX h.tree hr hu (fun k q=>by rw [h.lst];exact hk k q)
 exact ⟨a,b⟩
theorem Mx {s:Int} {T:Tr × Ix} {b:Nat} (h:pW T.2 b) (y:It):pW (dv s T y).2 (b + 2):=by
 unfold dv
 split
 ·exact h.up (by omega)
 ·unfold iA
  simp only
  cases jM T.1 y.key with
  | none=>exact (o0 h _ _ _).up (by omega)
  | some o=>exact o0 (sI h _ _) _ _ _
theorem JY {s:Int}:∀ (l:List It) (T:Tr × Ix) (b:Nat),pW T.2 b → pW (l.foldl (dv s) T).2 (b + 2 * l.length):=by
 intro l
 induction l with
 | nil=>intro T b h;exact h
 | cons y l ih=>
  intro T b h
  rw [List.foldl_cons,List.length_cons]
  exact (ih _ _ (Mx h y)).up (by omega)
end Go.Proofs.YtliiahjpiagdkaaGreat
