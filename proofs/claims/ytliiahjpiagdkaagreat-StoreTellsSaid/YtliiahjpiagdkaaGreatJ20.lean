/- Texts joined: SwW IxP IxD IxN. -/
import Derived.Test.YtliiahjpiagdkaaGreatJ19
import Derived.Test.YtliiahjpiagdkaaGreatJ05
import Derived.WalkKit
import Derived.Deep.RegionLaw
import Derived.Deep.MidRow
import Derived.Deep.LoopGhost
import Derived.Lib.Walk
import Derived.Lib.SliceRun
import Derived.Shelf.RegionOpenPlain
import Derived.Shelf.Spec.SlicesInsert
import Derived.Shelf.Spec.SlicesInsertGrow
set_option maxRecDepth 10000
set_option maxHeartbeats 8000000
namespace Go.Proofs.YtliiahjpiagdkaaGreat
open Go.RowKit
def gi (x:It):List It → List It
 | []=>[x]
 | y :: l=>if bu y.key x.key < 0 then y :: gi x l else x :: (y :: l).filter fun z=>decide (z.key ≠ x.key)
theorem yR:∀ (l:List It) (x z:It),z ∈ gi x l → z = x ∨ (z ∈ l ∧ z.key ≠ x.key):=by
 intro l
 induction l with
 | nil=>intro x z h;rw [gi] at h;simp at h;exact .inl h
 | cons y l ih=>
  intro x z h
  rw [gi] at h
  split at h
  ·rename_i hc
   rcases List.mem_cons.1 h with rfl|h
   ·exact .inr ⟨List.mem_cons_self,fun e=>by rw [e,(kQ _ _).2 rfl] at hc;omega⟩
   ·rcases ih x z h with q|⟨q,r⟩
    ·exact .inl q
    ·exact .inr ⟨List.mem_cons_of_mem _ q,r⟩
  ·rcases List.mem_cons.1 h with rfl|h
   ·exact .inl rfl
   ·obtain ⟨q,r⟩:=List.mem_filter.1 h
    exact .inr ⟨q,by simpa using r⟩
theorem wo:∀ (l:List It) (x:It),Up l → Up (gi x l):=by
 intro l
 induction l with
 | nil=>intro x _;rw [gi];exact List.pairwise_singleton _ _
 | cons y l ih=>
  intro x h
  have h':=List.pairwise_cons.1 h
  rw [gi]
  split
  ·rename_i hc
   refine List.pairwise_cons.2 ⟨fun z hz=>?_,ih x h'.2⟩
   rcases yR l x z hz with rfl|⟨q,_⟩
   ·exact fj.2 hc
   ·exact h'.1 z q
  ·rename_i hc
   refine List.pairwise_cons.2 ⟨fun z hz=>?_,List.Pairwise.filter _ h⟩
   obtain ⟨q,r⟩:=List.mem_filter.1 hz
   have r:z.key ≠ x.key:=by simpa using r
   have hyx:ltK y x = false:=by
    cases w:ltK y x with
    | false=>rfl
    | true=>exact absurd (fj.1 w) hc
   rcases List.mem_cons.1 q with rfl|q
   ·exact wi hyx r.symm
   ·by_cases e:y.key = x.key
    ·have:=h'.1 z q
     rw [fj] at this ⊢
     rw [← e];exact this
    ·exact dA.tr _ _ _ (wi hyx (fun w=>e w.symm)) (h'.1 z q)
theorem EB {k:ByteArray} {x:It} {l:List It} (hk:k ≠ x.key):cj k (l.filter fun z=>decide (z.key ≠ x.key)) = cj k l:=by
 unfold cj
 congr 1
 rw [List.filter_filter]
 refine List.filter_congr fun z _=>?_
 by_cases e:z.key = k
 ·have:z.key ≠ x.key:=fun w=>hk (e.symm.trans w)
  simp [e,hk]
 ·have:(z.key == k) = false:=by rw [← Bool.not_eq_true,io];exact e
  rw [this];rfl
theorem uQ:∀ (l:List It) (x:It) (k:ByteArray),Up l → cj k (gi x l) = if x.key = k then some x else cj k l:=by
 intro l
 induction l with
 | nil=>
  intro x k _
  rw [gi,fJ]
  by_cases e:x.key = k
  ·rw [if_pos e,if_pos (by rw [io];exact e)]
  ·rw [if_neg e,if_neg (by rw [io];exact e)];rfl
 | cons y l ih=>
  intro x k h
  have h':=List.pairwise_cons.1 h
  rw [gi]
  split
  ·rename_i hc
   have hne:y.key ≠ x.key:=fun e=>by rw [e,(kQ _ _).2 rfl] at hc;omega
   rw [show y :: gi x l = [y] ++ gi x l from rfl,d9,ih x k h'.2,show y :: l = [y] ++ l from rfl,d9]
   by_cases e:x.key = k
   ·rw [if_pos e,if_pos e,fJ,if_neg (by rw [io];exact fun w=>hne (w.trans e.symm))];rfl
   ·rw [if_neg e,if_neg e]
  ·rw [show x :: (y :: l).filter (fun z=>decide (z.key ≠ x.key)) = [x] ++ (y :: l).filter (fun z=>decide (z.key ≠ x.key)) from rfl,d9,fJ]
   by_cases e:x.key = k
   ·rw [if_pos e,if_pos (by rw [io];exact e),i8 (fun z hz=>by
     obtain ⟨_,r⟩:=List.mem_filter.1 hz
     have r:z.key ≠ x.key:=by simpa using r
     exact fun w=>r (w.trans e.symm))];rfl
   ·rw [if_neg e,if_neg (by rw [io];exact e),EB (fun w=>e w.symm)];rfl
theorem EC {x:It} {l:List It} (hx:itR x = true) (hl:l.all itR = true) (hu:Up l) (hr:∀ y ∈ l,y.key = x.key → y.rank < x.rank):bN [[x],l] = gi x l:=by
 refine (Up.uniq (wo l x hu) (cZ _).1 fun k=>?_).symm
 have hf:([[x],l]:List (List It)).flatten.filter itR = [x] ++ l:=by
  have:([[x],l]:List (List It)).flatten = [x] ++ l:=by simp
  rw [this,List.filter_eq_self]
  intro z hz
  rw [List.mem_append,List.mem_singleton] at hz
  rcases hz with rfl|hz
  ·exact hx
  ·exact List.all_eq_true.1 hl z hz
 rw [(cZ _).2.2,hf,d9,uQ l x k hu,fJ]
 by_cases e:x.key = k
 ·rw [if_pos e,if_pos (by rw [io];exact e)]
  have h1:=hu.filter k
  cases h2:cj k l with
  | none=>rfl
  | some z=>
   rw [h2] at h1
   have hz:z ∈ l.filter (fun x=>x.key == k):=by rw [h1];simp
   obtain ⟨q,r⟩:=List.mem_filter.1 hz
   rw [io] at r
   have:=hr z q (r.trans e.symm)
   have hn:¬ oE z x > 0:=by rw [oZ];omega
   simp only [jK]
   rw [if_neg hn]
 ·rw [if_neg e,if_neg (by rw [io];exact e)];rfl
def bW (l:List It) (k:ByteArray):Option It:=l.find? fun x=>decide (x.key = k)
def ec (l:List It) (k:ByteArray):Int:=match bW l k with|some x=>x.rank|none=>0
def ee (k:ByteArray) (r c:Int):List Pc:=if cY k && cC r c then [⟨⟨k,k ++ ⟨#[0]⟩,false⟩,[⟨r,[⟨c,c⟩]⟩]⟩] else []
def fL (s:Sta) (k:ByteArray) (prio:Int) (dead:Bool) (body:ByteArray):It:=⟨k,s.id,s.cnt + 1,ec s.its k + 1,prio,dead,body⟩
def nb (s:Sta) (x:It):Sta:=⟨s.id,s.flt,gi x s.its,qu (s.know ++ ee x.key x.rep x.cnt),s.cnt + 1⟩
def gS (s:Sta) (k:ByteArray) (prio:Int) (body:ByteArray):Sta × Int:=
 if f0 s = false then ({},41)
 else if cY k = false ∨ prio < 0 ∨ prio > 255 ∨ body.size > 64 then ({},2)
 else if bA s.flt k = false then ({},30)
 else if s.cnt = 1099511627776 ∨ ec s.its k = 1099511627776 then ({},33)
 else if bW s.its k = none ∧ s.its.length = 4096 then ({},32)
 else (nb s (fL s k prio false body),0)
def fO (s:Sta) (k:ByteArray):Sta × Int:=
 if f0 s = false then ({},41)
 else match bW s.its k with
  | none=>({},31)
  | some y=>if y.dead then ({},31)
   else if s.cnt = 1099511627776 ∨ y.rank = 1099511627776 then ({},33)
   else (nb s (fL s k y.prio true ⟨#[]⟩),0)
abbrev Ety:=Int × ByteArray
abbrev li (x:Ety):List PV:=[av (.int .i64 x.1),av (.string x.2)]
def uR (l:List Ety):Prop:=∀ x ∈ l,1 ≤ x.1 ∧ x.1 ≤ 1099511627776
def jA (l:List Ety) (h:Nat):Int:=match l[h]? with|some x=>x.1|none=>0
def tW (l:List Ety) (n:Int):Nat → Nat → Nat → Nat
 | 0,i,_=>i
 | f + 1,i,j=>if i < j then (if jA l ((i + j) / 2) - n < 0 then tW l n f ((i + j) / 2 + 1) j else tW l n f i ((i + j) / 2)) else i
def f5 (l:List Ety) (n:Int):Nat:=tW l n l.length 0 l.length
def yS (l:List Ety) (n:Int):Bool:=decide (f5 l n < l.length) && decide (jA l (f5 l n) - n = 0)
theorem NW (l:List Ety) (n:Int):∀ (f i j:Nat),i ≤ j → i ≤ tW l n f i j ∧ tW l n f i j ≤ j:=by
 intro f
 induction f with
 | zero=>intro i j h;exact ⟨Nat.le_refl _,h⟩
 | succ f ih=>
  intro i j h
  rw [tW]
  split
  ·split
   ·have:=ih ((i + j) / 2 + 1) j (by omega);omega
   ·have:=ih i ((i + j) / 2) (by omega);omega
  ·omega
theorem Bn (l:List Ety) (n:Int):∀ (f i j:Nat),j - i ≤ f → tW l n (f + 1) i j = tW l n f i j:=by
 intro f
 induction f with
 | zero=>
  intro i j h
  show (if i < j then _ else i) = i
  rw [if_neg (by omega)]
 | succ f ih=>
  intro i j h
  rw [tW]
  conv=>rhs;rw [tW]
  split
  ·split
   ·exact ih _ _ (by omega)
   ·exact ih _ _ (by omega)
  ·rfl
theorem IP (l:List Ety) (n:Int):f5 l n ≤ l.length:=(NW l n _ 0 l.length (Nat.zero_le _)).2
structure Ix where
 rows:Nat → List Ety
 many:Int
def Ix.upd (x:Ix) (q:Nat) (l:List Ety) (m:Int):Ix:=⟨fun j=>if j = q then l else x.rows j,m⟩
def fk:Ix:=⟨fun _=>[],0⟩
structure pW (x:Ix) (b:Nat):Prop where
 ok:∀ j,uR (x.rows j)
 len:∀ j,(x.rows j).length ≤ b
 m1:-(b:Int) ≤ x.many
 m2:x.many ≤ b
def mc (x:Ix) (r c:Int) (k:ByteArray):Ix:=
 if cC r c && cY k then
  (if yS (x.rows (r - 1).toNat) c then x.upd (r - 1).toNat ((x.rows (r - 1).toNat).set (f5 (x.rows (r - 1).toNat) c) (jA (x.rows (r - 1).toNat) (f5 (x.rows (r - 1).toNat) c),k)) x.many
   else x.upd (r - 1).toNat ((x.rows (r - 1).toNat).take (f5 (x.rows (r - 1).toNat) c) ++ (c,k) :: (x.rows (r - 1).toNat).drop (f5 (x.rows (r - 1).toNat) c)) (x.many + 1))
 else x
def j4 (x:Ix) (r c:Int):Bool:=cC r c && yS (x.rows (r - 1).toNat) c
def jk (x:Ix) (r c:Int):Ix:=
 if j4 x r c then x.upd (r - 1).toNat ((x.rows (r - 1).toNat).take (f5 (x.rows (r - 1).toNat) c) ++ (x.rows (r - 1).toNat).drop (f5 (x.rows (r - 1).toNat) c + 1)) (x.many - 1)
 else x
theorem re:pW fk 0:=⟨(fun j x hx=>by cases hx),(fun j=>Nat.le_refl _),by decide,by decide⟩
theorem wq {x:Ix} {b:Nat} (h:pW x b) (q:Nat) {l:List Ety} {m:Int} (h1:uR l) (h2:l.length ≤ b + 1) (h3:m = x.many ∨ m = x.many + 1 ∨ m = x.many - 1):pW (x.upd q l m) (b + 1):=by
 have h4:=h.m1
 have h5:=h.m2
 refine ⟨fun j=>?_,fun j=>?_,?_,?_⟩
 ·show uR (if j = q then l else x.rows j)
  split
  ·exact h1
  ·exact h.ok j
 ·show (if j = q then l else x.rows j).length ≤ b + 1
  split
  ·exact h2
  ·have:=h.len j;omega
 ·show -((b + 1:Nat):Int) ≤ m;omega
 ·show m ≤ ((b + 1:Nat):Int);omega
theorem pW.up {x:Ix} {b c:Nat} (h:pW x b) (hc:b ≤ c):pW x c:=⟨h.ok,fun j=>Nat.le_trans (h.len j) hc,by have:=h.m1;omega,by have:=h.m2;omega⟩
theorem IQ {l:List Ety} (h:uR l) {i:Nat} (hi:i < l.length):1 ≤ jA l i ∧ jA l i ≤ 1099511627776:=by
 unfold jA
 rw [List.getElem?_eq_getElem hi]
 exact h _ (List.getElem_mem hi)
theorem pY {l:List Ety} {n:Int} (h:yS l n = true):f5 l n < l.length:=by
 unfold yS at h
 rw [Bool.and_eq_true,decide_eq_true_eq] at h
 exact h.1
theorem o0 {x:Ix} {b:Nat} (h:pW x b) (r c:Int) (k:ByteArray):pW (mc x r c k) (b + 1):=by
 unfold mc
 by_cases hv:(cC r c && cY k) = true
 ·rw [if_pos hv]
  have hc:1 ≤ c ∧ c ≤ 1099511627776:=by
   rw [Bool.and_eq_true] at hv
   have:=hv.1
   unfold cC at this
   simp at this
   omega
  have ho:=h.ok (r - 1).toNat
  have hl:=h.len (r - 1).toNat
  split
  ·rename_i hf
   have hi:=pY hf
   have hc':=IQ ho hi
   refine wq h _ (fun y hy=>?_) (by rw [List.length_set];omega) (.inl rfl)
   rcases List.mem_or_eq_of_mem_set hy with q|q
   ·exact ho y q
   ·rw [q];exact hc'
  ·have hi:=IP (x.rows (r - 1).toNat) c
   refine wq h _ (fun y hy=>?_) (by simp only [List.length_append,List.length_take,List.length_cons,List.length_drop];omega) (.inr (.inl rfl))
   rcases List.mem_append.1 hy with q|q
   ·exact ho y (List.mem_of_mem_take q)
   ·rcases List.mem_cons.1 q with q|q
    ·rw [q];exact hc
    ·exact ho y (List.mem_of_mem_drop q)
 ·rw [if_neg hv];exact h.up (by omega)
theorem sI {x:Ix} {b:Nat} (h:pW x b) (r c:Int):pW (jk x r c) (b + 1):=by
 unfold jk
 by_cases hv:j4 x r c = true
 ·rw [if_pos hv]
  have ho:=h.ok (r - 1).toNat
  have hl:=h.len (r - 1).toNat
  refine wq h _ (fun y hy=>?_) (by simp only [List.length_append,List.length_take,List.length_drop];omega) (.inr (.inr rfl))
  rcases List.mem_append.1 hy with q|q
  ·exact ho y (List.mem_of_mem_take q)
  ·exact ho y (List.mem_of_mem_drop q)
 ·rw [if_neg hv];exact h.up (by omega)
end Go.Proofs.YtliiahjpiagdkaaGreat
namespace Go.Proofs.YtliiahjpiagdkaaGreat
open Go.RowKit Go.Lib
theorem Bo {P:Program} (w:World) (t e ty:TypeId) (z:Value) (ht:P.underlying t = some (.slice e)) (hv:∀ w,(zeroValue e).run P w = .ok z w) (n:Nat) (vs:List Value) (hz:(Builtin.zeroCells z.cells n).toList = vs) (h1:∀ v ∈ vs,v.oneCell' = true) (b o c:Nat) (hn:0 < n)
 (hc:∀ j,j < vs.length → (w.cell? ⟨b,o + j,none⟩).isSome = true) (hf:∀ j,j < vs.length → w.frozen? ⟨b,o + j,none⟩ = false) :
 (Builtin.clear_ #[t] ty #[.slice (some ⟨b,o,none⟩) n c]).run P w = .ok (.tuple #[]) (w.setCells b o vs):=by
 have hst:=run_storeCells_cells (P:=P) b o vs 0 w (by simpa using hc) (by simpa using hf) h1
 simp only [Nat.add_zero] at hst
 obtain ⟨m,rfl⟩:∃ m,n = m + 1:=⟨n - 1,by omega⟩
 simp [Builtin.clear_,run_underlying ht,hv,hz,hst]
abbrev entZ:List Value:=[.int .i64 0,.string ⟨#[]⟩]
theorem LV (b cap i n:Nat) (news:List Value) (w:World) (hn:n ≤ cap) (hi:i < n) (_hm:cap ≤ 9223372036854775807) (hlen:news.length = (n - (i + 1)) * 2) (hone:∀ u ∈ news,u.oneCell' = true)
 (hcell:∀ t u,news[t]? = some u → w.cell? ⟨b,(i + 1) * 2 + t,none⟩ = some u) (hall:∀ t,t < n * 2 → (w.cell? ⟨b,t,none⟩).isSome = true ∧ w.frozen? ⟨b,t,none⟩ = false) :
 Calls Tryz.prog 138 #[.slice (some ⟨b,0,none⟩) n cap,.int .i64 i,.int .i64 ((i + 1:Nat):Int)] w fun e w'=>e = .returned (.slice (some ⟨b,0,none⟩) (i + (n - (i + 1))) cap) ∧ w' = (w.drew.setCells b (i * 2) news).setCells b ((i + (n - (i + 1))) * 2) entZ:=by
 have t2:Tryz.prog.underlying 127 = some (.slice 140):=Tryz.underlying127
 have v2:=Tryz.zeroValue140
 generalize hj:i + 1 = j at *
 have mixed:Tryz.prog.follows .mixedOrders = true:=by kernel_rfl
 obtain ⟨i0,hi0,hz0,hz1,hz2⟩:∃ i0,Tryz.prog.info? 140 = some i0 ∧ i0.size = 2 ∧ True ∧ True:=by
  refine ⟨_,rfl,?_,trivial,trivial⟩
  kernel_rfl
 obtain ⟨A,hA,hsrc⟩:∃ A:Addr,(if cap = j then some (⟨b,0,none⟩:Addr) else some ⟨b,j * 2,none⟩) = some A ∧ Hid (∀ t u,news[t]? = some u → w.drew.cell? (A.add t) = some u):=by
  by_cases h:cap = j
  ·refine ⟨⟨b,0,none⟩,by simp [h],fun t u hu=>?_⟩
   have h0:news.length = 0:=by rw [hlen];omega
   rw [List.length_eq_zero_iff.1 h0] at hu
   simp at hu
  ·refine ⟨⟨b,j * 2,none⟩,by simp [h],fun t u hu=>?_⟩
   rw [Addr.add_lit]
   exact hcell t u hu
 have s1:Hid (news.length = (n - j) * 2):=hlen
 have s2:Hid (∀ u ∈ news,u.oneCell' = true):=hone
 have s3:Hid (∀ t,t < news.length → (w.drew.cell? ⟨b,0 + i * 2 + t,none⟩).isSome = true ∧ w.drew.frozen? ⟨b,0 + i * 2 + t,none⟩ = false):=by
  intro t ht
  rw [hlen] at ht
  exact hall _ (by omega)
 obtain ⟨W1,hW1⟩:∃ W1,W1 = w.drew.setCells b (0 + i * 2) news:=⟨_,rfl⟩
 have hcl:∀ ty,(Builtin.clear_ #[127] ty #[.slice (some ⟨b,(i + (n - j)) * 2,none⟩) (n - (i + (n - j))) (cap - (i + (n - j)))]).run Tryz.prog W1 = .ok (.tuple #[]) (W1.setCells b ((i + (n - j)) * 2) entZ):=by
  intro ty
  have e1:n - (i + (n - j)) = 1:=by omega
  rw [e1]
  refine Bo W1 _ _ ty _ t2 v2 1 entZ (by kernel_rfl) (by intro v hv;simp only [List.mem_cons,List.not_mem_nil,or_false] at hv;rcases hv with rfl|rfl <;> rfl) b _ _ (by decide) (fun t ht=>?_) (fun t ht=>?_)
  ·rw [hW1]
   exact World.isSome_setCells _ _ _ _ _ (hall _ (by simp at ht;omega)).1
  ·rw [hW1,World.frozen?_setCells]
   exact (hall _ (by simp at ht;omega)).2
 have hW:Hid (W1 = w.drew.setCells b (0 + i * 2) news):=hW1
 have hG:(w.drew.setCells b (i * 2) news).setCells b ((i + (n - j)) * 2) entZ = W1.setCells b ((i + (n - j)) * 2) entZ:=by rw [hW1,Nat.zero_add]
 rw [hG]
 have hic:i ≤ cap:=by omega
 have hjc:j ≤ cap:=by omega
 have hij:i < j:=by omega
 have hjn:j ≤ n:=by omega
 clear hW1 hall hcell hlen hone hG hj
 go_enter Tryz.func138,Tryz.ntmps138
 go_wp2_with fail
 go_region_law_o (refine step_append_room rfl (.tmp 22) (.tmp 25) 127 rfl 140 i0 2 t2 hi0 hz0 b 0 i cap (by simp [Act.eval,Act.put]) A (n - j) (cap - j) news (by simp [Act.eval,Act.put]) s1.out hsrc.out s2.out (by omega) s3.out ?_;rw [← hW.out])
 go_wp2
 go_ret
 exact ⟨rfl,rfl⟩
end Go.Proofs.YtliiahjpiagdkaaGreat
set_option linter.unusedVariables false
set_option linter.unusedSimpArgs false
namespace Go.Proofs.YtliiahjpiagdkaaGreat
open Go.RowKit Go.Lib
theorem mZ {P:Program} (w:World) (dT sT ty elem:TypeId) (s b o dLen dCap:Nat) (a:Addr) (sLen sCap m:Nat) (cs:List Value)
 (hu:P.underlying dT = some (.slice elem)) (hs:(P.info? elem).map (·.size) = some s) (hm:Nat.min sLen dLen = m) (hn:cs.length = m * s)
 (hsrc:∀ j v,cs[j]? = some v → w.cell? (a.add j) = some v) (hc:∀ j,j < cs.length → (w.cell? ⟨b,o + j,none⟩).isSome = true) (hf:∀ j,j < cs.length → w.frozen? ⟨b,o + j,none⟩ = false) (h1:∀ v ∈ cs,v.oneCell' = true) :
 (Builtin.copy_ #[dT,sT] ty #[.slice (some ⟨b,o,none⟩) dLen dCap,.slice (some a) sLen sCap]).run P w = .ok (goInt m) (w.setCells b o cs):=by
 have hl:=run_loadCells_list (P:=P) w a cs hsrc
 have hst:=run_storeCells_cells (P:=P) b o cs 0 w (by simpa using hc) (by simpa using hf) h1
 cases hq:P.info? elem with
 | none=>simp [hq] at hs
 | some i=>
  have hi:i.size = s:=by simpa [hq] using hs
  simp [Builtin.copy_,run_underlying hu,Builtin.lenOf,Builtin.firstCells,sizeOf,typeInfo,hq,hi,hm,← hn,hl,hst]
section
theorem ws:(Tryz.prog.info? 140).map (·.size) = some 2:=by kernel_rfl
theorem sJ:∃ i0,Tryz.prog.info? 140 = some i0 ∧ i0.zero = some (.agg #[.int .i64 0,.string ⟨#[]⟩]) ∧ i0.size = 2 ∧ i0.bytes = 24:=by
 refine ⟨_,rfl,?_,?_,?_⟩ <;> kernel_rfl
theorem ED (b n c i vb vc:Nat) (cs vs:List Value) (w:World) (hi:i < n) (hroom:n + 1 ≤ c) (hc63:c ≤ 9223372036854775807) (hvb:vb ≠ b)
 (hcl:cs.length = n * 2) (hvl:vs.length = 2)
 (hcs:∀ j v,cs[j]? = some v → w.cell? ⟨b,j,none⟩ = some v) (hsp:∀ j,j < (n + 1) * 2 → (w.cell? ⟨b,j,none⟩).isSome = true) (hfz:∀ j,j < (n + 1) * 2 → w.frozen? ⟨b,j,none⟩ = false)
 (hvs:∀ j v,vs[j]? = some v → w.cell? ⟨vb,j,none⟩ = some v) (h1c:∀ v ∈ cs,v.oneCell' = true) (h1v:∀ v ∈ vs,v.oneCell' = true)
 (tA tB:TypeId) (kA kB:Nat) (hsa:w.shape? vb = some (tA,kA)) (hsb:w.shape? b = some (tB,kB)) (hkB:kB ≠ 0) (hfa:w.frozen? ⟨vb,0,none⟩ = false) (hfe:w.frozen? ⟨vb,kA,none⟩ = false) :
 Calls Tryz.prog 142 #[.slice (some ⟨b,0,none⟩) n c,.int .i64 i,.slice (some ⟨vb,0,none⟩) 1 vc] w fun e w'=>
  e = .returned (.slice (some ⟨b,0,none⟩) (n + 1) c) ∧ w' = (w.drew.setCells b ((i + 1) * 2) (cs.drop (i * 2))).setCells b (i * 2) vs:=by
 have t2:Tryz.prog.underlying 127 = some (.slice 140):=Tryz.underlying127
 have u2:=run_underlying t2
 have mixed:Tryz.prog.follows .mixedOrders = true:=by kernel_rfl
 have hz2:¬ ((i:Int) = (n:Int)):=by omega
 have hov:∀ o lb cb,(callFunc 188 #[.slice (some ⟨vb,0,none⟩) 1 vc,.slice (some ⟨b,o,none⟩) lb cb]).run Tryz.prog w = .ok (.value (.bool false)) w:=fun o lb cb=>by
  rw [run_callFunc_extern Tryz.func188 (by kernel_rfl) (by kernel_rfl) (by kernel_rfl) (e:=Extern.SlicesOverlaps.overlaps #[127,127] #[4]) (by kernel_rfl),
   Lib.run_overlaps_apart w 127 4 140 t2 2 Tryz.sizeOf140 ⟨vb,0,none⟩ ⟨b,o,none⟩ 1 vc lb cb hvb tA tB kA kB hsa hsb hkB hfa hfe]
  rfl
 have hdl:(cs.drop (i * 2)).length = (n - i) * 2:=by rw [List.length_drop,hcl];omega
 have hw1:IntKind.i64.wrap ((i:Int) + 1) = (i:Int) + 1:=by rw [IntKind.wrap_i64];omega
 have hw2:IntKind.i64.wrap ((n:Int) + 1) = (n:Int) + 1:=by rw [IntKind.wrap_i64];omega
 have hb1:(0:Int) ≤ (i:Int) + 1:=by omega
 have hin:i ≤ n:=by omega
 have htn:((i:Int) + 1).toNat = i + 1:=by omega
 have htn2:((n:Int) + 1).toNat = n + 1:=by omega
 have hb2:¬ (c = i + 1):=by omega
 have hb3:(i:Int) ≤ (n:Int) + 1:=by omega
 have hb4:¬ (c = i):=by omega
 have hcp1:∀ ty dc sc,(Builtin.copy_ #[127,127] ty #[.slice (some ⟨b,(i + 1) * 2,none⟩) (n - i) dc,.slice (some ⟨b,i * 2,none⟩) (n + 1 - i) sc]).run Tryz.prog w.drew = .ok (goInt (n - i:Nat)) (w.drew.setCells b ((i + 1) * 2) (cs.drop (i * 2))):=fun ty dc sc=>
  mZ w.drew _ _ ty 140 2 b ((i + 1) * 2) (n - i) dc ⟨b,i * 2,none⟩ (n + 1 - i) sc (n - i) (cs.drop (i * 2)) t2 ws (by simp only [Nat.min_def];split <;> omega) hdl
   (fun j v hj=>by rw [Addr.add_lit];exact hcs (i * 2 + j) v (by rwa [List.getElem?_drop] at hj))
   (fun j hj=>hsp _ (by omega)) (fun j hj=>hfz _ (by omega)) (fun v hv=>h1c v (List.mem_of_mem_drop hv))
 obtain ⟨W1,hW1⟩:∃ W1,W1 = w.drew.setCells b ((i + 1) * 2) (cs.drop (i * 2)):=⟨_,rfl⟩
 have hsp1:∀ k,k < (n + 1) * 2 → (W1.cell? ⟨b,k,none⟩).isSome = true:=fun k hk=>by
  rw [hW1]
  exact World.isSome_setCells b _ _ _ _ (hsp k hk)
 have hcp2:∀ (W:World),(∀ x,W.cell? x = W1.cell? x) → (∀ x,W.frozen? x = W1.frozen? x) → ∀ ty dc,(Builtin.copy_ #[127,127] ty #[.slice (some ⟨b,i * 2,none⟩) (n + 1 - i) dc,.slice (some ⟨vb,0,none⟩) 1 vc]).run Tryz.prog W = .ok (goInt (1:Nat)) (W.setCells b (i * 2) vs):=fun W hWc hWf ty dc=>
  mZ W _ _ ty 140 2 b (i * 2) (n + 1 - i) dc ⟨vb,0,none⟩ 1 vc 1 vs t2 ws (by simp only [Nat.min_def];split <;> omega) (by omega)
   (fun j v hj=>by
     rw [Addr.add_lit,hWc,hW1,World.cell?_setCells_out b _ _ _ _ (fun h _=>absurd h hvb),Nat.zero_add]
     exact hvs j v hj)
   (fun j hj=>by rw [hWc];exact hsp1 _ (by omega)) (fun j hj=>by rw [hWf,hW1,World.frozen?_setCells];exact hfz _ (by omega)) h1v
 rw [← hW1] at hcp1
 clear hsp hfz hsp1 hcs hvs h1c h1v hsa hsb hkB hfa hfe hcl hvl hdl
 go_enter Tryz.func142,Tryz.ntmps142
 go_wp2_with (simp only [hov])
 go_region_law_o (refine step_copy_runI rfl _ _ 127 127 rfl _ _ (by simp [Act.eval,Act.put]) (by simp [Act.eval,Act.put]) (hcp1 _ _ _) ?_)
 go_wp2_with (at_builtin;refine wpList_copy_runI _ rfl _ _ 127 127 rfl _ _ rfl rfl (hcp2 _ (fun _=>rfl) (fun _=>rfl) _ _) ?_)
 go_ret
 first|exact ⟨rfl,rfl⟩|exact ⟨rfl,by rw [hW1]⟩
theorem wt (b n c vb vc:Nat) (vs:List Value) (w:World) (hroom:n + 1 ≤ c) (hc63:c ≤ 9223372036854775807)
 (hvl:vs.length = 2) (hsp:∀ j,j < 2 → (w.cell? ⟨b,n * 2 + j,none⟩).isSome = true) (hfz:∀ j,j < 2 → w.frozen? ⟨b,n * 2 + j,none⟩ = false)
 (hvs:∀ j v,vs[j]? = some v → w.cell? ⟨vb,j,none⟩ = some v) (h1v:∀ v ∈ vs,v.oneCell' = true) :
 Calls Tryz.prog 142 #[.slice (some ⟨b,0,none⟩) n c,.int .i64 n,.slice (some ⟨vb,0,none⟩) 1 vc] w fun e w'=>
  e = .returned (.slice (some ⟨b,0,none⟩) (n + 1) c) ∧ w' = w.setCells b (n * 2) vs:=by
 have t2:Tryz.prog.underlying 127 = some (.slice 140):=Tryz.underlying127
 have mixed:Tryz.prog.follows .mixedOrders = true:=by kernel_rfl
 obtain ⟨i0,hi0,hz0,hzs,hzb⟩:=sJ
 have hsrc:Go.Src Tryz.prog i0.size 127 (.slice (some ⟨vb,0,none⟩) 1 vc) 1 vs w:=by
  rw [hzs]
  exact Go.Src.ofSlice w t2 ⟨vb,0,none⟩ 1 vc vs (by omega) (fun j u hj=>by rw [Addr.add_lit,Nat.zero_add];exact hvs j u hj) h1v
 have hrun:∀ ty,(Builtin.append_ #[127,127] ty #[.slice (some ⟨b,0,none⟩) n c,.slice (some ⟨vb,0,none⟩) 1 vc]).run Tryz.prog w = .ok (.slice (some ⟨b,0,none⟩) (n + 1) c) (w.setCells b (n * 2) vs):=fun ty=>by
  have:=run_append_room_src w 127 127 ty 140 i0 t2 hi0 b 0 n c _ 1 vs hsrc hroom (by rw [hzs,hvl,Nat.zero_add];exact hsp) (by rw [hzs,hvl,Nat.zero_add];exact hfz)
  rw [hzs,Nat.zero_add] at this
  exact this
 clear hsrc hsp hfz hvs h1v
 go_enter Tryz.func142,Tryz.ntmps142
 go_wp2_with (at_builtin;refine Lib.wpList_append_run _ rfl _ _ _ _ rfl _ _ rfl rfl _ _ (hrun _) ?_)
 all_goals (go_ret;exact ⟨rfl,rfl⟩)
theorem o2 (base:Option Addr) (n c vb vc:Nat) (cs vs:List Value) (w:World) (hnc:n ≤ c) (hroom:c < n + 1) (hbig:(n + 1) * 24 ≤ 140737488355328)
 (hcl:cs.length = n * 2) (hvl:vs.length = 2) (hnil:base = none → n = 0)
 (hcs:∀ a,base = some a → ∀ j v,cs[j]? = some v → w.cell? (a.add j) = some v)
 (hvs:∀ j v,vs[j]? = some v → w.cell? ⟨vb,j,none⟩ = some v) (h1v:∀ v ∈ vs,v.oneCell' = true) :
 Calls Tryz.prog 142 #[.slice base n c,.int .i64 n,.slice (some ⟨vb,0,none⟩) 1 vc] w fun e w'=>
  e = .returned (.slice (some ⟨w.heap.size,0,none⟩) (n + 1) (grownCap w (n + 1) c 140)) ∧
  w' = w.drew.alloc (.cells ((cs ++ vs).toArray ++ Builtin.zeroCells (Value.agg #[.int .i64 0,.string ⟨#[]⟩]).cells (grownCap w (n + 1) c 140 - (n + 1))) 140):=by
 have t2:Tryz.prog.underlying 127 = some (.slice 140):=Tryz.underlying127
 have mixed:Tryz.prog.follows .mixedOrders = true:=by kernel_rfl
 obtain ⟨i0,hi0,hz0,hzs,hzb⟩:=sJ
 have hsrc:Go.Src Tryz.prog i0.size 127 (.slice (some ⟨vb,0,none⟩) 1 vc) 1 vs w:=by
  rw [hzs]
  exact Go.Src.ofSlice w t2 ⟨vb,0,none⟩ 1 vc vs (by omega) (fun j u hj=>by rw [Addr.add_lit,Nat.zero_add];exact hvs j u hj) h1v
 have hold:(Builtin.firstCells i0.size n (.slice base n c)).run Tryz.prog w.drew = .ok cs.toArray w.drew:=by
  rw [hzs]
  cases base with
  | none=>
   have h0:=hnil rfl
   subst h0
   rw [List.length_eq_zero_iff.1 hcl]
   exact run_firstCells_none w.drew 2 0 0 c
  | some a=>exact run_firstCells_some w.drew 2 n a n c cs (by omega) (fun j v hj=>hcs a rfl j v hj)
 have hrun:∀ ty,(Builtin.append_ #[127,127] ty #[.slice base n c,.slice (some ⟨vb,0,none⟩) 1 vc]).run Tryz.prog w = _:=fun ty=>
  run_append_grow_src w 127 127 ty 140 i0 _ t2 hi0 hz0 base n c cs hold _ 1 vs hsrc hroom (by omega) (by rw [hzb];exact growslice_fits hroom hbig)
 go_enter Tryz.func142,Tryz.ntmps142
 cases base with
 | none=>
  have h0:=hnil rfl
  subst h0
  go_wp2_with (at_builtin;refine Lib.wpList_append_run _ rfl _ _ _ _ rfl _ _ rfl rfl _ _ (hrun _) ?_)
  go_ret
  exact ⟨rfl,rfl⟩
 | some a=>
  obtain ⟨ab,ao,asp⟩:=a
  go_wp2_with (at_builtin;refine Lib.wpList_append_run _ rfl _ _ _ _ rfl _ _ rfl rfl _ _ (hrun _) ?_)
  all_goals (go_ret;exact ⟨rfl,rfl⟩)
theorem IR (b n c i vb vc:Nat) (cs vs:List Value) (w:World) (hi:i < n) (hnc:n ≤ c) (hroom:c < n + 1) (hbig:(n + 1) * 24 ≤ 140737488355328)
 (hcl:cs.length = n * 2) (hvl:vs.length = 2)
 (hcs:∀ j v,cs[j]? = some v → w.cell? ⟨b,j,none⟩ = some v)
 (hvs:∀ j v,vs[j]? = some v → w.cell? ⟨vb,j,none⟩ = some v) (h1c:∀ v ∈ cs,v.oneCell' = true) (h1v:∀ v ∈ vs,v.oneCell' = true) :
 Calls Tryz.prog 142 #[.slice (some ⟨b,0,none⟩) n c,.int .i64 i,.slice (some ⟨vb,0,none⟩) 1 vc] w fun e w'=>
  e = .returned (.slice (some ⟨w.heap.size,0,none⟩) (n + 1) (grownCap w (n + 1) c 140)) ∧
  w' = (((w.alloc (.cells ((cs.take (i * 2)).toArray ++ Builtin.zeroCells (Value.agg #[.int .i64 0,.string ⟨#[]⟩]).cells (n + 1 - i) ++ Builtin.zeroCells (Value.agg #[.int .i64 0,.string ⟨#[]⟩]).cells (grownCap w (n + 1) c 140 - (n + 1))) 140)).drew.setCells w.heap.size (i * 2) vs).drew).setCells w.heap.size ((i + 1) * 2) (cs.drop (i * 2)):=by
 have t2:Tryz.prog.underlying 127 = some (.slice 140):=Tryz.underlying127
 have t3:Tryz.prog.underlying 3 = some (.int .i64):=Tryz.underlying3
 have u2:=run_underlying t2
 have mixed:Tryz.prog.follows .mixedOrders = true:=by kernel_rfl
 obtain ⟨i0,hi0,hz0,hzs,hzb⟩:=sJ
 generalize hz:Value.agg #[.int .i64 0,.string ⟨#[]⟩] = z at *
 have hzc:z.cells.size = 2:=by rw [← hz];rfl
 have hz2:¬ ((i:Int) = (n:Int)):=by omega
 have hz3:(c:Int) < (n:Int) + 1:=by omega
 have hbw:b < w.heap.size:=block_lt_of_cell (hcs 0 _ (List.getElem?_eq_getElem (by omega)))
 have hvw:vb < w.heap.size:=block_lt_of_cell (hvs 0 _ (List.getElem?_eq_getElem (by omega)))
 have hkk:(n:Int) + 1 - (i:Int) = ((n + 1 - i:Nat):Int):=by omega
 have hik:i + (n + 1 - i) = n + 1:=by omega
 have hold:(Builtin.firstCells i0.size i (.slice (some ⟨b,0,none⟩) i c)).run Tryz.prog w.drew = .ok (cs.take (i * 2)).toArray w.drew:=by
  rw [hzs]
  exact run_firstCells_some w.drew 2 i ⟨b,0,none⟩ i c (cs.take (i * 2)) (by rw [List.length_take];omega) (fun j v hj=>by
   rw [Addr.add_lit,Nat.zero_add]
   rw [List.getElem?_take] at hj
   split at hj
   ·exact hcs j v hj
   ·cases hj)
 have hrz:∀ ty,(Builtin.append_ #[127,3] ty #[.slice (some ⟨b,0,none⟩) i c,.int .i64 ((n:Int) + 1 - (i:Int))]).run Tryz.prog w =
  .ok (.slice (some ⟨w.heap.size,0,none⟩) (n + 1) (grownCap w (n + 1) c 140)) (w.drew.alloc (.cells ((cs.take (i * 2)).toArray ++ Builtin.zeroCells z.cells (n + 1 - i) ++ Builtin.zeroCells z.cells (grownCap w (n + 1) c 140 - (n + 1))) 140)):=fun ty=>by
  have h:=Lib.run_append_grow_zeros w 127 3 ty 140 i0 _ .i64 .i64 t2 t3 hi0 hz0 (some ⟨b,0,none⟩) i c (cs.take (i * 2)) hold (n + 1 - i) (by omega) (by omega) (by omega) (by omega) (by rw [hzb];omega) (by rw [hzb,hik];exact growslice_fits hroom hbig)
  rw [hik] at h
  rw [hkk]
  exact h
 obtain ⟨G,hG⟩:∃ G,G = grownCap w (n + 1) c 140:=⟨_,rfl⟩
 obtain ⟨ROW,hROW⟩:∃ ROW:Array Value,ROW = (cs.take (i * 2)).toArray ++ Builtin.zeroCells z.cells (n + 1 - i) ++ Builtin.zeroCells z.cells (G - (n + 1)):=⟨_,rfl⟩
 rw [← hG] at hrz ⊢
 rw [← hROW] at hrz ⊢
 have hRl:(n + 1) * 2 ≤ ROW.size:=by
  rw [hROW]
  simp [Builtin.zeroCells,hzc]
  omega
 obtain ⟨W1,hW1⟩:∃ W1,W1 = w.drew.alloc (.cells ROW 140):=⟨_,rfl⟩
 rw [← hW1] at hrz
 have hN:∀ j,j < (n + 1) * 2 → (W1.cell? ⟨w.heap.size,j,none⟩).isSome = true:=fun j hj=>by
  rw [hW1,World.cell?_alloc_at (w:=w.drew) ROW _ w.heap.size j rfl,Array.getElem?_eq_getElem (by omega)];rfl
 have hNf:∀ j,W1.frozen? ⟨w.heap.size,j,none⟩ = false:=fun j=>by rw [hW1];exact World.frozen?_alloc_at (w:=w.drew) ROW _ w.heap.size j rfl
 have hOb:∀ j v,w.cell? ⟨b,j,none⟩ = some v → W1.cell? ⟨b,j,none⟩ = some v:=fun j v h=>by rw [hW1,World.cell?_alloc_past (w:=w.drew) _ b j hbw];exact h
 have hOv:∀ j v,w.cell? ⟨vb,j,none⟩ = some v → W1.cell? ⟨vb,j,none⟩ = some v:=fun j v h=>by rw [hW1,World.cell?_alloc_past (w:=w.drew) _ vb j hvw];exact h
 have hcpA:∀ (W:World),(∀ x,W.cell? x = W1.cell? x) → (∀ x,W.frozen? x = W1.frozen? x) → ∀ ty dc,(Builtin.copy_ #[127,127] ty #[.slice (some ⟨w.heap.size,i * 2,none⟩) (n + 1 - i) dc,.slice (some ⟨vb,0,none⟩) 1 vc]).run Tryz.prog W = .ok (goInt (1:Nat)) (W.setCells w.heap.size (i * 2) vs):=fun W hWc hWf ty dc=>
  mZ W _ _ ty 140 2 w.heap.size (i * 2) (n + 1 - i) dc ⟨vb,0,none⟩ 1 vc 1 vs t2 ws (by simp only [Nat.min_def];split <;> omega) (by omega)
   (fun j v hj=>by rw [Addr.add_lit,hWc,Nat.zero_add];exact hOv _ v (hvs j v hj))
   (fun j hj=>by rw [hWc];exact hN _ (by omega)) (fun j hj=>by rw [hWf];exact hNf _) h1v
 have hGn:n + 1 ≤ G:=by rw [hG];exact grownCap_ge w _ _ _
 have hG63:G ≤ 9223372036854775807:=by
  have:=grownCap_le_maxLen w (n + 1) c 140 (by unfold maxLen;omega)
  rw [← hG] at this
  unfold maxLen at this
  omega
 have hGi:¬ (G = i):=by omega
 have hGim:¬ (G = i + 1):=by omega
 have hci:¬ (c = i):=by omega
 have hbN:b ≠ w.heap.size:=by omega
 have hdl:(cs.drop (i * 2)).length = (n - i) * 2:=by rw [List.length_drop,hcl];omega
 have hcpB:∀ (W:World),(∀ x,W.cell? x = (W1.setCells w.heap.size (i * 2) vs).cell? x) → (∀ x,W.frozen? x = (W1.setCells w.heap.size (i * 2) vs).frozen? x) → ∀ ty dc sc,(Builtin.copy_ #[127,127] ty #[.slice (some ⟨w.heap.size,(i + 1) * 2,none⟩) (n - i) dc,.slice (some ⟨b,i * 2,none⟩) (n - i) sc]).run Tryz.prog W = .ok (goInt (n - i:Nat)) (W.setCells w.heap.size ((i + 1) * 2) (cs.drop (i * 2))):=fun W hWc hWf ty dc sc=>
  mZ W _ _ ty 140 2 w.heap.size ((i + 1) * 2) (n - i) dc ⟨b,i * 2,none⟩ (n - i) sc (n - i) (cs.drop (i * 2)) t2 ws (by simp only [Nat.min_def];split <;> omega) hdl
   (fun j v hj=>by
     rw [Addr.add_lit,hWc,World.cell?_setCells_out _ _ _ _ _ (fun h _=>absurd h hbN)]
     exact hOb _ v (hcs (i * 2 + j) v (by rwa [List.getElem?_drop] at hj)))
   (fun j hj=>by rw [hWc];exact World.isSome_setCells _ _ _ _ _ (hN _ (by omega)))
   (fun j hj=>by rw [hWf,World.frozen?_setCells];exact hNf _) (fun v hv=>h1c v (List.mem_of_mem_drop hv))
 subst hW1
 have hE1:∀ x,((w.alloc (.cells ROW 140)).drew).cell? x = (w.drew.alloc (.cells ROW 140)).cell? x:=fun x=>rfl
 have hE2:∀ x,((w.alloc (.cells ROW 140)).drew).frozen? x = (w.drew.alloc (.cells ROW 140)).frozen? x:=fun x=>rfl
 have hF1:∀ x,(((w.alloc (.cells ROW 140)).drew.setCells w.heap.size (i * 2) vs).drew).cell? x = ((w.drew.alloc (.cells ROW 140)).setCells w.heap.size (i * 2) vs).cell? x:=fun x=>rfl
 have hF2:∀ x,(((w.alloc (.cells ROW 140)).drew.setCells w.heap.size (i * 2) vs).drew).frozen? x = ((w.drew.alloc (.cells ROW 140)).setCells w.heap.size (i * 2) vs).frozen? x:=fun x=>rfl
 have hw1:IntKind.i64.wrap ((i:Int) + 1) = (i:Int) + 1:=by rw [IntKind.wrap_i64];omega
 have hw2:IntKind.i64.wrap ((n:Int) + 1) = (n:Int) + 1:=by rw [IntKind.wrap_i64];omega
 have hb1:(0:Int) ≤ (i:Int) + 1:=by omega
 have hin:i ≤ n:=by omega
 have htn:((i:Int) + 1).toNat = i + 1:=by omega
 have hb3:(i:Int) ≤ (n:Int):=by omega
 clear hkk hik hold hROW hG hRl hcs hvs h1c h1v hN hNf hOb hOv hcl hvl hdl hz hzc hz0 hzs hzb hi0
 go_enter Tryz.func142,Tryz.ntmps142
 go_wp2_with (first
  | (at_builtin;refine Lib.wpList_append_run _ rfl _ _ _ _ rfl _ _ rfl rfl _ _ (hrz _) ?_)
  | (at_builtin;refine wpList_copy_runI _ rfl _ _ 127 127 rfl _ _ rfl rfl (hcpA _ hE1 hE2 _ _) ?_)
  | (at_builtin;refine wpList_copy_runI _ rfl _ _ 127 127 rfl _ _ rfl rfl (hcpB _ (fun _=>rfl) (fun _=>rfl) _ _ _) ?_))
 go_region_law_o (refine step_copy_runI rfl _ _ 127 127 rfl (.slice (some ⟨w.heap.size,(i + 1) * 2,none⟩) (n - i) (G - (i + 1))) (.slice (some ⟨b,i * 2,none⟩) (n - i) (c - i)) (by simp [Act.eval,Act.put]) (by simp [Act.eval,Act.put]) (hcpB _ hF1 hF2 3 (G - (i + 1)) (c - i)) ?_)
 go_wp2
 go_ret
 exact ⟨rfl,rfl⟩
end
end Go.Proofs.YtliiahjpiagdkaaGreat
