/- Texts joined: PlS StL SxA SxQ StD SxV SxO. -/
import Derived.Test.YtliiahjpiagdkaaGreatJ36
import Derived.Test.YtliiahjpiagdkaaGreatJ32
import Derived.Test.YtliiahjpiagdkaaGreatJ05
import Derived.Test.YtliiahjpiagdkaaGreatJ35
import Derived.Test.YtliiahjpiagdkaaGreatJ17
import Derived.Test.YtliiahjpiagdkaaGreatJ09
import Derived.Test.YtliiahjpiagdkaaGreatJ31
set_option maxRecDepth 10000
set_option maxHeartbeats 8000000
namespace Go.Proofs.YtliiahjpiagdkaaGreat
open Go.RowKit
inductive CW:List Cnt → List Cnt → Prop
 | nil:CW [] []
 | same {c:Cnt} {l l':List Cnt} (k:CW l l'):CW (c :: l) (c :: l')
 | per {A B:PV} {l l':List Cnt} (h:FG A B) (k:CW l l'):CW (.per A :: l) (.per B :: l')
theorem CW.len {l l':List Cnt} (h:CW l l'):l.length = l'.length:=by
 induction h with
 | nil=>rfl
 | same k ih=>simp [ih]
 | per h k ih=>simp [ih]
theorem CW.get {l l':List Cnt} (h:CW l l'):∀ (j:Nat) (c':Cnt),l'[j]? = some c' → ∃ c,l[j]? = some c ∧ (c = c' ∨ ∃ A B,c = .per A ∧ c' = .per B ∧ FG A B):=by
 induction h with
 | nil=>intro j c h;simp at h
 | @same c l l' k ih=>
  intro j d hj
  cases j with
  | zero=>simp at hj;subst hj;exact ⟨c,rfl,.inl rfl⟩
  | succ j=>simpa using ih j d (by simpa using hj)
 | @per A B l l' h k ih=>
  intro j d hj
  cases j with
  | zero=>simp at hj;subst hj;exact ⟨_,rfl,.inr ⟨A,B,rfl,rfl,h⟩⟩
  | succ j=>simpa using ih j d (by simpa using hj)
theorem Fn.argsW {P:Program} {f:FuncId} {As Bs:List Cnt} {r:Ret} (h:Fn P f Bs r) (k:CW As Bs):Fn P f As r:=⟨h.ent,fun N0 w vs hN ha=>by
 refine h.run N0 w vs hN ⟨by rw [ha.1,k.len],fun i u c hi hj=>?_⟩
 obtain ⟨c0,q1,q2⟩:=k.get i c hj
 rcases q2 with rfl|⟨A,B,rfl,rfl,q3⟩
 ·exact ha.2 i u c0 hi q1
 ·exact q3 _ _ _ (ha.2 i u (.per A) hi q1)⟩
theorem qi.app {k l:List Pc} {a b c d:Nat} (h:qi k a b) (h':qi l c d):qi (k ++ l) (a + c) (max b d):=⟨by rw [List.length_append];have:=h.len;have:=h'.len;omega,fun p hp=>by
 rcases List.mem_append.1 hp with q|q
 ·have:=h.set p q;omega
 ·have:=h'.set p q;omega⟩
structure PZ (s:Sta) (l:List It) (k:List Pc):Prop where
 st:FH s
 fl:s.flt.length ≤ 12
 ll:l.length ≤ 100000
 lk:lm l
 sl:s.its.length ≤ 100000
 km:bS k
 kl:k.length ≤ 100000
 rm:aY k → bS (bz k s.flt)
 rl:aY k → (bz k s.flt).length ≤ 100000
 jm:aY k → aY s.know → bS (s.know ++ bz k s.flt)
theorem zK {s:Sta} {l:List It} {k:List Pc} (h1:f0 s = true) (h2:du l = true) (h3:aY k) :
 fK s l k = Nd s (nl s.flt l) (bN [s.its ++ nl s.flt l]) (qu (s.know ++ bz k s.flt)) (eG (bz k s.flt) s.id) (dV (bN [s.its ++ nl s.flt l])) (fun x=>bv s.know x.key x.rep x.cnt) (fun x=>bv (bz k s.flt) x.key x.rep x.cnt):=by
 unfold fK Nd
 rw [if_neg (by rw [h1];simp),if_neg (by rw [h2];simp [h3])]
theorem zL {s:Sta} {l:List It} {k:List Pc} (h1:f0 s = false):fK s l k = ({},41):=by unfold fK;rw [if_pos h1]
theorem Dj {s:Sta} {l:List It} {k:List Pc} (h1:f0 s = true) (h2:(du l && decide (aY k)) = false):fK s l k = ({},2):=by
 unfold fK
 rw [if_neg (by rw [h1];simp),if_pos]
 rw [Bool.and_eq_false_iff,decide_eq_false_iff_not] at h2
 exact h2
theorem Dk {f:List Rg} {l:List It} (h:lm l):lm (nl f l):=fun x hx=>h x (List.mem_filter.1 hx).1
theorem Dl (f:List Rg) (l:List It):(nl f l).length ≤ l.length:=List.length_filter_le _ _
theorem OD (a b:List It):bN [a,b] = bN [a ++ b]:=by unfold bN;simp
theorem B4 (ls:List (List It)):(bN ls).all itR = true:=List.all_eq_true.2 (List.filter_eq_self.1 wj)
theorem ve (ls:List (List It)):(bN ls).length ≤ ls.flatten.length:=Nat.le_trans (sD ls) (List.length_filter_le _ _)
theorem qD {s:Sta} {l:List It} {k:List Pc} (h:PZ s l k):lm (nl s.flt l) ∧ (nl s.flt l).length ≤ 100000 ∧ (bN [s.its ++ nl s.flt l]).length ≤ 200000 ∧ lm (s.its ++ nl s.flt l):=by
 have h1:=Dl s.flt l
 have h2:=h.ll
 have h3:=h.sl
 refine ⟨Dk h.lk,by omega,?_,fun x hx=>?_⟩
 ·have:=ve [s.its ++ nl s.flt l]
  simp only [List.flatten_cons,List.flatten_nil,List.append_nil,List.length_append] at this
  omega
 ·rcases List.mem_append.1 hx with q|q
  ·exact h.st.keys x q
  ·exact Dk h.lk x q
theorem Dm (s:Sta) (l:List It) (k:List Pc) (h:PZ s l k):Fn Tryz.prog 41 [dX s,.per (dC l),gr k] (.tup2 (.per (m5 (fK s l k).1)) (gy (fK s l k).2)):=by
 have a1:=ke s h.st
 cases hr:f0 s with
 | false=>
  rw [hr] at a1
  rw [zL hr]
  exact Fq s l k a1
 | true=>
  rw [hr] at a1
  have a2:=uN l h.lk (by have:=h.ll;omega) (du l) i9
  have a3:=kP k (cS h.km) (decide (aY k)) (by simp)
  by_cases hb:(du l && decide (aY k)) = false
  ·rw [Dj hr hb]
   exact Kc s l k _ _ hb a1 a2 a3
  ·have hb:du l = true ∧ aY k:=by simpa using hb
   obtain ⟨b1,b2⟩:=hb
   rw [b1] at a2
   rw [decide_eq_true b2] at a3
   obtain ⟨c1,c2,c3,c4,c5,c6,c7,c8,c9,c10⟩:=gx hr
   obtain ⟨f1,f2,f3,f4⟩:=qD h
   have hfl:=h.fl
   have hll:=h.ll
   have hsl:=h.sl
   have hz:fH (bz k s.flt):=cS (h.rm b2)
   rw [zK hr b1 b2]
   refine Kb s l (nl s.flt l) _ k (bz k s.flt) _ _ _ _ _ (by omega) a1 a2 a3 (MD l s.flt h.lk (by omega) h.fl).frz ?_ (fun x hx=>?_) (fun x hx=>?_) ?_ ?_ ?_ ?_ ?_
   ·exact (qB k s.flt h.km c4 (by omega) (by have:=h.kl;omega) (Db s.flt c4 (by omega))).frz
   ·exact wK s.know x.key x.rep x.cnt (cS h.st.kmid) (f1 x hx)
   ·exact wK (bz k s.flt) x.key x.rep x.cnt hz (f1 x hx)
   ·exact Da _ _ hz
   ·have:=(nR [s.its,nl s.flt l] (by
     refine Nat.le_trans (List.length_filter_le _ _) ?_
     simp;omega) (by simp) (fun m hm=>by
     simp at hm
     rcases hm with rfl|rfl <;> omega)).frz
    rw [OD] at this
    exact this
   ·exact zp _ (B4 _) (by omega)
   ·have:=(CT [s.know,bz k s.flt] (by simp) (by simpa using h.jm b2 c6)).frz
    rw [show ([s.know,bz k s.flt]:List (List Pc)).flatten = s.know ++ bz k s.flt by simp] at this
    exact this
   ·exact (n5 s.flt (by omega)).frz
theorem Kd (s:Sta) (l:List It) (k:List Pc) (h:PZ s l k):Fn Tryz.prog 57 [dX s,.per (dC l),gr k] (.tup2 (.per (m5 (fK s l k).1)) (gy (fK s l k).2)):=by
 have a1:=kg s h.st
 cases hr:f0 s with
 | false=>
  rw [hr] at a1
  rw [zL hr]
  exact B3 s l k a1
 | true=>
  rw [hr] at a1
  have a2:=yP l h.lk (by have:=h.ll;omega) (du l) i9
  have a3:=qv k (cS h.km) (decide (aY k)) (by simp)
  by_cases hb:(du l && decide (aY k)) = false
  ·rw [Dj hr hb]
   exact Ft s l k _ _ hb a1 a2 a3
  ·have hb:du l = true ∧ aY k:=by simpa using hb
   obtain ⟨b1,b2⟩:=hb
   rw [b1] at a2
   rw [decide_eq_true b2] at a3
   obtain ⟨c1,c2,c3,c4,c5,c6,c7,c8,c9,c10⟩:=gx hr
   obtain ⟨f1,f2,f3,f4⟩:=qD h
   have hfl:=h.fl
   have hll:=h.ll
   have hsl:=h.sl
   have hz:fH (bz k s.flt):=cS (h.rm b2)
   rw [zK hr b1 b2]
   refine Fr s l (nl s.flt l) _ k (bz k s.flt) _ _ _ _ _ (by omega) (by omega) a1 a2 a3 (OB l s.flt h.lk (by omega) (by omega)).frz ?_ (fun x hx=>?_) (fun x hx=>?_) ?_ ?_ ?_ ?_
   ·exact (pe k s.flt h.km (by have:=h.kl;omega) (by omega)).frz
   ·exact ru s.know x.key x.rep x.cnt (cS h.st.kmid) (f1 x hx)
   ·exact ru (bz k s.flt) x.key x.rep x.cnt hz (f1 x hx)
   ·exact zF _ _ (h.rm b2)
   ·exact (Fp (s.its ++ nl s.flt l) f4 (by rw [List.length_append];omega)).frz
   ·exact u9 _ (by omega)
   ·exact (zG s.know (bz k s.flt) h.st.kmid (h.rm b2) (h.jm b2 c6) h.st.kl (by have:=h.rl b2;omega)).frz
def zM (s:Sta):Bool:=iU s.flt 8 || (k8 s.its 24 || eA s.know 24)
section
theorem Ke (s:Sta):Fn Tryz.prog 5 [dX s] (cw (zM s)):=by
 have a1:=yi s.flt 8 (by decide)
 have a2:=ux s.its 24 (by decide)
 have a3:=nM s.know 24 (by decide)
 unfold zM
 generalize iU s.flt 8 = d1 at *
 generalize eA s.know 24 = d2 at *
 generalize k8 s.its 24 = d3 at *
 refine fi Tryz.func5 Tryz.ntmps5 ?_
 (refine eX a1 a2 a3 ?_;repeat' first|apply ai|refine aj fun hc=>?_)
 all_goals
  refine aU ?_
  refine af rfl ?_
  first|rfl|(simp [*];done)|(rw [Bool.eq_iff_iff];simp [*];done)|(rw [Bool.eq_iff_iff];simp [*];omega)
end
theorem Kf {l:List It} (h:k8 l 24 = false):l.length ≤ 24 ∧ lm l:=by
 unfold k8 at h
 rw [Bool.or_eq_false_iff,decide_eq_false_iff_not] at h
 refine ⟨by omega,fun x hx=>?_⟩
 have:=List.any_eq_false.1 h.2 x hx
 simp [Ls] at this
 omega
theorem qE {l:List Rg} (h:iU l 8 = false):l.length ≤ 8:=by
 unfold iU at h
 rw [Bool.or_eq_false_iff,decide_eq_false_iff_not] at h
 omega
structure Pu (s:Sta):Prop where
 fl:s.flt.length ≤ 8
 il:s.its.length ≤ 24
 ik:lm s.its
 kw:qi s.know 24 256
theorem Kg {s:Sta} (h:zM s = false):Pu s:=by
 unfold zM at h
 simp only [Bool.or_eq_false_iff] at h
 obtain ⟨h1,h2,h3⟩:=h
 obtain ⟨q2,q3⟩:=Kf h2
 exact ⟨qE h1,q2,q3,tC h3⟩
theorem Pu.st {s:Sta} (h:Pu s):FH s:=by
 have h1:=h.fl
 have h2:=h.il
 have h3:=h.kw.len
 exact ⟨by omega,h.kw.mid (by decide) (by decide),by omega,by omega,h.ik⟩
structure Act where
 kind:Int
 key:ByteArray
 prio:Int
 body:ByteArray
 its:List It
 know:List Pc
def fw (s:Sta) (a:Act):Sta × Int:=if a.kind = 3 then fK s a.its a.know else if a.kind = 2 then fO s a.key else if a.kind = 1 then gS s a.key a.prio a.body else (s,0)
def vf (s:Sta) (a:Act):Sta × Int:=if (fw s a).2 = 0 then ((fw s a).1,0) else (s,(fw s a).2)
theorem MI {l:List It} (h:l.all itR = true):lm l:=fun x hx=>by
 have:=List.all_eq_true.1 h x hx
 unfold itR cY at this
 simp only [Bool.and_eq_true,decide_eq_true_eq] at this
 omega
structure zN (a:Act):Prop where
 key:a.key.size ≤ 100
 body:a.body.size ≤ 200
 il:a.its.length ≤ 8
 ik:lm a.its
 kw:qi a.know 6 256
def t6 (a:Act):List ByteArray:=if a.kind = 3 then pd (bB a.know) else [a.key,a.key ++ ⟨#[0]⟩]
theorem Kh {a:Act} (h:zN a):(t6 a).length ≤ 12:=by
 unfold t6
 split
 ·rw [tD]
  have:=h.kw.len
  unfold bB
  rw [List.length_map];omega
 ·simp
structure zW (s:Sta) (F:List ByteArray) (i:Nat):Prop where
 right:f0 s = true
 fl:s.flt.length ≤ 8
 il:s.its.length ≤ 24 + 8 * i
 kn:BZ s.know F (256 * (i + 1))
 em:emB ∈ F
 ef:∀ m ∈ pd s.flt,m ∈ F
 fn:F.length ≤ 209
 i12:i ≤ 12
theorem zW.W {s:Sta} {F:List ByteArray} {i:Nat} (h:zW s F i):qi s.know 209 3328:=h.kn.W.le h.fn (by have:=h.i12;omega)
theorem zW.st {s:Sta} {F:List ByteArray} {i:Nat} (h:zW s F i):FH s:=by
 have h1:=h.fl
 have h2:=h.il
 have h3:=h.i12
 have h4:=h.W.len
 exact ⟨by omega,h.W.mid (by decide) (by decide),by omega,by omega,MI (dn h.right).1⟩
theorem zW.tk {s:Sta} {F:List ByteArray} {i:Nat} (h:zW s F i) {l:List It} {k:List Pc} (hl:l.length ≤ 8) (hk:lm l) (hw:qi k 6 256):PZ s l k:=by
 have h1:=h.fl
 have h2:=h.il
 have h3:=h.i12
 have hr:aY k → qi (bz k s.flt) 29 256:=fun ok=>(hw.rest ok s.flt).le (by omega) (Nat.le_refl _)
 exact ⟨h.st,by omega,by omega,hk,by omega,hw.mid (by decide) (by decide),by have:=hw.len;omega,fun ok=>(hr ok).mid (by decide) (by decide),fun ok=>by have:=(hr ok).len;omega,fun ok _=>(h.W.app (hr ok)).mid (by decide) (by decide)⟩
theorem zW.one {s:Sta} {F:List ByteArray} {i:Nat} (h:zW s F i) (k:ByteArray) (r c:Int):bS (s.know ++ ee k r c):=by
 have w:qi (ee k r c) 1 1:=by
  unfold ee
  split
  ·exact ⟨by simp,fun p hp=>by rw [List.mem_singleton.1 hp];simp⟩
  ·exact ⟨by simp,fun p hp=>by cases hp⟩
 exact (h.W.app w).mid (by decide) (by decide)
theorem OE {k:ByteArray} {r c:Int} (h1:cY k = true) (h2:cC r c = true):BZ (ee k r c) [k,k ++ ⟨#[0]⟩] 1:=by
 refine ⟨(qh h1 h2).1,fun p hp=>?_,fun p hp=>?_⟩
 all_goals
  unfold ee at hp
  rw [h1,h2,if_pos (by rfl)] at hp
  rw [List.mem_singleton.1 hp]
 ·exact ⟨by simp,.inr (by simp)⟩
 ·simp
theorem Nf {s:Sta} {F:List ByteArray} {i:Nat} (h:zW s F i) (hi:i < 12) {x:It} (hx:itR x = true) (hE:x.key ∈ F ∧ x.key ++ ⟨#[0]⟩ ∈ F) (hr:f0 (nb s x) = true):zW (nb s x) F (i + 1):=by
 have hx':=hx
 unfold itR at hx'
 simp only [Bool.and_eq_true] at hx'
 have h1:=h.il
 have h2:=zv s.its x
 have hj:=h.kn.join (OE hx'.1.1 hx'.1.2)
 refine ⟨hr,h.fl,by show (gi x s.its).length ≤ _;omega,hj.sub (fun m hm=>?_) (by omega),h.em,h.ef,h.fn,by omega⟩
 rcases List.mem_cons.1 hm with rfl|hm
 ·exact h.em
 rcases List.mem_append.1 hm with hm|hm
 ·exact hm
 ·simp only [List.mem_cons,List.not_mem_nil,or_false] at hm
  rcases hm with rfl|rfl
  ·exact hE.1
  ·exact hE.2
theorem Qg {s:Sta} {F:List ByteArray} {i:Nat} (h:zW s F i) (hi:i < 12) {a:Act} (ha:zN a) (hE:∀ m ∈ t6 a,m ∈ F):zW (vf s a).1 F (i + 1):=by
 have keep:zW s F (i + 1):=⟨h.right,h.fl,by have:=h.il;omega,h.kn.sub (fun _ q=>q) (by omega),h.em,h.ef,h.fn,by omega⟩
 unfold vf
 by_cases e:(fw s a).2 = 0
 ·rw [if_pos e]
  unfold fw at e ⊢
  unfold t6 at hE
  by_cases k3:a.kind = 3
  ·rw [if_pos k3] at e hE ⊢
   have hR:=qC e
   obtain ⟨a1,a2,a3,a4⟩:=sH e
   rw [a4] at hR ⊢
   have h1:=h.il
   have h2:=Dl s.flt a.its
   have h3:=ha.il
   have h4:=ve [s.its ++ nl s.flt a.its]
   simp only [List.flatten_cons,List.flatten_nil,List.append_nil,List.length_append] at h4
   have hk:BZ a.know (pd (bB a.know)) 256:=⟨a3,u7 _,ha.kw.set⟩
   refine ⟨hR,h.fl,by simp only;omega,(h.kn.join (hk.rest s.flt)).sub (fun m hm=>?_) (by omega),h.em,h.ef,h.fn,by omega⟩
   rcases List.mem_cons.1 hm with rfl|hm
   ·exact h.em
   rcases List.mem_append.1 hm with hm|hm
   ·exact hm
   rcases List.mem_cons.1 hm with rfl|hm
   ·exact h.em
   rcases List.mem_append.1 hm with hm|hm
   ·exact hE m hm
   ·exact h.ef m hm
  rw [if_neg k3] at e hE ⊢
  by_cases k2:a.kind = 2
  ·rw [if_pos k2] at e ⊢
   obtain ⟨b1,b2,y,b3,b4,b5⟩:=np e
   rw [b4] at b1 ⊢
   exact Nf h hi b5 ⟨hE _ (by simp [fL]),hE _ (by simp [fL])⟩ b1
  rw [if_neg k2] at e ⊢
  by_cases k1:a.kind = 1
  ·rw [if_pos k1] at e ⊢
   obtain ⟨b1,b2,b3,b4⟩:=pb e
   rw [b2] at b1 ⊢
   exact Nf h hi b3 ⟨hE _ (by simp [fL]),hE _ (by simp [fL])⟩ b1
  ·rw [if_neg k1];exact keep
 ·rw [if_neg e];exact keep
theorem Ki {s:Sta} (h:Pu s) (hr:f0 s = true) {l:List Act} (hl:l.length ≤ 12) (ha:∀ a ∈ l,zN a):zW s (emB :: (pd s.flt ++ (pd (bB s.know) ++ l.flatMap t6))) 0:=by
 obtain ⟨_,_,_,_,_,c6,_⟩:=gx hr
 have h1:=h.fl
 have h2:=h.il
 have h3:=h.kw.len
 refine ⟨hr,h1,by omega,⟨c6,(u7 _).mono fun m hm=>List.mem_cons_of_mem _ (List.mem_append_right _ (List.mem_append_left _ hm)),h.kw.set⟩,List.mem_cons_self,fun m hm=>List.mem_cons_of_mem _ (List.mem_append_left _ hm),?_,by omega⟩
 have hk:∀ m:List Act,(∀ a ∈ m,zN a) → (m.flatMap t6).length ≤ 12 * m.length:=by
  intro m
  induction m with
  | nil=>intro _;simp
  | cons a m ih=>
   intro hm
   have e1:=Kh (hm a List.mem_cons_self)
   have e2:=ih fun x hx=>hm x (List.mem_cons_of_mem _ hx)
   rw [List.flatMap_cons,List.length_append,List.length_cons];omega
 have:=hk l ha
 rw [List.length_cons,List.length_append,List.length_append,tD,tD]
 unfold bB
 rw [List.length_map]
 omega
theorem pf {x:It} (h:itR x = true):x.key.size ≤ 1000000000:=by
 unfold itR cY at h
 simp only [Bool.and_eq_true,decide_eq_true_eq] at h
 omega
theorem wT (t:Tr):t.siz = t.lst.length:=by rw [jn,List.length_map,qc]
theorem Kj {s:Int} {T:Tr × Ix} (h:qL s T.1) {y:It} (hy:itR y = true):qL s (iA s T y).1 ∧ ∀ k,bW (iA s T y).1.lst k = if y.key = k then some y else bW T.1.lst k:=⟨De h hy,fun k=>zx h y _ k⟩
theorem MJ {s:Int}:∀ (l:List It) (T:Tr × Ix),qL s T.1 → l.all itR = true → Up l → qL s (l.foldl (iA s) T).1 ∧ ∀ k,bW (l.foldl (iA s) T).1.lst k = (bW l k).or (bW T.1.lst k):=by
 intro l
 induction l with
 | nil=>intro T h _ _;exact ⟨h,fun k=>by unfold bW;rfl⟩
 | cons y l ih=>
  intro T h hr hu
  rw [List.all_cons,Bool.and_eq_true] at hr
  obtain ⟨h1,h2⟩:=List.pairwise_cons.1 hu
  obtain ⟨a,b⟩:=Kj h hr.1
  obtain ⟨c,d⟩:=ih (iA s T y) a hr.2 h2
  rw [List.foldl_cons]
  refine ⟨c,fun k=>?_⟩
  rw [d,b]
  unfold bW
  rw [List.find?_cons]
  by_cases e:y.key = k
  ·have hn:l.find? (fun x=>decide (x.key = k)) = none:=by
    rw [List.find?_eq_none]
    intro z hz q
    have q:z.key = k:=by simpa using q
    have:=(dz _ _).1 (fj.1 (h1 z hz))
    rw [q,← e] at this
    grind
   rw [hn,if_pos e]
   simp [e]
  ·rw [if_neg e]
   simp [e]
theorem OG {s:Int} {l:List It} (hr:l.all itR = true) (hu:Up l):OU s (l.foldl (iA s) (.nil,fk)) l:=by
 have h0:qL s (Tr.nil,fk).1:=⟨List.Pairwise.nil,fun p hp=>by cases hp⟩
 obtain ⟨a,b⟩:=MJ l (.nil,fk) h0 hr hu
 refine ⟨a,zw (wP a) hu fun k=>?_⟩
 rw [b]
 show (bW l k).or none = _
 cases bW l k <;> rfl
def iJ (sd:Int) (T:Tr × Ix) (s:Sta) (o:Sta × Int):(Tr × Ix) × Sta:=if o.2 = 0 then (o.1.its.foldl (dv sd) T,o.1) else (T,s)
theorem Pv {sd:Int} {T:Tr × Ix} {s:Sta} (h:OU sd T s.its) (a:Act) (hs:f0 s = true):OU sd (iJ sd T s (fw s a)).1 (vf s a).1.its ∧ (iJ sd T s (fw s a)).2 = (vf s a).1:=by
 unfold iJ vf
 by_cases e:(fw s a).2 = 0
 ·rw [if_pos e,if_pos e]
  refine ⟨?_,rfl⟩
  unfold fw at e ⊢
  by_cases k3:a.kind = 3
  ·rw [if_pos k3] at e ⊢
   have hR:=qC e
   obtain ⟨a1,a2,a3,a4⟩:=sH e
   have hU:=dn hR
   refine pa h hU.1 hU.2 fun k hk=>?_
   rw [a4] at hk
   exact BW (dn hs).1 (dn hs).2 hk
  rw [if_neg k3] at e ⊢
  by_cases k2:a.kind = 2
  ·rw [if_pos k2] at e ⊢
   obtain ⟨b1,b2,y,b3,b4,b5⟩:=np e
   have hU:=dn b1
   refine pa h hU.1 hU.2 fun k hk=>?_
   rw [b4] at hk
   exact zy (dn hs).2 hk
  rw [if_neg k2] at e ⊢
  by_cases k1:a.kind = 1
  ·rw [if_pos k1] at e ⊢
   obtain ⟨b1,b2,b3,b4⟩:=pb e
   have hU:=dn b1
   refine pa h hU.1 hU.2 fun k hk=>?_
   rw [b2] at hk
   exact zy (dn hs).2 hk
  ·rw [if_neg k1]
   exact pa h (dn hs).1 (dn hs).2 fun k hk=>hk
 ·rw [if_neg e,if_neg e]
  exact ⟨h,rfl⟩
def P0 (s:Sta) (o:Option It) (r:Bool) (S':It → Sta):Sta × Int:=
 if r = false then ({},41)
 else match o with
  | none=>({},31)
  | some y=>if y.dead then ({},31)
   else if s.cnt = 1099511627776 ∨ y.rank = 1099511627776 then ({},33)
   else (S' y,0)
section
theorem B5 (s:Sta) (k:ByteArray) (o:Option It) (r:Bool) (S':It → Sta)
 (a0:Fn Tryz.prog 90 [dX s,sC k] (.tup2 (.per (bX (itP (zi o)))) (cw o.isSome))) (a1:Fn Tryz.prog 40 [dX s] (cw r))
 (hrk':r = true → 0 ≤ (zi o).rank ∧ (zi o).rank ≤ 1099511627776)
 (a4':r = true → ∀ y,o = some y → y.dead = false → s.cnt ≠ 1099511627776 → y.rank ≠ 1099511627776 → Fn Tryz.prog 92 [dX s,wV ⟨k,0,0,y.rank + 1,y.prio,true,⟨#[]⟩⟩] (.per (m5 (S' y)))) :
 Fn Tryz.prog 107 [dX s,sC k] (.tup2 (.per (m5 (P0 s o r S').1)) (gy (P0 s o r S').2)):=by
 unfold P0
 cases r with
 | false=>
  rw [if_pos rfl]
  clear a4' hrk'
  refine fi Tryz.func107 Tryz.ntmps107 ?_
  (refine aL a0 a1 ?_;repeat' first|apply ai|refine aj fun hc=>?_)
  refine im ?_ ?_
  ·exact dE (bL inferInstance inferInstance rfl rfl rfl rfl rfl rfl) aI
  ·exact aH rfl rfl
 | true=>
 have hrk:=hrk' rfl
 have a5:=a4' rfl
 clear hrk' a4'
 rw [if_neg (show ¬ true = false by simp)]
 cases o with
 | none=>
  clear a5
  refine fi Tryz.func107 Tryz.ntmps107 ?_
  (refine aL a0 a1 ?_;repeat' first|apply ai|refine aj fun hc=>?_)
  refine im ?_ ?_
  ·exact dE (bL inferInstance inferInstance rfl rfl rfl rfl rfl rfl) aI
  ·exact aH rfl rfl
 | some y=>
  have a6:=a5 y rfl
  clear a5
  obtain ⟨ky,ry,cy,rk,pr,d,bd⟩:=y
  have hrk:0 ≤ rk ∧ rk ≤ 1099511627776:=hrk
  have a6:false = d → s.cnt ≠ 1099511627776 → rk ≠ 1099511627776 → Fn Tryz.prog 92 [dX s,wV ⟨k,0,0,rk + 1,pr,true,⟨#[]⟩⟩] (.per (m5 (S' ⟨ky,ry,cy,rk,pr,d,bd⟩))):=fun q=>a6 q.symm
  have a0:Fn Tryz.prog 90 [dX s,sC k] (.tup2 (.per (bX [av (.string ky),av (.int .i64 ry),av (.int .i64 cy),av (.int .i64 rk),av (.int .i64 pr),av (.bool d),av (.string bd)])) (cw true)):=a0
  simp only
  cases d with
  | true=>
   rw [if_pos rfl]
   clear a6
   refine fi Tryz.func107 Tryz.ntmps107 ?_
   (refine aL a0 a1 ?_;repeat' first|apply ai|refine aj fun hc=>?_)
   refine im ?_ ?_
   ·exact dE (bL inferInstance inferInstance rfl rfl rfl rfl rfl rfl) aI
   ·exact aH rfl rfl
  | false=>
   rw [if_neg (by simp)]
   by_cases c4:s.cnt = 1099511627776 ∨ rk = 1099511627776
   ·rw [if_pos c4]
    clear a6
    refine fi Tryz.func107 Tryz.ntmps107 ?_
    (refine aL a0 a1 ?_;repeat' first|apply ai|refine aj fun hc=>?_)
    all_goals first|(exfalso;rcases c4 with h|h <;> omega)|skip
    all_goals
     refine im ?_ ?_
     ·exact dE (bL inferInstance inferInstance rfl rfl rfl rfl rfl rfl) aI
     ·exact aH rfl rfl
   ·have d4:s.cnt ≠ 1099511627776:=fun q=>c4 (.inl q)
    have d5:rk ≠ 1099511627776:=fun q=>c4 (.inr q)
    have a4:=a6 rfl d4 d5
    rw [if_neg c4]
    clear c4 a6
    refine fi Tryz.func107 Tryz.ntmps107 ?_
    (refine eX a0 a1 a4 ?_;repeat' first|apply ai|refine aj fun hc=>?_)
    refine im ?_ ?_
    ·exact bL inferInstance inferInstance rfl rfl rfl rfl rfl rfl
    ·exact aH rfl rfl
end
theorem zO {l:List It} {k:ByteArray} {y:It} (h:bW l k = some y):y.key = k:=by
 unfold bW at h
 simpa using List.find?_some h
theorem Fv (s:Sta) (k:ByteArray) (hB:FH s) (hl:s.its.length ≤ 100000) (hj:f0 s = true → cY k = true → bS (s.know ++ ee k s.id (s.cnt + 1))) :
 Fn Tryz.prog 107 [dX s,sC k] (.tup2 (.per (m5 (fO s k).1)) (gy (fO s k).2)):=by
 have hG:=B5 s k (bW s.its k) (f0 s) (fun y=>nb s (fL s k y.prio true ⟨#[]⟩)) (J2 s k (by omega)) (ke s hB)
 rw [Df] at hG
 have e:P0 s (bW s.its k) (f0 s) (fun y=>nb s (fL s k y.prio true ⟨#[]⟩)) = fO s k:=rfl
 rw [e] at hG
 refine hG (fun hr=>m7 (dn hr).1 k) fun hr y hy hd h2 h3=>?_
 have hyk:=zO hy
 have hym:y ∈ s.its:=List.mem_of_find?_eq_some hy
 have hyr:=List.all_eq_true.1 (dn hr).1 y hym
 have hyr':=hyr
 unfold itR at hyr'
 simp only [Bool.and_eq_true,decide_eq_true_eq] at hyr'
 obtain ⟨⟨q1,_⟩,_,_,q2,q3,_,_⟩:=hyr'
 have hk:cY k = true:=by rw [← hyk];exact q1
 have hrk:ec s.its k = y.rank:=by unfold ec;rw [hy]
 have hx:itR (fL s k y.prio true ⟨#[]⟩) = true:=kX hr hk ⟨q2,q3⟩ (by decide) (fun _=>rfl) h2 (by rw [hrk];exact h3)
 obtain ⟨c1,c2,_⟩:=gx hr
 have hv:cC s.id (s.cnt + 1) = true:=by unfold cC;simp;omega
 have b1:=J1 s.know k s.id (s.cnt + 1) hk hv (hj hr hk)
 have b2:=(nR [[fL s k y.prio true ⟨#[]⟩],s.its] (by
  refine Nat.le_trans (List.length_filter_le _ _) ?_
  simp;omega) (by simp) (fun m hm=>by
  simp at hm
  rcases hm with rfl|rfl
  ·simp
  ·omega)).frz
 rw [u6 hr hx] at b2
 rw [← hrk]
 exact J3 s ⟨k,0,0,ec s.its k + 1,y.prio,true,⟨#[]⟩⟩ _ _ ⟨by omega,by omega⟩ b1 b2 (n5 s.flt (by have:=hB.flt;omega)).frz
theorem Fw (sd:Int) (T:Tr × Ix) (y:It):(dv sd T y).1.siz ≤ T.1.siz + 1:=by
 unfold dv
 split
 ·omega
 ·exact j7 _ _ _
theorem Kk (sd:Int):∀ (l:List It) (T:Tr × Ix),(l.foldl (dv sd) T).1.siz ≤ T.1.siz + l.length:=by
 intro l
 induction l with
 | nil=>intro T;exact Nat.le_refl _
 | cons y l ih=>
  intro T
  have h1:=Fw sd T y
  have h2:=ih (dv sd T y)
  rw [List.foldl_cons,List.length_cons]
  omega
section
theorem Dn (T:Tr × Ix) (s s':Sta) (sd b:Int) (hr:s'.its.all itR = true) (hl:s'.its.length ≤ 100000) (hs:T.1.siz ≤ 100000) (hB:pW T.2 100000) :
 de Tryz.prog 46 [.ptr 1000 0 0,dX s'] (bH T s sd b) .any (bH (s'.its.foldl (dv sd) T) s' sd b):=by
 refine eR Tryz.func46 Tryz.ntmps46 ?_
 (refine w0 ?_;repeat' first|apply ai|refine aj fun hc=>?_)
 refine an (X:=Nat) (fun i=>i ≤ s'.its.length) (fun i=>ba [(0,.ptr 1000 0 0),(13,.per (dC s'.its)),(14,iC .i64 (s'.its.length:Nat)),(15,iC .i64 (i:Nat))] (bH ((s'.its.take i).foldl (dv sd) T) s' sd b)) (fun i=>s'.its.length - i) 0 (Nat.zero_le _) ?_ ?_
 ·exact ae
 ·intro i h1
  have hsz:=Kk sd (s'.its.take i) T
  have hxb:=JY (s:=sd) (s'.its.take i) T _ hB
  have hln:=List.length_take_le i s'.its
  by_cases hi:i < s'.its.length
  ·have hR:=List.all_eq_true.1 hr _ (List.getElem_mem hi)
   have hsn:(s'.its.take (i + 1)).foldl (dv sd) T = dv sd ((s'.its.take i).foldl (dv sd) T) s'.its[i]:=by rw [aJ _ _ hi,List.foldl_append];rfl
   rw [List.length_take] at hsz hxb
   generalize (s'.its.take i).foldl (dv sd) T = X at hsz hxb hsn ⊢
   have c1:=wS X s' sd b s'.its[i].key (pf hR)
   have c2:=J5 X s' sd b s'.its[i] hR (by omega) (pf hR) (hxb.up (by omega))
   clear hsz hxb hB hs hR hr hln
   rw [show dv sd X s'.its[i] = if jM X.1 s'.its[i].key = some s'.its[i] then X else iA sd X s'.its[i] from rfl] at hsn
   cases hg:jM X.1 s'.its[i].key with
   | none=>
    rw [hg] at hsn c1
    rw [if_neg (by simp)] at hsn
    (refine lO (gj jN c1) (gj jN c2) ?_;repeat' first|apply ai|refine aj fun hc=>?_)
    refine ⟨i + 1,by omega,by omega,?_⟩
    rw [hsn]
    exact ae
   | some o=>
    rw [hg] at hsn c1
    by_cases e:o = s'.its[i]
    ·rw [if_pos (congrArg some e)] at hsn
     have hE:xN Tryz.prog 10000 41 (encIt o) (encIt s'.its[i]) = some true:=by rw [Cz,(oD _ _).2 e]
     clear c2
     (refine fB (gj jN c1) ?_;repeat' first|apply ai|refine aj fun hc=>?_|((first|apply aO rfl|apply aP rfl|apply aQ rfl|apply aR rfl);(focus ((try (apply b8;(focus rfl);apply ah rfl rfl rfl rfl rfl));first|(exact dR (us:=encIt o) (vs:=encIt s'.its[i]) ⟨rfl,rfl,rfl⟩ rfl rfl rfl (by first|exact .inl ⟨rfl,rfl⟩|exact .inr ⟨rfl,rfl⟩) O7 rfl hE)));refine fB (gj jN c1) ?_))
     refine ⟨i + 1,by omega,by omega,?_⟩
     rw [hsn]
     exact ae
    ·rw [if_neg (fun q=>e (Option.some.inj q))] at hsn
     have hE:xN Tryz.prog 10000 41 (encIt o) (encIt s'.its[i]) = some false:=by
      rw [Cz]
      cases q:PQ o s'.its[i] with
      | false=>rfl
      | true=>exact absurd ((oD _ _).1 q) e
     (refine lO (gj jN c1) (gj jN c2) ?_;repeat' first|apply ai|refine aj fun hc=>?_|((first|apply aO rfl|apply aP rfl|apply aQ rfl|apply aR rfl);(focus ((try (apply b8;(focus rfl);apply ah rfl rfl rfl rfl rfl));first|(exact dR (us:=encIt o) (vs:=encIt s'.its[i]) ⟨rfl,rfl,rfl⟩ rfl rfl rfl (by first|exact .inl ⟨rfl,rfl⟩|exact .inr ⟨rfl,rfl⟩) O7 rfl hE)));refine lO (gj jN c1) (gj jN c2) ?_))
     refine ⟨i + 1,by omega,by omega,?_⟩
     rw [hsn]
     exact ae
  ·rw [List.take_of_length_le (by omega)]
   generalize s'.its.foldl (dv sd) T = X
   clear hsz hxb hB hs hr hln
   (refine w0 ?_;repeat' first|apply ai|refine aj fun hc=>?_)
   (refine ⟨(by first|exact .inl rfl|exact .inr rfl),Cp (jN) rfl rfl ?_⟩;(focus (repeat (first|exact aW.nil|(refine aW.cons rfl ?_ ?_;(focus first|rfl|skip))))))
theorem MK (T:Tr × Ix) (s:Sta) (sd b:Int) (l:List It) (k:List Pc) (o:Sta × Int) (h1:Fn Tryz.prog 41 [dX s,.per (dC l),gr k] (.tup2 (.per (m5 o.1)) (gy o.2)))
 (h2:o.2 = 0 → de Tryz.prog 46 [.ptr 1000 0 0,dX o.1] (bH T s sd b) .any (bH (o.1.its.foldl (dv sd) T) o.1 sd b)) :
 de Tryz.prog 59 [.ptr 1000 0 0,.per (dC l),gr k] (bH T s sd b) (iC .i64 o.2) (bH (iJ sd T s o).1 (iJ sd T s o).2 sd b):=by
 have c0:=zD T s sd b
 obtain ⟨s',e⟩:=o
 unfold iJ
 by_cases he:e = 0
 ·subst he
  rw [if_pos rfl]
  have c2:=h2 rfl
  clear h2
  simp only at h1 c2 ⊢
  generalize s'.its.foldl (dv sd) T = X at c2 ⊢
  refine eR Tryz.func59 Tryz.ntmps59 ?_
  (refine lM h1 (gj jN c0) (gj jN c2) ?_;repeat' first|apply ai|refine aj fun hc=>?_)
  (refine ⟨(by first|exact .inl rfl|exact .inr rfl),cc (jN) rfl rfl ?_ ?_⟩;(focus (repeat (first|exact aW.nil|(refine aW.cons rfl ?_ ?_;(focus first|rfl|skip))))))
  exact cL rfl rfl
 ·rw [if_neg he]
  clear h2
  simp only at h1 ⊢
  refine eR Tryz.func59 Tryz.ntmps59 ?_
  (refine eW h1 (gj jN c0) ?_;repeat' first|apply ai|refine aj fun hc=>?_)
  (refine ⟨(by first|exact .inl rfl|exact .inr rfl),cc (jN) rfl rfl ?_ ?_⟩;(focus (repeat (first|exact aW.nil|(refine aW.cons rfl ?_ ?_;(focus first|rfl|skip))))))
  exact cL rfl rfl
theorem zP (T:Tr × Ix) (s:Sta) (sd b:Int) (k:ByteArray) (p:Int) (y:ByteArray) (o:Sta × Int) (h1:Fn Tryz.prog 45 [dX s,sC k,iC .i64 p,sC y] (.tup2 (.per (m5 o.1)) (gy o.2)))
 (h2:o.2 = 0 → de Tryz.prog 46 [.ptr 1000 0 0,dX o.1] (bH T s sd b) .any (bH (o.1.its.foldl (dv sd) T) o.1 sd b)) :
 de Tryz.prog 19 [.ptr 1000 0 0,sC k,iC .i64 p,sC y] (bH T s sd b) (iC .i64 o.2) (bH (iJ sd T s o).1 (iJ sd T s o).2 sd b):=by
 have c0:=zD T s sd b
 obtain ⟨s',e⟩:=o
 unfold iJ
 by_cases he:e = 0
 ·subst he
  rw [if_pos rfl]
  have c2:=h2 rfl
  clear h2
  simp only at h1 c2 ⊢
  generalize s'.its.foldl (dv sd) T = X at c2 ⊢
  refine eR Tryz.func19 Tryz.ntmps19 ?_
  (refine lM h1 (gj jN c0) (gj jN c2) ?_;repeat' first|apply ai|refine aj fun hc=>?_)
  (refine ⟨(by first|exact .inl rfl|exact .inr rfl),cc (jN) rfl rfl ?_ ?_⟩;(focus (repeat (first|exact aW.nil|(refine aW.cons rfl ?_ ?_;(focus first|rfl|skip))))))
  exact cL rfl rfl
 ·rw [if_neg he]
  clear h2
  simp only at h1 ⊢
  refine eR Tryz.func19 Tryz.ntmps19 ?_
  (refine eW h1 (gj jN c0) ?_;repeat' first|apply ai|refine aj fun hc=>?_)
  (refine ⟨(by first|exact .inl rfl|exact .inr rfl),cc (jN) rfl rfl ?_ ?_⟩;(focus (repeat (first|exact aW.nil|(refine aW.cons rfl ?_ ?_;(focus first|rfl|skip))))))
  exact cL rfl rfl
theorem Fx (T:Tr × Ix) (s:Sta) (sd b:Int) (k:ByteArray) (o:Sta × Int) (h1:Fn Tryz.prog 107 [dX s,sC k] (.tup2 (.per (m5 o.1)) (gy o.2)))
 (h2:o.2 = 0 → de Tryz.prog 46 [.ptr 1000 0 0,dX o.1] (bH T s sd b) .any (bH (o.1.its.foldl (dv sd) T) o.1 sd b)) :
 de Tryz.prog 58 [.ptr 1000 0 0,sC k] (bH T s sd b) (iC .i64 o.2) (bH (iJ sd T s o).1 (iJ sd T s o).2 sd b):=by
 have c0:=zD T s sd b
 obtain ⟨s',e⟩:=o
 unfold iJ
 by_cases he:e = 0
 ·subst he
  rw [if_pos rfl]
  have c2:=h2 rfl
  clear h2
  simp only at h1 c2 ⊢
  generalize s'.its.foldl (dv sd) T = X at c2 ⊢
  refine eR Tryz.func58 Tryz.ntmps58 ?_
  (refine lM h1 (gj jN c0) (gj jN c2) ?_;repeat' first|apply ai|refine aj fun hc=>?_)
  (refine ⟨(by first|exact .inl rfl|exact .inr rfl),cc (jN) rfl rfl ?_ ?_⟩;(focus (repeat (first|exact aW.nil|(refine aW.cons rfl ?_ ?_;(focus first|rfl|skip))))))
  exact cL rfl rfl
 ·rw [if_neg he]
  clear h2
  simp only at h1 ⊢
  refine eR Tryz.func58 Tryz.ntmps58 ?_
  (refine eW h1 (gj jN c0) ?_;repeat' first|apply ai|refine aj fun hc=>?_)
  (refine ⟨(by first|exact .inl rfl|exact .inr rfl),cc (jN) rfl rfl ?_ ?_⟩;(focus (repeat (first|exact aW.nil|(refine aW.cons rfl ?_ ?_;(focus first|rfl|skip))))))
  exact cL rfl rfl
end
theorem m8 (f:List Rg):bz [] f = []:=(mw jZ).2 fun _ _=>rfl
theorem B6 {l:List It} (hr:l.all itR = true) (hu:Up l):bN [l ++ []] = l:=Up.uniq (cZ _).1 hu fun k=>by
 rw [(cZ _).2.2,show ([l ++ []]:List (List It)).flatten = l by simp,jC hr]
theorem Fy {s:Sta} (h:f0 s = true):fK s [] [] = (s,0):=by
 obtain ⟨_,c2,c3,_,_,c6,_,_,c9,_⟩:=gx h
 have hm:=B6 (dn h).1 (dn h).2
 have e1:nl s.flt [] = []:=rfl
 unfold fK
 rw [if_neg (by rw [h];decide),m8,e1,if_neg (by rintro (q|q);cases q;exact q jZ),if_neg (by simp),if_neg (by show ¬ (0:Int) > s.cnt;omega),hm,if_neg (by rw [c9];decide),if_neg (by omega),List.append_nil,Bh c6]
abbrev Dp (T:Tr × Ix) (s:Sta) (sd b:Int):List (Nat × Blk):=[(3000,.box 76 (.ptr 3001 0 0 :: .ptr 3003 0 0 :: (nc s).map .per)),(3001,.box 121 [.row 3002 0,iC .u64 sd,iC .i64 b]),(3002,.obj (nm T.1)),(3003,.box 130 [.row 3010 0,.row 3011 0,.row 3012 0,.row 3013 0,.row 3014 0,.row 3015 0,.row 3016 0,.row 3017 0,.row 3018 0,.row 3019 0,.row 3020 0,.row 3021 0,.row 3022 0,.row 3023 0,.row 3024 0,.row 3025 0,iC .i64 T.2.many]),(3010,bt (T.2.rows 0)),(3011,bt (T.2.rows 1)),(3012,bt (T.2.rows 2)),(3013,bt (T.2.rows 3)),(3014,bt (T.2.rows 4)),(3015,bt (T.2.rows 5)),(3016,bt (T.2.rows 6)),(3017,bt (T.2.rows 7)),(3018,bt (T.2.rows 8)),(3019,bt (T.2.rows 9)),(3020,bt (T.2.rows 10)),(3021,bt (T.2.rows 11)),(3022,bt (T.2.rows 12)),(3023,bt (T.2.rows 13)),(3024,bt (T.2.rows 14)),(3025,bt (T.2.rows 15))]
abbrev Pw (T:Tr × Ix) (s:Sta) (sd b:Int):List (Nat × Blk):=[(31,.box 76 (.ptr 500 0 0 :: .ptr 502 0 0 :: (nc s).map .per)),(500,.box 121 [.row 501 0,iC .u64 sd,iC .i64 b]),(501,.obj (nm T.1)),(502,.box 130 [.row 510 0,.row 511 0,.row 512 0,.row 513 0,.row 514 0,.row 515 0,.row 516 0,.row 517 0,.row 518 0,.row 519 0,.row 520 0,.row 521 0,.row 522 0,.row 523 0,.row 524 0,.row 525 0,iC .i64 T.2.many]),(510,bt (T.2.rows 0)),(511,bt (T.2.rows 1)),(512,bt (T.2.rows 2)),(513,bt (T.2.rows 3)),(514,bt (T.2.rows 4)),(515,bt (T.2.rows 5)),(516,bt (T.2.rows 6)),(517,bt (T.2.rows 7)),(518,bt (T.2.rows 8)),(519,bt (T.2.rows 9)),(520,bt (T.2.rows 10)),(521,bt (T.2.rows 11)),(522,bt (T.2.rows 12)),(523,bt (T.2.rows 13)),(524,bt (T.2.rows 14)),(525,bt (T.2.rows 15))]
abbrev Qh:List (Nat × Nat):=[(1000,31),(1001,500),(2100,501),(1002,502),(2000,510),(2001,511),(2002,512),(2003,513),(2004,514),(2005,515),(2006,516),(2007,517),(2008,518),(2009,519),(2010,520),(2011,521),(2012,522),(2013,523),(2014,524),(2015,525)]
abbrev Qi:List (Nat × Nat):=[(31,3000),(500,3001),(501,3002),(502,3003),(510,3010),(511,3011),(512,3012),(513,3013),(514,3014),(515,3015),(516,3016),(517,3017),(518,3018),(519,3019),(520,3020),(521,3021),(522,3022),(523,3023),(524,3024),(525,3025)]
abbrev Qj:List (Nat × Nat):=[(3000,502),(3001,510),(3002,511),(3003,512),(3004,513),(3005,514),(3006,515),(3007,516),(3008,517),(3009,518),(3010,519),(3011,520),(3012,521),(3013,522),(3014,523),(3015,524),(3016,525)]
theorem Kl (sd:Int):∀ (l:List It) (T:Tr × Ix),(l.foldl (iA sd) T).1.siz ≤ T.1.siz + l.length:=by
 intro l
 induction l with
 | nil=>intro T;exact Nat.le_refl _
 | cons y l ih=>
  intro T
  have h1:(iA sd T y).1.siz ≤ T.1.siz + 1:=j7 _ _ _
  have h2:=ih (iA sd T y)
  rw [List.foldl_cons,List.length_cons]
  omega
theorem Km (sd:Int):∀ (l:List It) (T:Tr × Ix) (b:Nat),pW T.2 b → pW (l.foldl (iA sd) T).2 (b + 2 * l.length):=by
 intro l
 induction l with
 | nil=>intro T b h;exact h
 | cons y l ih=>
  intro T b h
  have h1:pW (iA sd T y).2 (b + 2):=by
   unfold iA
   simp only
   cases jM T.1 y.key with
   | none=>exact (o0 h _ _ _).up (by omega)
   | some o=>exact o0 (sI h _ _) _ _ _
  rw [List.foldl_cons,List.length_cons]
  exact (ih _ _ h1).up (by omega)
section
theorem Ko (s:Sta) (sd b:Int) (h:Fn Tryz.prog 40 [dX s] (cw false)):de Tryz.prog 18 [dX s,iC .u64 sd,iC .i64 b] [] (.tup2 (.per (av (.pointer none))) (iC .i64 41)) []:=by
 refine eR Tryz.func18 Tryz.ntmps18 ?_
 (refine az h ?_;repeat' first|apply ai|refine aj fun hc=>?_)
 (refine ⟨(by first|exact .inl rfl|exact .inr rfl),oy ([]) rfl rfl ?_ ?_ ?_⟩;(focus (repeat (first|exact aW.nil|(refine aW.cons rfl ?_ ?_;(focus first|rfl|skip))))))
 ·exact vC rfl rfl
 ·exact cL rfl rfl
theorem Dq (s:Sta) (sd b:Int) (hr:s.its.all itR = true) (hl:s.its.length ≤ 100000) (h1:Fn Tryz.prog 40 [dX s] (cw true)) (h2:Fn Tryz.prog 41 [dX s,.per (dC []),gr []] (.tup2 (.per (m5 s)) (gy 0))) :
 de Tryz.prog 18 [dX s,iC .u64 sd,iC .i64 b] [] (.tup2 (.ptr 3000 0 0) (iC .i64 0)) (Dp (s.its.foldl (iA sd) (.nil,fk)) s sd b):=by
 have c3:=Jl sd b
 have c4:=Od
 refine eR Tryz.func18 Tryz.ntmps18 ?_
 (have kc1:=h1;have kc2:=h2;have km1:=(show fv [(3000,500),(3001,501)] _ _ _ _ _ _ from c3);have km2:=(show fv Qj _ _ _ _ _ _ from c4);refine w0 ?_;(repeat' first|apply ai|refine aj fun hc=>?_);all_goals clear km2 km1 kc2 kc1)
 clear h1 h2 c3 c4
 refine an (X:=Nat) (fun i=>i ≤ s.its.length) (fun i=>ba [(10,.ptr 31 0 0),(33,.per (dC s.its)),(34,iC .i64 (s.its.length:Nat)),(35,iC .i64 (i:Nat))] (Pw ((s.its.take i).foldl (iA sd) (.nil,fk)) s sd b)) (fun i=>s.its.length - i) 0 (Nat.zero_le _) ?_ ?_
 ·exact ae
 ·intro i h1
  have hsz:=Kl sd (s.its.take i) (.nil,fk)
  have hxb:=Km sd (s.its.take i) (.nil,fk) 0 re
  have hln:=List.length_take_le i s.its
  by_cases hi:i < s.its.length
  ·have hR:=List.all_eq_true.1 hr _ (List.getElem_mem hi)
   have hsn:(s.its.take (i + 1)).foldl (iA sd) (.nil,fk) = iA sd ((s.its.take i).foldl (iA sd) (.nil,fk)) s.its[i]:=by rw [aJ _ _ hi,List.foldl_append];rfl
   rw [List.length_take] at hsz hxb
   have hz0:(Tr.nil,fk).1.siz = 0:=rfl
   generalize (s.its.take i).foldl (iA sd) (.nil,fk) = X at hsz hxb hsn ⊢
   have c2:=J5 X s sd b s.its[i] hR (by omega) (pf hR) (hxb.up (by omega))
   clear hsz hxb hR hr hln
   (refine fB (gj Qh c2) ?_;repeat' first|apply ai|refine aj fun hc=>?_)
   refine ⟨i + 1,by omega,by omega,?_⟩
   rw [hsn]
   exact ae
  ·rw [List.take_of_length_le (by omega)]
   generalize s.its.foldl (iA sd) (.nil,fk) = X
   clear hsz hxb hr hln
   (refine w0 ?_;repeat' first|apply ai|refine aj fun hc=>?_)
   (refine ⟨(by first|exact .inl rfl|exact .inr rfl),oy (Qi) rfl rfl ?_ ?_ ?_⟩;(focus (repeat (first|exact aW.nil|(refine aW.cons rfl ?_ ?_;(focus first|rfl|skip))))))
   ·exact uq rfl rfl
   ·exact cL rfl rfl
end
end Go.Proofs.YtliiahjpiagdkaaGreat
