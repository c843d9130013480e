/- Texts joined: Swp CntS FtM VsE Stab RgO. -/
import Derived.Test.YtliiahjpiagdkaaGreatJ12
import Derived.Test.YtliiahjpiagdkaaGreatJ05
import Derived.Test.YtliiahjpiagdkaaGreatJ07
import Derived.Test.YtliiahjpiagdkaaGreatJ01
import Derived.Test.YtliiahjpiagdkaaGreatJ11
import Derived.Test.YtliiahjpiagdkaaGreatJ09
set_option maxRecDepth 10000
set_option maxHeartbeats 8000000
namespace Go.Proofs.YtliiahjpiagdkaaGreat
theorem Eg {l:List Rn} (h:cu l):∀ (d i:Nat) (hd:i + d + 1 < l.length),l[i].to + 2 ≤ l[i + d + 1].fr:=by
 intro d
 induction d with
 | zero=>
  intro i hd
  have:=(h (i + 1) (by omega) (by omega)).2 (by omega)
  simpa using this
 | succ d ih=>
  intro i hd
  have h1:=ih i (by omega)
  have h2:=(h (i + d + 2) (by omega) (by omega)).2 (by omega)
  have h3:=gc h (i:=i + d + 1) (by omega)
  simp only [show i + d + 2 - 1 = i + d + 1 by omega] at h2
  have e:l[i + (d + 1) + 1] = l[i + d + 2]:=by congr 1
  rw [e];omega
theorem pI {l:List Rn} (h:cu l) {i j:Nat} (hij:i < j) (hj:j < l.length):l[i].to + 2 ≤ l[j].fr:=by
 have h1:=Eg h (j - i - 1) i (by omega)
 have e:l[i + (j - i - 1) + 1]'(by omega) = l[j]:=by congr 1;omega
 rw [e] at h1;exact h1
structure NM (l:List Rn) (a:Int) (i:Nat):Prop where
 le:i ≤ l.length
 lo:∀ j (h:j < l.length),j < i → l[j].to < a
 hi:∀ j (h:j < l.length),i ≤ j → a ≤ l[j].to
def A7 (l:List Rn) (j:Nat) (a e:Int):Bool × Int:=if h:j < l.length then (if a < l[j].fr then (false,min e (l[j].fr - 1)) else (true,min e l[j].to)) else (false,e)
def LB (l:List Rn) (i:Nat) (e:Int):Nat:=if h:i < l.length then (if l[i].to = e then i + 1 else i) else i
def Eh (l:List Rn) (i:Nat) (a:Int):Nat:=2 * i + (if h:i < l.length then (if l[i].fr ≤ a then 1 else 0) else 0)
section
variable {l:List Rn} {a e:Int} {i:Nat}
theorem HW (h:i ≤ l.length):Eh l i a ≤ 2 * l.length:=by
 unfold Eh;split
 ·split <;> omega
 ·omega
theorem H3 (h:cu l) (p:NM l a i) (he:a ≤ e):a ≤ (A7 l i a e).2 ∧ (A7 l i a e).2 ≤ e ∧ ∀ h:i < l.length,(A7 l i a e).2 ≤ l[i].to:=by
 unfold A7
 by_cases c:i < l.length
 ·rw [dif_pos c]
  have h1:=gc h c
  have h2:=p.hi i c (Nat.le_refl _)
  split
  ·refine ⟨?_,?_,fun _=>?_⟩ <;> simp only <;> omega
  ·refine ⟨?_,?_,fun _=>?_⟩ <;> simp only <;> omega
 ·rw [dif_neg c]
  exact ⟨he,Int.le_refl _,fun q=>absurd q c⟩
theorem H4 (h:cu l) (p:NM l a i) {n:Int} (h1:a ≤ n) (h2:n ≤ (A7 l i a e).2):cH l n = (A7 l i a e).1:=by
 unfold A7 at *
 by_cases c:i < l.length
 ·rw [dif_pos c] at *
  by_cases d:a < l[i].fr
  ·rw [if_pos d] at *
   simp only at h2 ⊢
   rw [← Bool.not_eq_true,eI]
   rintro ⟨r,hr,_,q⟩
   obtain ⟨j,hj,rfl⟩:=List.getElem_of_mem hr
   rcases Nat.lt_or_ge j i with z|z
   ·have:=p.lo j hj z;omega
   ·rcases Nat.lt_or_ge i j with y|y
    ·have:=pI h y hj
     have:=gc h c
     omega
    ·obtain rfl:j = i:=by omega
     omega
  ·rw [if_neg d] at *
   simp only at h2 ⊢
   rw [eI]
   exact ⟨l[i],List.getElem_mem c,(h i c c).1,by omega,by omega⟩
 ·rw [dif_neg c] at *
  simp only
  rw [← Bool.not_eq_true,eI]
  rintro ⟨r,hr,_,q⟩
  obtain ⟨j,hj,rfl⟩:=List.getElem_of_mem hr
  have:=p.lo j hj (by omega)
  omega
theorem CH (h:cu l) (p:NM l a i) (h1:a ≤ e) (h2:∀ h:i < l.length,e ≤ l[i].to):NM l (e + 1) (LB l i e):=by
 unfold LB
 by_cases c:i < l.length
 ·rw [dif_pos c]
  have h3:=h2 c
  split
  ·rename_i d
   refine ⟨by omega,fun j hj hji=>?_,fun j hj hji=>?_⟩
   ·rcases Nat.lt_or_ge j i with z|z
    ·have:=p.lo j hj z;omega
    ·obtain rfl:j = i:=by omega
     omega
   ·have:=pI h (show i < j by omega) hj
    have:=gc h hj
    omega
  ·refine ⟨p.le,fun j hj hji=>?_,fun j hj hji=>?_⟩
   ·have:=p.lo j hj hji;omega
   ·rcases Nat.lt_or_ge i j with z|z
    ·have:=pI h z hj
     have:=gc h hj
     omega
    ·obtain rfl:j = i:=by omega
     omega
 ·rw [dif_neg c]
  exact ⟨p.le,fun j hj hji=>by have:=p.lo j hj hji;omega,fun j hj hji=>by omega⟩
theorem M4 (h:cu l) (h2:∀ h:i < l.length,e ≤ l[i].to) (h1:a ≤ e):Eh l i a ≤ Eh l (LB l i e) (e + 1) ∧ ((∃ c:i < l.length,e = if a < l[i].fr then l[i].fr - 1 else l[i].to) → Eh l i a < Eh l (LB l i e) (e + 1)):=by
 unfold Eh LB
 by_cases c:i < l.length
 ·have h3:=gc h c
  have h4:=h2 c
  by_cases d:l[i].to = e
  ·simp only [dif_pos c,if_pos d]
   refine ⟨by split <;> omega,fun _=>by split <;> omega⟩
  ·simp only [dif_pos c,if_neg d]
   refine ⟨?_,fun ⟨_,z⟩=>?_⟩
   ·split <;> split <;> omega
   ·by_cases y:a < l[i].fr
    ·rw [if_pos y] at z
     rw [if_neg (by omega),if_pos (by omega)];omega
    ·rw [if_neg y] at z;omega
 ·simp only [dif_neg c]
  exact ⟨Nat.le_refl _,fun ⟨z,_⟩=>absurd z c⟩
end
structure NN (keep:Bool → Bool → Bool) (A B:List Rn) (a:Int) (i k:Nat) (out:List Rn):Prop where
 pos:1 ≤ a
 p:NM A a i
 q:NM B a k
 right:∀ r ∈ out,gM r = true
 has:∀ n,eF out n ↔ n < a ∧ tS keep A B n = true
 few:out.length ≤ Eh A i a + Eh B k a
theorem NN.step {keep:Bool → Bool → Bool} {A B:List Rn} (hA:cu A) (hB:cu B) {a:Int} {i k:Nat} {out:List Rn} (s:NN keep A B a i k out) (h1:a ≤ 1099511627776) (h2:i < A.length ∨ k < B.length) :
 ∀ x y,x = A7 A i a 1099511627776 → y = A7 B k a x.2 →
 a ≤ y.2 ∧ y.2 ≤ 1099511627776 ∧ NN keep A B (y.2 + 1) (LB A i y.2) (LB B k y.2) (if keep x.1 y.1 then out ++ [⟨a,y.2⟩] else out):=by
 intro x y ex ey
 obtain ⟨a1,a2,a3⟩:=H3 hA s.p h1
 rw [← ex] at a1 a2 a3
 obtain ⟨b1,b2,b3⟩:=H3 (e:=x.2) hB s.q a1
 rw [← ey] at b1 b2 b3
 have a3':∀ h:i < A.length,y.2 ≤ A[i].to:=fun h=>by have:=a3 h;omega
 have hf:∀ n,a ≤ n → n ≤ y.2 → tS keep A B n = keep x.1 y.1:=fun n c1 c2=>by
  unfold tS
  rw [H4 hA s.p c1 (show n ≤ (A7 A i a 1099511627776).2 by rw [← ex];omega),H4 hB s.q c1 (show n ≤ (A7 B k a x.2).2 by rw [← ey];exact c2),← ex,← ey]
 have cA:=M4 hA a3' b1
 have cB:=M4 hB b3 b1
 have hstrict:(∃ c:i < A.length,y.2 = if a < A[i].fr then A[i].fr - 1 else A[i].to) ∨ (∃ c:k < B.length,y.2 = if a < B[k].fr then B[k].fr - 1 else B[k].to):=by
  have hx:(∃ c:i < A.length,x.2 = if a < A[i].fr then A[i].fr - 1 else A[i].to) ∨ (¬ i < A.length ∧ x.2 = 1099511627776):=by
   by_cases c:i < A.length
   ·have:=gc hA c
    refine .inl ⟨c,?_⟩
    rw [ex]
    unfold A7
    rw [dif_pos c]
    split <;> simp only <;> omega
   ·refine .inr ⟨c,?_⟩
    rw [ex]
    unfold A7
    rw [dif_neg c]
  have hy:y.2 = x.2 ∧ ¬ k < B.length ∨ ∃ c:k < B.length,y.2 = min x.2 (if a < B[k].fr then B[k].fr - 1 else B[k].to):=by
   by_cases c:k < B.length
   ·refine .inr ⟨c,?_⟩
    rw [ey]
    unfold A7
    rw [dif_pos c]
    split <;> rfl
   ·refine .inl ⟨?_,c⟩
    rw [ey]
    unfold A7
    rw [dif_neg c]
  rcases hy with ⟨y1,y2⟩|⟨c,y1⟩
  ·rcases hx with ⟨c,x1⟩|⟨c,_⟩
   ·exact .inl ⟨c,by rw [y1,x1]⟩
   ·exact absurd h2 (by omega)
  ·rcases hx with ⟨c',x1⟩|⟨c',x1⟩
   ·by_cases z:x.2 ≤ (if a < B[k].fr then B[k].fr - 1 else B[k].to)
    ·exact .inl ⟨c',by rw [y1,Int.min_eq_left z,x1]⟩
    ·exact .inr ⟨c,by rw [y1,Int.min_eq_right (by omega)]⟩
   ·have:=gc hB c
    refine .inr ⟨c,?_⟩
    rw [y1,x1]
    split <;> omega
 have hlt:Eh A i a + Eh B k a < Eh A (LB A i y.2) (y.2 + 1) + Eh B (LB B k y.2) (y.2 + 1):=by
  rcases hstrict with z|z
  ·have:=cA.2 z;have:=cB.1;omega
  ·have:=cB.2 z;have:=cA.1;omega
 have hy40:y.2 ≤ 1099511627776:=by omega
 have hay:a ≤ y.2:=b1
 refine ⟨hay,hy40,⟨by have:=s.pos;omega,CH hA s.p hay a3',CH hB s.q hay b3,?_,?_,?_⟩⟩
 ·split
  ·intro r hr
   rcases List.mem_append.1 hr with q|q
   ·exact s.right r q
   ·have:r = ⟨a,y.2⟩:=by simpa using q
    subst this
    have:=s.pos
    exact (bK _).2 (by simp only;omega)
  ·exact s.right
 ·intro n
  by_cases kx:keep x.1 y.1 = true
  ·rw [if_pos kx,ir,s.has n,bM]
   have hr:gM ⟨a,y.2⟩ = true:=by have:=s.pos;exact (bK _).2 (by simp only;omega)
   constructor
   ·rintro (⟨q1,q2⟩|⟨_,q1,q2⟩|q)
    ·exact ⟨by omega,q2⟩
    ·simp only at q1 q2
     exact ⟨by omega,by rw [hf n q1 q2];exact kx⟩
    ·exact absurd q (d0 n)
   ·rintro ⟨q1,q2⟩
    by_cases z:n < a
    ·exact .inl ⟨z,q2⟩
    ·exact .inr (.inl ⟨hr,by simp only;omega,by simp only;omega⟩)
  ·rw [if_neg kx,s.has n]
   constructor
   ·rintro ⟨q1,q2⟩
    exact ⟨by omega,q2⟩
   ·rintro ⟨q1,q2⟩
    refine ⟨?_,q2⟩
    by_cases z:n < a
    ·exact z
    ·rw [hf n (by omega) (by omega)] at q2
     exact absurd q2 kx
 ·have:=s.few
  split
  ·rw [List.length_append,List.length_cons,List.length_nil];omega
  ·omega
theorem NN.done {keep:Bool → Bool → Bool} (hk:keep false false = false) {A B:List Rn} {a:Int} {i k:Nat} {out:List Rn} (s:NN keep A B a i k out) (h:¬ a ≤ 1099511627776 ∨ ¬ i < A.length ∧ ¬ k < B.length) :
 ofR out = Ly (tS keep A B) A B:=by
 refine (HV hk (nz out) (fun n=>?_)).symm
 rw [gn,s.has n]
 refine ⟨fun q=>q.2,fun q=>⟨?_,q⟩⟩
 refine Classical.byContradiction fun z=>?_
 have no:∀ {l:List Rn} {i:Nat},NM l a i → (¬ a ≤ 1099511627776 ∨ ¬ i < l.length) → cH l n = false:=fun {l i} p h=>by
  rw [← Bool.not_eq_true,eI]
  intro w
  have w':=Hm w
  obtain ⟨r,hr,_,w1⟩:=w
  obtain ⟨j,hj,rfl⟩:=List.getElem_of_mem hr
  rcases h with h|h
  ·omega
  ·have:=p.lo j hj (by omega);omega
 rw [tS,no s.p (h.imp id (·.1)),no s.q (h.imp id (·.2)),hk] at q
 cases q
theorem NN.len {keep:Bool → Bool → Bool} {A B:List Rn} {a:Int} {i k:Nat} {out:List Rn} (s:NN keep A B a i k out):out.length ≤ 2 * (A.length + B.length):=by
 have h1:=s.few
 have h2:=HW (a:=a) s.p.le
 have h3:=HW (a:=a) s.q.le
 omega
section
variable {P:Program} {n t:Nat} {ops:Array Oper} {o:Oper} {S:St}
end
section
end
def O9:Cnt → Bool
 | .per _=>true
 | .bor _ _=>true
 | _=>false
theorem H5 {C:Ctx} {w:World} {c:Cnt} (hc:O9 c = true) {v:Value} (h:crep C z0 C.G0 w v c):crep ⟨w,fun b=>C.N0 b ∨ C.G0.ow b ≠ none,fun _=>False,g0⟩ (fun _=>0) g0 w v c:=by
 have hn:∀ b,b < w.heap.size → Gh.N g0 ⟨w,fun b=>C.N0 b ∨ C.G0.ow b ≠ none,fun _=>False,g0⟩ b → C.G0.N C b:=fun b _ q=>by
  rcases q with q|q
  ·exact q
  ·exact absurd rfl q
 cases c with
 | per A=>exact A.mono (Nat.le_refl _) (fun _ _ _=>rfl) hn h
 | bor k es=>exact dW.mono (Nat.le_refl _) (fun _ _ _=>rfl) (fun _ _ _=>rfl) (fun b _ q=>absurd rfl q) hn h
 | _=>cases hc
theorem Fn.toM {P:Program} {f:FuncId} {As:List Cnt} {A:PV} (h:Fn P f As (.per A)) (hA:As.all O9 = true:=by rfl):de P f As [] (.per A) []:=by
 refine ⟨h.ent,?_⟩
 intro C w vs _ hN hO hl hvs _
 refine (h.run (fun b=>C.N0 b ∨ C.G0.ow b ≠ none) w vs (fun b q=>?_) ⟨hl,fun i v c h1 h2=>H5 (List.all_eq_true.1 hA c (List.mem_of_getElem? h2)) (hvs i v c h1 h2)⟩).mono ?_
 ·rcases q with q|q
  ·exact (hN b q).1
  ·obtain ⟨id,e⟩:=Option.ne_none_iff_exists'.1 q
   exact (hO b id e).1
 ·rintro e w' ⟨v,rfl,hx,hr⟩
  refine ⟨v,C.G0,rfl,⟨hx.os,hx.tape,hx.output,hx.size,fun b hb _=>hx.block b hb,fun b id q=>⟨Nat.lt_of_lt_of_le (hO b id q).1 hx.size,.inr (hO b id q).2⟩,fun _ _=>⟨rfl,rfl⟩⟩,?_,fun id=>trivial⟩
  exact hr
abbrev k9 (l:List Kn):Ret:=.own 95 2 (l.map CA)
theorem A8 (s:List Kn) (hs:cR s):∀ l ∈ b6 s,l.length ≤ 1000000000:=fun l hl=>by
 obtain ⟨r,_,rfl⟩:=List.mem_map.1 hl
 have:=d6 s r
 have:=hs.2
 omega
theorem yy {F:Cnt → Cnt} (h:∀ A,F (.per A) = .per A) {T:List (List Rn)}:(iI T).map F = iI T:=by
 unfold iI
 rw [List.map_map]
 exact List.map_congr_left fun x _=>h _
section
theorem LC (s:List Kn) (hs:cR s):Fn Tryz.prog 169 [eM s] (k9 (ff ofR s)):=
 M3 ofR s hs (fun l hl=>vU l (A8 s hs l hl))
def pJ (s:List Kn):Prop:=s.length ≤ 100000000 ∧ (s.flatMap Kn.runs).length ≤ 100000000
theorem pJ.tot {s:List Kn} (h:pJ s):cR s:=⟨by have:=h.1;omega,by have:=h.2;omega⟩
end
end Go.Proofs.YtliiahjpiagdkaaGreat
namespace Go.Proofs.YtliiahjpiagdkaaGreat
structure sj {α:Type} (lt:α → α → Bool):Prop where
 irr:∀ x,lt x x = false
 tr:∀ x y z,lt x y = true → lt y z = true → lt x z = true
 ntr:∀ x y z,lt x y = false → lt y z = false → lt x z = false
section
variable {α:Type} {lt:α → α → Bool}
def sm (lt:α → α → Bool) (x y:α):Bool:=!lt x y && !lt y x
def lS (lt:α → α → Bool) (l:List α):Prop:=l.Pairwise fun x y=>lt y x = false
def i7 (lt:α → α → Bool) (M N:List α):Prop:=∀ x,N.filter (sm lt x) = M.filter (sm lt x)
theorem sj.lt_of (h:sj lt) {x y z:α} (h1:lt x y = true) (h2:lt z y = false):lt x z = true:=by
 cases hxz:lt x z with
 | true=>rfl
 | false=>have:=h.ntr x z y hxz h2;rw [h1] at this;cases this
theorem sj.lt_of' (h:sj lt) {x y z:α} (h1:lt x y = true) (h2:lt x z = false):lt z y = true:=by
 cases hzy:lt z y with
 | true=>rfl
 | false=>have:=h.ntr x z y h2 hzy;rw [h1] at this;cases this
theorem sj.asym (h:sj lt) {x y:α} (h1:lt x y = true):lt y x = false:=by
 cases hyx:lt y x with
 | false=>rfl
 | true=>have:=h.tr x y x h1 hyx;rw [h.irr] at this;cases this
theorem yz (h:sj lt) (x:α):sm lt x x = true:=by simp [sm,h.irr]
theorem pK (h:sj lt) {x y z:α} (h1:sm lt x y = true):sm lt y z = sm lt x z:=by
 simp only [sm,Bool.and_eq_true,Bool.not_eq_true'] at h1
 unfold sm
 have e1:lt y z = lt x z:=by
  cases hb:lt y z with
  | true=>exact (h.lt_of' hb h1.2).symm
  | false=>exact (h.ntr x y z h1.1 hb).symm
 have e2:lt z y = lt z x:=by
  cases hb:lt z y with
  | true=>exact (h.lt_of hb h1.1).symm
  | false=>exact (h.ntr z y x hb h1.2).symm
 rw [e1,e2]
theorem i7.refl (M:List α):i7 lt M M:=fun _=>rfl
theorem i7.trans {M N O:List α} (h1:i7 lt M N) (h2:i7 lt N O):i7 lt M O:=fun x=>(h2 x).trans (h1 x)
theorem i7.symm {M N:List α} (h1:i7 lt M N):i7 lt N M:=fun x=>(h1 x).symm
theorem i7.app {M N M' N':List α} (h1:i7 lt M N) (h2:i7 lt M' N'):i7 lt (M ++ M') (N ++ N'):=fun x=>by
 rw [List.filter_append,List.filter_append,h1 x,h2 x]
theorem i7.mem (h:sj lt) {M N:List α} (h1:i7 lt M N) {x:α} (hx:x ∈ N):x ∈ M:=by
 have:x ∈ N.filter (sm lt x):=List.mem_filter.2 ⟨hx,yz h x⟩
 rw [h1 x] at this
 exact (List.mem_filter.1 this).1
theorem i7.mem' (h:sj lt) {M N:List α} (h1:i7 lt M N) {x:α} (hx:x ∈ M):x ∈ N:=h1.symm.mem h hx
theorem lS.uniq (h:sj lt):∀ {M N:List α},lS lt M → lS lt N → i7 lt M N → M = N:=by
 intro M
 induction M with
 | nil=>
  intro N _ _ ha
  cases N with
  | nil=>rfl
  | cons y N=>exact absurd (ha.mem h List.mem_cons_self) (by simp)
 | cons x M ih=>
  intro N hM hN ha
  cases N with
  | nil=>exact absurd (ha.mem' h (x:=x) List.mem_cons_self) (by simp)
  | cons y N=>
   have hM':=List.pairwise_cons.1 hM
   have hN':=List.pairwise_cons.1 hN
   have hyM:=ha.mem h (x:=y) List.mem_cons_self
   have hxN:=ha.mem' h (x:=x) List.mem_cons_self
   have h1:lt y x = false:=by
    rcases List.mem_cons.1 hyM with e|e
    ·rw [e];exact h.irr x
    ·exact hM'.1 y e
   have h2:lt x y = false:=by
    rcases List.mem_cons.1 hxN with e|e
    ·rw [e];exact h.irr y
    ·exact hN'.1 x e
   have hE:sm lt x y = true:=by simp [sm,h1,h2]
   have hx:=ha x
   rw [List.filter_cons_of_pos hE,List.filter_cons_of_pos (yz h x)] at hx
   injection hx with e1 e2
   subst e1
   rw [ih hM'.2 hN'.2 (fun z=>?_)]
   have hz:=ha z
   rw [List.filter_cons,List.filter_cons] at hz
   split at hz
   ·injection hz
   ·exact hz
def pL (lt:α → α → Bool) (x:α):List α → List α → List α
 | [],r=>x :: r
 | y :: l,r=>if lt x y then pL lt x l (y :: r) else (y :: l).reverse ++ x :: r
def nG (lt:α → α → Bool) (p:List α) (x:α):List α:=pL lt x p.reverse []
def fE (lt:α → α → Bool) (l:List α):List α:=l.foldl (nG lt) []
theorem Ei (h:sj lt) (x:α):∀ (l r:List α),lS lt (l.reverse ++ r) → (∀ y ∈ r,lt x y = true) → lS lt (pL lt x l r) ∧ i7 lt (l.reverse ++ r ++ [x]) (pL lt x l r):=by
 intro l
 induction l with
 | nil=>
  intro r hs hr
  refine ⟨List.pairwise_cons.2 ⟨fun y hy=>h.asym (hr y hy),by simpa [lS] using hs⟩,fun z=>?_⟩
  simp only [pL,List.reverse_nil,List.nil_append,List.filter_append,List.filter_cons,List.filter_nil]
  split
  ·rename_i hz
   have:r.filter (sm lt z) = []:=by
    rw [List.filter_eq_nil_iff]
    intro y hy he
    rw [pK h hz |>.symm] at he
    simp [sm,hr y hy] at he
   rw [this];rfl
  ·simp
 | cons y l ih=>
  intro r hs hr
  unfold pL
  split
  ·rename_i hxy
   have:=ih (y :: r) (by simpa using hs) (fun z hz=>by
    rcases List.mem_cons.1 hz with e|e
    ·rw [e];exact hxy
    ·exact hr z e)
   simpa using this
  ·rename_i hxy
   have hxy:lt x y = false:=by simpa using hxy
   have hlr:∀ z ∈ (y :: l).reverse,lt x z = false:=by
    intro z hz
    have hz':z ∈ y :: l:=List.mem_reverse.1 hz
    rcases List.mem_cons.1 hz' with e|e
    ·rw [e];exact hxy
    ·have hs1:lS lt (l.reverse ++ [y]):=by
      have:lS lt ((l.reverse ++ [y]) ++ r):=by simpa using hs
      exact (List.pairwise_append.1 this).1
     have hq:=(List.pairwise_append.1 hs1).2.2 z (by simpa using e) y (by simp)
     exact h.ntr x y z hxy hq
   have hs':=List.pairwise_append.1 hs
   refine ⟨List.pairwise_append.2 ⟨hs'.1,List.pairwise_cons.2 ⟨fun z hz=>h.asym (hr z hz),hs'.2.1⟩,fun a ha b hb=>?_⟩,fun z=>?_⟩
   ·rcases List.mem_cons.1 hb with e|e
    ·rw [e];exact hlr a ha
    ·exact hs'.2.2 a ha b e
   ·simp only [List.filter_append,List.filter_cons,List.filter_nil,List.append_assoc]
    congr 1
    split
    ·rename_i hz
     have:r.filter (sm lt z) = []:=by
      rw [List.filter_eq_nil_iff]
      intro y hy he
      rw [pK h hz |>.symm] at he
      simp [sm,hr y hy] at he
     rw [this];rfl
    ·simp
theorem Ej (h:sj lt) {p:List α} (hp:lS lt p) (x:α):lS lt (nG lt p x) ∧ i7 lt (p ++ [x]) (nG lt p x):=by
 have:=Ei h x p.reverse [] (by simpa using hp) (fun y hy=>by simp at hy)
 simpa [nG] using this
theorem dl (h:sj lt) (l:List α):lS lt (fE lt l) ∧ i7 lt l (fE lt l):=by
 have key:∀ (l p:List α),lS lt p → lS lt (l.foldl (nG lt) p) ∧ i7 lt (p ++ l) (l.foldl (nG lt) p):=by
  intro l
  induction l with
  | nil=>intro p hp;exact ⟨hp,by simpa using i7.refl p⟩
  | cons x l ih=>
   intro p hp
   obtain ⟨h1,h2⟩:=Ej h hp x
   obtain ⟨h3,h4⟩:=ih _ h1
   refine ⟨h3,i7.trans ?_ h4⟩
   have:=h2.app (i7.refl l)
   simpa using this
 simpa [fE] using key l [] List.Pairwise.nil
theorem qZ (h:sj lt) {M N:List α} (h1:lS lt N) (h2:i7 lt M N):fE lt M = N:=
 (dl h M).1.uniq h h1 ((dl h M).2.symm.trans h2)
theorem H6 (h:sj lt) {M N:List α} (h2:i7 lt M N):fE lt M = fE lt N:=
 qZ h (dl h N).1 (h2.trans (dl h N).2)
theorem oS (h:sj lt) {M:List α} (h1:lS lt M):fE lt M = M:=qZ h h1 (i7.refl M)
theorem lU (h:sj lt) {M:List α} {x:α}:x ∈ fE lt M ↔ x ∈ M:=⟨fun q=>(dl h M).2.mem h q,fun q=>(dl h M).2.mem' h q⟩
theorem H7 (x:α):∀ (l r:List α),(pL lt x l r).length = l.length + 1 + r.length:=by
 intro l
 induction l with
 | nil=>intro r;simp [pL];omega
 | cons y l ih=>
  intro r
  unfold pL
  split
  ·rw [ih];simp;omega
  ·simp;omega
theorem oT (l:List α):(fE lt l).length = l.length:=by
 have:∀ (l p:List α),(l.foldl (nG lt) p).length = p.length + l.length:=by
  intro l
  induction l with
  | nil=>intro p;rfl
  | cons x l ih=>
   intro p
   rw [List.foldl_cons,ih]
   unfold nG
   rw [H7];simp;omega
 simpa [fE] using this l []
theorem H8 (h:sj lt) {L1 L2 R1 R2:List α} (hL:lS lt (L1 ++ L2)) (hR:lS lt (R1 ++ R2)) (h1:∀ x ∈ L1,∀ y ∈ R2,lt y x = false) (h2:∀ x ∈ R1,∀ y ∈ L2,lt x y = true) :
 fE lt ((L1 ++ L2) ++ (R1 ++ R2)) = fE lt (L1 ++ R1) ++ fE lt (L2 ++ R2):=by
 have hL':=List.pairwise_append.1 hL
 have hR':=List.pairwise_append.1 hR
 refine qZ h (List.pairwise_append.2 ⟨(dl h _).1,(dl h _).1,fun a ha b hb=>?_⟩) ?_
 ·rw [lU h] at ha hb
  rcases List.mem_append.1 ha with ha|ha <;> rcases List.mem_append.1 hb with hb|hb
  ·exact hL'.2.2 a ha b hb
  ·exact h1 a ha b hb
  ·exact h.asym (h2 a ha b hb)
  ·exact hR'.2.2 a ha b hb
 ·refine i7.trans (N:=(L1 ++ R1) ++ (L2 ++ R2)) (fun x=>?_) ((dl h _).2.app (dl h _).2)
  simp only [List.filter_append,List.append_assoc]
  congr 1
  rw [← List.append_assoc,← List.append_assoc]
  congr 1
  by_cases he:∃ y ∈ R1,sm lt x y = true
  ·obtain ⟨y,hy,he⟩:=he
   have:L2.filter (sm lt x) = []:=by
    rw [List.filter_eq_nil_iff]
    intro z hz hz2
    rw [pK h he |>.symm] at hz2
    simp [sm,h2 y hy z hz] at hz2
   rw [this];simp
  ·have:R1.filter (sm lt x) = []:=by
    rw [List.filter_eq_nil_iff]
    exact fun z hz hz2=>he ⟨z,hz,hz2⟩
   rw [this];simp
theorem lV (h:sj lt) {L1 L2 R1 R2:List α} (hL:lS lt (L1 ++ L2)) (hR:lS lt (R1 ++ R2)) (h1:∀ x y,L1.getLast? = some x → R2.head? = some y → lt y x = false) (h2:∀ x y,R1.getLast? = some x → L2.head? = some y → lt x y = true) :
 fE lt ((L1 ++ L2) ++ (R1 ++ R2)) = fE lt (L1 ++ R1) ++ fE lt (L2 ++ R2):=by
 have hlast:∀ {l:List α},lS lt l → ∀ x ∈ l,∃ z,l.getLast? = some z ∧ lt z x = false:=by
  intro l hl x hx
  rcases List.eq_nil_or_concat l with e|⟨l',z,e⟩
  ·subst e;simp at hx
  ·rw [List.concat_eq_append] at e
   subst e
   refine ⟨z,by simp,?_⟩
   rcases List.mem_append.1 hx with q|q
   ·exact (List.pairwise_append.1 hl).2.2 x q z (by simp)
   ·simp at q;subst q;exact h.irr x
 have hhead:∀ {l:List α},lS lt l → ∀ x ∈ l,∃ z,l.head? = some z ∧ lt x z = false:=by
  intro l hl x hx
  cases l with
  | nil=>simp at hx
  | cons z l=>
   refine ⟨z,rfl,?_⟩
   rcases List.mem_cons.1 hx with q|q
   ·subst q;exact h.irr x
   ·exact (List.pairwise_cons.1 hl).1 x q
 have hL':=List.pairwise_append.1 hL
 have hR':=List.pairwise_append.1 hR
 refine H8 h hL hR (fun x hx y hy=>?_) (fun x hx y hy=>?_)
 ·obtain ⟨a,ha,ha2⟩:=hlast hL'.1 x hx
  obtain ⟨b,hb,hb2⟩:=hhead hR'.2.1 y hy
  exact h.ntr y b x hb2 (h.ntr b a x (h1 a b ha hb) ha2)
 ·obtain ⟨a,ha,ha2⟩:=hlast hR'.1 x hx
  obtain ⟨b,hb,hb2⟩:=hhead hL'.2.1 y hy
  exact h.lt_of (h.lt_of' (h2 a b ha hb) ha2) hb2
end
end Go.Proofs.YtliiahjpiagdkaaGreat
namespace Go.Proofs.YtliiahjpiagdkaaGreat
def aZ (r:Rg) (s:ByteArray):Bool:=eO r && (decide (r.lo ≤ s) && (r.op || decide (s < r.hi)))
def Ek (a b:Rg):Int:=if a.op && b.op then 0 else if a.op then 1 else if b.op then -1 else bu a.hi b.hi
def zV (out:List Rg) (r:Rg):List Rg:=match out.reverse with
 | []=>[r]
 | x :: z=>if x.op = false ∧ bu x.hi r.lo < 0 then out ++ [r] else if Ek x r < 0 then z.reverse ++ [⟨x.lo,r.hi,r.op⟩] else out
def ltR (x y:Rg):Bool:=decide (bu x.lo y.lo < 0)
theorem fZ {r:Rg} (h:eO r = true):r.op = true ∨ r.lo < r.hi:=by
 obtain ⟨_,_,h⟩:=(bT r).1 h
 cases ho:r.op with
 | true=>exact .inl rfl
 | false=>rw [ho] at h;exact .inr ((dz _ _).1 (by simpa using h))
inductive CI:List Rg → Prop
 | nil:CI []
 | one {x}:eO x = true → CI [x]
 | cons {x y z}:eO x = true → y.op = false → y.hi < x.lo → CI (y :: z) → CI (x :: y :: z)
theorem CI.head {x:Rg} {z:List Rg} (h:CI (x :: z)):eO x = true:=by
 cases h with
 | one h=>exact h
 | cons h _ _ _=>exact h
theorem CI.ok:∀ {l:List Rg},CI l → dr l.reverse:=by
 intro l h
 induction h with
 | nil=>intro i hi;simp at hi
 | one h=>
  intro i hi
  have:i = 0:=by simp at hi;omega
  subst this
  exact ⟨h,fun h=>absurd h (by omega)⟩
 | @cons x y z hx ho hl hc ih=>
  have e:(x :: y :: z).reverse = (y :: z).reverse ++ [x]:=by simp
  rw [e]
  intro i hi
  rw [List.length_append] at hi
  rcases Nat.lt_or_ge i (y :: z).reverse.length with q|q
  ·have:=ih i q
   refine ⟨?_,fun h0=>?_⟩
   ·rw [List.getElem_append_left q];exact this.1
   ·rw [List.getElem_append_left q,List.getElem_append_left (by omega)];exact this.2 h0
  ·have hi':i = (y :: z).reverse.length:=by simp at hi ⊢;simp at q;omega
   subst hi'
   refine ⟨?_,fun h0=>?_⟩
   ·rw [List.getElem_append_right (Nat.le_refl _)];simpa using hx
   ·rw [List.getElem_append_right (Nat.le_refl _),List.getElem_append_left (by omega)]
    simp only [List.length_reverse,List.length_cons,List.getElem_reverse,Nat.sub_self,List.getElem_cons_zero]
    exact ⟨by simpa using ho,(dz _ _).2 (by simpa using hl)⟩
theorem CI.ahead:∀ {x:Rg} {z:List Rg},CI (x :: z) → ∀ y ∈ z,y.op = false ∧ y.hi < x.lo:=by
 intro x z h
 induction z generalizing x with
 | nil=>intro y hy;cases hy
 | cons w z ih=>
  cases h with
  | cons hx ho hl hc=>
   intro y hy
   rcases List.mem_cons.1 hy with e|e
   ·subst e;exact ⟨ho,hl⟩
   ·obtain ⟨h1,h2⟩:=ih hc y e
    rcases fZ hc.head with q|q
    ·rw [ho] at q;cases q
    ·exact ⟨h1,by grind⟩
def bA (l:List Rg) (s:ByteArray):Bool:=l.any fun r=>aZ r s
theorem iv {r:Rg} (h:eO r = true) (s:ByteArray):aZ r s = (decide (r.lo ≤ s) && (r.op || decide (s < r.hi))):=by
 unfold aZ;rw [h];rfl
theorem H9 (Z:List Rg) (r:Rg) (h:CI Z) (hr:eO r = true) (hs:∀ x ∈ Z,x.lo ≤ r.lo) :
 CI (zV Z.reverse r).reverse ∧ (∀ x ∈ (zV Z.reverse r).reverse,x.lo ≤ r.lo) ∧ ∀ s,bA (zV Z.reverse r).reverse s = (bA Z s || aZ r s):=by
 unfold zV
 rw [List.reverse_reverse]
 cases Z with
 | nil=>
  refine ⟨.one hr,fun x hx=>?_,fun s=>?_⟩
  ·simp at hx;subst hx;grind
  ·simp [bA]
 | cons x z=>
  have hx:=h.head
  have hxl:=hs x List.mem_cons_self
  simp only
  split
  ·rename_i hc
   simp only [List.reverse_append,List.reverse_reverse,List.reverse_cons,List.reverse_nil,List.nil_append,List.singleton_append]
   refine ⟨.cons hr hc.1 hc.2 h,fun y hy=>?_,fun s=>?_⟩
   ·rcases List.mem_cons.1 hy with e|e
    ·subst e;grind
    ·exact hs y e
   ·simp only [bA,List.any_cons];rw [Bool.or_comm]
  ·rename_i hc
   have hE:Ek x r = (if x.op && r.op then 0 else if x.op then 1 else if r.op then -1 else bu x.hi r.hi):=rfl
   have hc':x.op = true ∨ r.lo ≤ x.hi:=by
    cases ho:x.op with
    | true=>exact .inl rfl
    | false=>
     refine .inr ?_
     rw [ho] at hc
     have:¬ x.hi < r.lo:=fun q=>hc ⟨rfl,q⟩
     grind
   have hxr:=fZ hx
   have hrr:=fZ hr
   split
   ·rename_i hd
    have hxo:x.op = false:=by
     cases ho:x.op with
     | false=>rfl
     | true=>rw [hE,ho] at hd;simp at hd;split at hd <;> omega
    have hro:r.op = true ∨ x.hi < r.hi:=by
     cases ho:r.op with
     | true=>exact .inl rfl
     | false=>rw [hE,hxo,ho] at hd;exact .inr ((dz _ _).1 (by simpa using hd))
    have hN:eO ⟨x.lo,r.hi,r.op⟩ = true:=by
     rw [bT]
     obtain ⟨a1,a2,a3⟩:=(bT x).1 hx
     obtain ⟨b1,b2,b3⟩:=(bT r).1 hr
     refine ⟨a1,b2,?_⟩
     simp only
     cases ho:r.op with
     | true=>rw [ho] at b3;simpa using b3
     | false=>
      rw [ho] at b3
      simp only [Bool.false_eq_true,if_false] at b3 ⊢
      rw [dz] at b3 ⊢
      grind
    simp only [List.reverse_append,List.reverse_reverse,List.reverse_cons,List.reverse_nil,List.nil_append,List.singleton_append]
    refine ⟨?_,fun y hy=>?_,fun s=>?_⟩
    ·cases h with
     | one _=>exact .one hN
     | cons _ ho hl hc=>exact .cons hN ho hl hc
    ·rcases List.mem_cons.1 hy with e|e
     ·subst e;exact hxl
     ·exact hs y (List.mem_cons_of_mem _ e)
    ·simp only [bA,List.any_cons]
     rw [iv hN,iv hx,iv hr]
     simp only
     rw [Bool.eq_iff_iff]
     simp only [Bool.or_eq_true,Bool.and_eq_true,decide_eq_true_eq,hxo,Bool.false_eq_true,false_or]
     grind
   ·rename_i hd
    have hxo:x.op = true ∨ (r.op = false ∧ r.hi ≤ x.hi):=by
     cases ho:x.op with
     | true=>exact .inl rfl
     | false=>
      rw [hE,ho] at hd
      cases hp:r.op with
      | true=>rw [hp] at hd;simp at hd
      | false=>rw [hp] at hd;refine .inr ⟨rfl,?_⟩;simp only [Bool.false_and,Bool.false_eq_true,if_false] at hd;rw [dz] at hd;grind
    rw [List.reverse_reverse]
    refine ⟨h,hs,fun s=>?_⟩
    simp only [bA,List.any_cons]
    rw [iv hx,iv hr,Bool.eq_iff_iff]
    simp only [Bool.or_eq_true,Bool.and_eq_true,decide_eq_true_eq]
    grind
theorem LD:∀ (L Z:List Rg),CI Z → (∀ r ∈ L,eO r = true) → L.Pairwise (fun x y=>x.lo ≤ y.lo) → (∀ x ∈ Z,∀ r ∈ L,x.lo ≤ r.lo) →
 CI (L.foldl zV Z.reverse).reverse ∧ ∀ s,bA (L.foldl zV Z.reverse).reverse s = (bA Z s || bA L s):=by
 intro L
 induction L with
 | nil=>intro Z h _ _ _;simp [h,bA]
 | cons r L ih=>
  intro Z h hR hS hZ
  obtain ⟨p1,p2⟩:=List.pairwise_cons.1 hS
  obtain ⟨h1,h2,h3⟩:=H9 Z r h (hR r List.mem_cons_self) (fun x hx=>hZ x hx r List.mem_cons_self)
  have h4:=ih (zV Z.reverse r).reverse h1 (fun x hx=>hR x (List.mem_cons_of_mem _ hx)) p2 (fun x hx y hy=>by have:=h2 x hx;have:=p1 y hy;grind)
  rw [List.reverse_reverse] at h4
  refine ⟨h4.1,fun s=>?_⟩
  rw [List.foldl_cons,h4.2 s,h3 s]
  simp only [bA,List.any_cons,Bool.or_assoc]
theorem Ia (l:List Rg) (s:ByteArray):bA l.reverse s = bA l s:=by unfold bA;rw [List.any_reverse]
def gA (l:List Rg):List Rg:=l.foldl zV []
theorem yA {L:List Rg} (hR:∀ r ∈ L,eO r = true) (hS:L.Pairwise (fun x y=>x.lo ≤ y.lo)):dr (gA L) ∧ ∀ s,bA (gA L) s = bA L s:=by
 have h:=LD L [] .nil hR hS (fun x hx=>by cases hx)
 refine ⟨?_,fun s=>?_⟩
 ·have:=h.1.ok;rw [List.reverse_reverse] at this;exact this
 ·have:=h.2 s;rw [Ia] at this;rw [gA];exact this.trans (by simp [bA])
theorem LF (out:List Rg) (r:Rg):(zV out r).length ≤ out.length + 1:=by
 unfold zV
 split
 ·simp
 ·rename_i x z h
  have e:out.length = z.length + 1:=by rw [← List.length_reverse,h];rfl
  split
  ·simp
  ·split
   ·simp;omega
   ·omega
theorem Ib:∀ (L out:List Rg),(L.foldl zV out).length ≤ out.length + L.length:=by
 intro L
 induction L with
 | nil=>intro out;simp
 | cons r L ih=>intro out;rw [List.foldl_cons,List.length_cons];have:=ih (zV out r);have:=LF out r;omega
theorem CJ {l:List Rg} (h:dr l) (s:ByteArray):∃ p,p ≤ l.length ∧ ∀ j (hj:j < l.length),((l[j].op = true ∨ s < l[j].hi) ↔ p ≤ j):=by
 have up:∀ j (hj:j + 1 < l.length),(l[j].op = true ∨ s < l[j].hi) → (l[j + 1].op = true ∨ s < l[j + 1].hi):=by
  intro j hj hs
  have h1:=(h (j + 1) hj).2 (by omega)
  have h2:=fZ (h (j + 1) hj).1
  simp only [Nat.add_sub_cancel] at h1
  rw [dz] at h1
  grind
 have hB:∀ n,n ≤ l.length → ∃ p,p ≤ n ∧ ∀ j (hj:j < l.length),j < n → ((l[j].op = true ∨ s < l[j].hi) ↔ p ≤ j):=by
  intro n
  induction n with
  | zero=>intro _;exact ⟨0,Nat.le_refl _,fun j _ h=>absurd h (Nat.not_lt_zero _)⟩
  | succ n ih=>
   intro hn
   obtain ⟨p,hp,hq⟩:=ih (by omega)
   by_cases hb:l[n].op = true ∨ s < l[n].hi
   ·refine ⟨p,by omega,fun j hj hjn=>?_⟩
    rcases Nat.lt_or_ge j n with q|q
    ·exact hq j hj q
    ·obtain rfl:j = n:=by omega
     exact ⟨fun _=>by omega,fun _=>hb⟩
   ·refine ⟨n + 1,by omega,fun j hj hjn=>?_⟩
    rcases Nat.lt_or_ge j n with q|q
    ·refine ⟨fun hx=>?_,fun hx=>by omega⟩
     exfalso
     have:∀ d,j + d ≤ n → ∃ hd:j + d < l.length,(l[j + d].op = true ∨ s < l[j + d].hi):=by
      intro d
      induction d with
      | zero=>intro _;exact ⟨hj,hx⟩
      | succ d ihd=>
       intro hd
       obtain ⟨h1,h2⟩:=ihd (by omega)
       exact ⟨by omega,up (j + d) (by omega) h2⟩
     obtain ⟨h1,h2⟩:=this (n - j) (by omega)
     have e:j + (n - j) = n:=by omega
     simp only [e] at h2
     exact hb h2
    ·obtain rfl:j = n:=by omega
     exact ⟨fun hx=>absurd hx hb,fun hx=>by omega⟩
 obtain ⟨p,h1,h2⟩:=hB l.length (Nat.le_refl _)
 exact ⟨p,h1,fun j hj=>h2 j hj hj⟩
theorem Ic {l:List Rg} (h:dr l) {s:ByteArray} {p:Nat} (hp:∀ j (hj:j < l.length),((l[j].op = true ∨ s < l[j].hi) ↔ p ≤ j)) :
 bA l s = (match l[p]? with|some r=>aZ r s|none=>false):=by
 have ch:∀ d j (hj:j + d + 1 < l.length),l[j].op = false ∧ l[j].hi < l[j + d + 1].lo:=by
  intro d
  induction d with
  | zero=>intro j hj;have:=(h (j + 1) hj).2 (by omega);simp only [Nat.add_sub_cancel] at this;exact this
  | succ d ih=>
   intro j hj
   obtain ⟨a,b⟩:=ih j (by omega)
   have c:=(h (j + d + 1 + 1) (by omega)).2 (by omega)
   have e:=fZ (h (j + d + 1) (by omega)).1
   simp only [Nat.add_sub_cancel] at c
   rw [dz] at c
   refine ⟨a,?_⟩
   show l[j].hi < l[j + d + 1 + 1].lo
   grind
 rw [Bool.eq_iff_iff]
 unfold bA
 rw [List.any_eq_true]
 constructor
 ·rintro ⟨r,hr,hs⟩
  obtain ⟨j,hj,rfl⟩:=List.getElem_of_mem hr
  have hjr:=(h j hj).1
  rw [iv hjr] at hs
  simp only [Bool.and_eq_true,Bool.or_eq_true,decide_eq_true_eq] at hs
  have hpj:=(hp j hj).1 hs.2
  rcases Nat.lt_or_ge p j with q|q
  ·exfalso
   have hpl:p < l.length:=by omega
   have:=(hp p hpl).2 (Nat.le_refl _)
   obtain ⟨d,rfl⟩:∃ d,j = p + d + 1:=⟨j - p - 1,by omega⟩
   obtain ⟨a,b⟩:=ch d p hj
   grind
  ·obtain rfl:p = j:=by omega
   rw [List.getElem?_eq_getElem hj]
   simp only
   rw [iv hjr]
   simp only [Bool.and_eq_true,Bool.or_eq_true,decide_eq_true_eq]
   exact hs
 ·intro hs
  rcases Nat.lt_or_ge p l.length with q|q
  ·rw [List.getElem?_eq_getElem q] at hs
   exact ⟨l[p],List.getElem_mem q,hs⟩
  ·rw [List.getElem?_eq_none q] at hs;cases hs
theorem pM:sj ltR:=by
 refine ⟨fun x=>?_,fun x y z h1 h2=>?_,fun x y z h1 h2=>?_⟩ <;> simp only [ltR,decide_eq_true_eq,decide_eq_false_iff_not,dz] at * <;> grind
def sn (l:List Rg):List Rg:=gA (fE ltR (l.filter eO))
theorem mW (l:List Rg):dr (sn l) ∧ ∀ s,bA (sn l) s = bA l s:=by
 have hS:=(dl pM (l.filter eO)).1
 obtain ⟨h1,h2⟩:=yA (L:=fE ltR (l.filter eO)) (fun r hr=>(List.mem_filter.1 ((lU pM).1 hr)).2)
  (hS.imp fun {x y} h=>by simp only [ltR,decide_eq_false_iff_not,dz] at h;grind)
 refine ⟨h1,fun s=>(h2 s).trans ?_⟩
 unfold bA
 rw [Bool.eq_iff_iff,List.any_eq_true,List.any_eq_true]
 constructor
 ·rintro ⟨r,hr,hs⟩
  exact ⟨r,(List.mem_filter.1 ((lU pM).1 hr)).1,hs⟩
 ·rintro ⟨r,hr,hs⟩
  refine ⟨r,(lU pM).2 (List.mem_filter.2 ⟨hr,?_⟩),hs⟩
  unfold aZ at hs
  exact (Bool.and_eq_true _ _ ▸ hs).1
theorem sq (l:List Rg):(sn l).length ≤ l.length:=by
 have h1:=Ib (fE ltR (l.filter eO)) []
 have h2:=List.length_filter_le eO l
 rw [oT] at h1
 simp only [List.length_nil] at h1
 unfold sn gA
 omega
end Go.Proofs.YtliiahjpiagdkaaGreat
