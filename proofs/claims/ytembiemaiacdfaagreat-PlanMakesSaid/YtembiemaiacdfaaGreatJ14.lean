/- Texts joined: RnE Swp CntS FtM VsE Stab. -/
import Derived.Test.YtembiemaiacdfaaGreatJ12
import Derived.Test.YtembiemaiacdfaaGreatJ05
import Derived.Test.YtembiemaiacdfaaGreatJ13
import Derived.Test.YtembiemaiacdfaaGreatJ07
import Derived.Test.YtembiemaiacdfaaGreatJ01
set_option maxRecDepth 10000
set_option maxHeartbeats 8000000
namespace Go.Proofs.YtembiemaiacdfaaGreat
def cw (l:List Rn) (n:Int):Bool:=l.any fun r=>fV r && (decide (r.fr ≤ n) && decide (n ≤ r.to))
theorem fO (l:List Rn) (n:Int):cw l n = true ↔ dS l n:=by
 unfold cw dS
 rw [List.any_eq_true]
 simp
def fA:List Int → Int → List Int
 | [],n=>[n]
 | x :: l,n=>if x < n then x :: fA l n else if x = n then x :: l else n :: x :: l
theorem qh:∀ (l:List Int) (n m:Int),m ∈ fA l n ↔ m = n ∨ m ∈ l:=by
 intro l
 induction l with
 | nil=>intro n m;simp [fA]
 | cons x l ih=>
   intro n m
   rw [fA]
   split
   · simp only [List.mem_cons,ih]
     constructor
     · rintro (h|h|h) <;> simp [h]
     · rintro (h|h|h) <;> simp [h]
   · split
     · rename_i e
       subst e
       simp
     · simp
abbrev Ek (l:List Int):Prop:=l.Pairwise (· < ·)
theorem zD:∀ (l:List Int) (n:Int),Ek l → Ek (fA l n):=by
 intro l
 induction l with
 | nil=>intro n _;simp [fA]
 | cons x l ih=>
   intro n h
   obtain ⟨h1,h2⟩:=List.pairwise_cons.1 h
   rw [fA]
   split
   · rename_i c
     refine List.pairwise_cons.2 ⟨fun z hz=>?_,ih n h2⟩
     rcases (qh _ _ _).1 hz with rfl|hz
     · exact c
     · exact h1 z hz
   · split
     · exact h
     · refine List.pairwise_cons.2 ⟨fun z hz=>?_,h⟩
       rcases List.mem_cons.1 hz with rfl|hz
       · omega
       · have:=h1 z hz;omega
def mQ (e:List Int) (r:Rn):List Int:=if fV r then fA (fA e r.fr) (r.to + 1) else e
def dP (e:List Int) (l:List Rn):List Int:=l.foldl mQ e
theorem Ic {e:List Int} {r:Rn} (h:Ek e):Ek (mQ e r):=by
 unfold mQ;split
 · exact zD _ _ (zD _ _ h)
 · exact h
theorem pa:∀ (l:List Rn) (e:List Int),Ek e → Ek (dP e l):=by
 intro l
 induction l with
 | nil=>intro e h;exact h
 | cons r l ih=>intro e h;exact ih _ (Ic h)
theorem vL:∀ (l:List Rn) (e:List Int) (m:Int),m ∈ dP e l ↔ m ∈ e ∨ ∃ r ∈ l,fV r = true ∧ (m = r.fr ∨ m = r.to + 1):=by
 intro l
 induction l with
 | nil=>intro e m;simp [dP]
 | cons r l ih=>
   intro e m
   show m ∈ dP (mQ e r) l ↔ _
   rw [ih]
   unfold mQ
   by_cases c:fV r = true
   · rw [if_pos c,qh,qh]
     constructor
     · rintro ((h|h|h)|⟨x,hx,h⟩)
       · exact .inr ⟨r,by simp,c,.inr h⟩
       · exact .inr ⟨r,by simp,c,.inl h⟩
       · exact .inl h
       · exact .inr ⟨x,by simp [hx],h⟩
     · rintro (h|⟨x,hx,h⟩)
       · exact .inl (.inr (.inr h))
       · rcases List.mem_cons.1 hx with rfl|hx
         · rcases h.2 with h|h
           · exact .inl (.inr (.inl h))
           · exact .inl (.inl h)
         · exact .inr ⟨x,hx,h⟩
   · rw [if_neg c]
     constructor
     · rintro (h|⟨x,hx,h⟩)
       · exact .inl h
       · exact .inr ⟨x,by simp [hx],h⟩
     · rintro (h|⟨x,hx,h⟩)
       · exact .inl h
       · rcases List.mem_cons.1 hx with rfl|hx
         · exact absurd h.1 c
         · exact .inr ⟨x,hx,h⟩
theorem mR:∀ (l:List Rn) (e:List Int),(dP e l).length ≤ e.length + 2 * l.length:=by
 have h1:∀ (l:List Int) (n:Int),(fA l n).length ≤ l.length + 1:=by
   intro l
   induction l with
   | nil=>intro n;simp [fA]
   | cons x l ih=>
     intro n
     rw [fA]
     split
     · have:=ih n;simp;omega
     · split <;> simp
 intro l
 induction l with
 | nil=>intro e;simp [dP]
 | cons r l ih=>
   intro e
   show (dP (mQ e r) l).length ≤ _
   have h2:=ih (mQ e r)
   have h3:(mQ e r).length ≤ e.length + 2:=by
     unfold mQ
     split
     · have a:=h1 (fA e r.fr) (r.to + 1)
       have b:=h1 e r.fr
       omega
     · omega
   rw [List.length_cons];omega
def gq (f:Int → Bool):List Int → List Rn
 | e :: e' :: E=>(if f e then [⟨e,e' - 1⟩] else []) ++ gq f (e' :: E)
 | _=>[]
theorem mS (f:Int → Bool):∀ (E:List Int) (e:Int),Ek (e :: E) → (∀ m ∈ e :: E,1 ≤ m ∧ m ≤ 1099511627777) → ∀ r ∈ gq f (e :: E),fV r = true ∧ e ≤ r.fr:=by
 intro E
 induction E with
 | nil=>intro e _ _ r hr;simp [gq] at hr
 | cons e' E ih=>
   intro e h hm r hr
   obtain ⟨h1,h2⟩:=List.pairwise_cons.1 h
   have h3:=h1 e' (by simp)
   rw [gq,List.mem_append] at hr
   rcases hr with hr|hr
   · split at hr
     · have hr:r = ⟨e,e' - 1⟩:=by simpa using hr
       subst hr
       have a:=hm e (by simp)
       have b:=hm e' (by simp)
       exact ⟨(br _).2 (by simp only;omega),Int.le_refl _⟩
     · simp at hr
   · have:=ih e' h2 (fun m hm'=>hm m (by simp at hm' ⊢;exact .inr hm')) r hr
     exact ⟨this.1,by omega⟩
theorem El (f:Int → Bool):∀ (E:List Int),Ek E → (∀ m ∈ E,1 ≤ m ∧ m ≤ 1099511627777) → ru (gq f E):=by
 intro E
 induction E with
 | nil=>intro _ _;exact List.Pairwise.nil
 | cons e E ih=>
   intro h hm
   cases E with
   | nil=>exact List.Pairwise.nil
   | cons e' E=>
     obtain ⟨h1,h2⟩:=List.pairwise_cons.1 h
     have hm':∀ m ∈ e' :: E,1 ≤ m ∧ m ≤ 1099511627777:=fun m q=>hm m (by simp at q ⊢;exact .inr q)
     have h3:=ih h2 hm'
     rw [gq]
     split
     · refine List.pairwise_cons.2 ⟨fun z hz=>?_,h3⟩
       have:=(mS f E e' h2 hm' z hz).2
       have:=h1 e' (by simp)
       simp only;omega
     · exact h3
structure Mb (f:Int → Bool) (M:Int → Prop):Prop where
 mid:∀ e n,e ≤ n → (∀ m,M m → m ≤ e ∨ n < m) → f e = f n
 lo:∀ n,(∀ m,M m → n < m) → f n = false
 hi:∀ n,(∀ m,M m → m ≤ n) → f n = false
theorem Em {f:Int → Bool} {M:Int → Prop} (hf:Mb f M):∀ (E:List Int) (e:Int),Ek (e :: E) → (∀ m ∈ e :: E,1 ≤ m ∧ m ≤ 1099511627777) → (∀ m,M m → m ≤ e ∨ m ∈ E) → ∀ n,e ≤ n → (dS (gq f (e :: E)) n ↔ f n = true):=by
 intro E
 induction E with
 | nil=>
   intro e _ _ hM n hn
   have : f n = false := hf.hi n (fun m hm => by rcases hM m hm with h | h; · omega
                                                 · simp at h)
   rw [this]
   simp [gq,dU]
 | cons e' E ih=>
   intro e h hm hM n hn
   obtain ⟨h1,h2⟩:=List.pairwise_cons.1 h
   have h3:=h1 e' (by simp)
   have hm':∀ m ∈ e' :: E,1 ≤ m ∧ m ≤ 1099511627777:=fun m q=>hm m (by simp at q ⊢;exact .inr q)
   obtain ⟨h4,_⟩:=List.pairwise_cons.1 h2
   have a:=hm e (by simp)
   have b:=hm e' (by simp)
   rw [gq,iq]
   by_cases c:n < e'
   · have hno:¬ dS (gq f (e' :: E)) n:=fun ⟨r,hr,_,q,_⟩=>by
       have:=(mS f E e' h2 hm' r hr).2
       omega
     have he:f e = f n:=hf.mid e n hn (fun m q=>by
       rcases hM m q with z|z
       · exact .inl z
       · rcases List.mem_cons.1 z with rfl|z
         · exact .inr c
         · have:=h4 m z
           exact .inr (by omega))
     rw [← he]
     constructor
     · rintro (q|q)
       · split at q
         · assumption
         · exact absurd q (dU n)
       · exact absurd q hno
     · intro q
       rw [if_pos q]
       exact .inl ((bq _ _ _).2 (.inl ⟨(br _).2 (by simp only;omega),hn,by simp only;omega⟩))
   · rw [ih e' h2 hm' (fun m q=>by
       rcases hM m q with z|z
       · exact .inl (by omega)
       · rcases List.mem_cons.1 z with rfl|z
         · exact .inl (Int.le_refl _)
         · exact .inr z) n (by omega)]
     constructor
     · rintro (q|q)
       · split at q
         · rcases (bq _ _ _).1 q with q|q
           · simp only at q;omega
           · exact absurd q (dU n)
         · exact absurd q (dU n)
       · exact q
     · exact .inr
def Ie (f:Int → Bool) (a b:List Rn):List Rn:=jd (gq f (dP (dP [] a) b))
def tz (keep:Bool → Bool → Bool) (a b:List Rn) (n:Int):Bool:=keep (cw a n) (cw b n)
abbrev Ig (a b:List Rn) (m:Int):Prop:=m ∈ dP (dP [] a) b
theorem mT (a b:List Rn) (m:Int):Ig a b m ↔ (∃ r ∈ a,fV r = true ∧ (m = r.fr ∨ m = r.to + 1)) ∨ ∃ r ∈ b,fV r = true ∧ (m = r.fr ∨ m = r.to + 1):=by
 unfold Ig
 rw [vL,vL]
 simp
theorem sa {l:List Rn} {e n:Int} (hen:e ≤ n) (h:∀ r ∈ l,fV r = true → (r.fr ≤ e ∨ n < r.fr) ∧ (r.to + 1 ≤ e ∨ n < r.to + 1)):cw l e = cw l n:=by
 rw [Bool.eq_iff_iff,fO,fO]
 refine ⟨fun ⟨r,hr,c,q⟩=>?_,fun ⟨r,hr,c,q⟩=>?_⟩
 · have:=h r hr c
   exact ⟨r,hr,c,by omega,by omega⟩
 · have:=h r hr c
   exact ⟨r,hr,c,by omega,by omega⟩
theorem mU {l:List Rn} {n:Int} (h:∀ r ∈ l,fV r = true → n < r.fr ∨ r.to + 1 ≤ n):cw l n = false:=by
 rw [← Bool.not_eq_true,fO]
 rintro ⟨r,hr,c,q⟩
 have:=h r hr c
 omega
theorem Ih {keep:Bool → Bool → Bool} (hk:keep false false = false) (a b:List Rn):Mb (tz keep a b) (Ig a b):=by
 have inA:∀ r ∈ a,fV r = true → Ig a b r.fr ∧ Ig a b (r.to + 1):=fun r hr c=>⟨(mT _ _ _).2 (.inl ⟨r,hr,c,.inl rfl⟩),(mT _ _ _).2 (.inl ⟨r,hr,c,.inr rfl⟩)⟩
 have inB:∀ r ∈ b,fV r = true → Ig a b r.fr ∧ Ig a b (r.to + 1):=fun r hr c=>⟨(mT _ _ _).2 (.inr ⟨r,hr,c,.inl rfl⟩),(mT _ _ _).2 (.inr ⟨r,hr,c,.inr rfl⟩)⟩
 refine ⟨fun e n hen h=>?_,fun n h=>?_,fun n h=>?_⟩
 · unfold tz
   rw [sa hen (fun r hr c=>⟨h _ (inA r hr c).1,h _ (inA r hr c).2⟩),sa hen (fun r hr c=>⟨h _ (inB r hr c).1,h _ (inB r hr c).2⟩)]
 · unfold tz
   rw [mU (fun r hr c=>.inl (h _ (inA r hr c).1)),mU (fun r hr c=>.inl (h _ (inB r hr c).1)),hk]
 · unfold tz
   rw [mU (fun r hr c=>.inr (h _ (inA r hr c).2)),mU (fun r hr c=>.inr (h _ (inB r hr c).2)),hk]
theorem zF {a b:List Rn} {m:Int} (h:Ig a b m):1 ≤ m ∧ m ≤ 1099511627777:=by
 rcases (mT _ _ _).1 h with ⟨r,_,c,q⟩|⟨r,_,c,q⟩ <;>
 · have:=(br r).1 c
   omega
theorem En {keep:Bool → Bool → Bool} (hk:keep false false = false) (a b:List Rn):cH (Ie (tz keep a b) a b) ∧ ∀ n,dS (Ie (tz keep a b) a b) n ↔ tz keep a b n = true:=by
 have hc:=Ih hk a b
 have hup:Ek (dP (dP [] a) b):=pa _ _ (pa _ _ List.Pairwise.nil)
 have hrg:∀ m ∈ dP (dP [] a) b,1 ≤ m ∧ m ≤ 1099511627777:=fun m hm=>zF hm
 unfold Ie
 unfold Ig at hc
 generalize tz keep a b = f at *
 generalize dP (dP [] a) b = E at *
 have hR:∀ r ∈ gq f E,fV r = true:=fun r hr=>by
   cases E with
   | nil=>simp [gq] at hr
   | cons e E=>exact (mS f E e hup hrg r hr).1
 have h1:=lj (El f E hup hrg) hR
 refine ⟨h1.1,fun n=>?_⟩
 rw [h1.2 n]
 cases E with
 | nil=>
   rw [hc.lo n (fun m hm=>by simp at hm)]
   simp [gq,dU]
 | cons e E=>
   by_cases q:e ≤ n
   · exact Em hc E e hup hrg (fun m hm=>by
       rcases List.mem_cons.1 hm with rfl|hm
       · exact .inl (Int.le_refl _)
       · exact .inr hm) n q
   · rw [hc.lo n (fun m hm=>by
       rcases List.mem_cons.1 hm with rfl|hm
       · omega
       · have:=(List.pairwise_cons.1 hup).1 m hm;omega)]
     refine ⟨fun ⟨r,hr,_,z,_⟩=>?_,fun z=>by cases z⟩
     have:=(mS f E e hup hrg r hr).2
     omega
theorem Eo {keep:Bool → Bool → Bool} (hk:keep false false = false) {a b m:List Rn} (h:cH m) (e:∀ n,dS m n ↔ tz keep a b n = true):Ie (tz keep a b) a b = m:=
 p7 (En hk a b).1 h (fun n=>((En hk a b).2 n).trans (e n).symm)
theorem J9 (a b:List Rn):Ie (tz (fun x y=>x || y) a b) a b = ofR (a ++ b):=by
 refine Eo rfl (lX _) (fun n=>?_)
 rw [fk,iq,tz,Bool.or_eq_true,fO,fO]
end Go.Proofs.YtembiemaiacdfaaGreat
namespace Go.Proofs.YtembiemaiacdfaaGreat
structure LR (l:List Rn) (a:Int) (i:Nat):Prop where
 le:i ≤ l.length
 lo:∀ j (h:j < l.length),j < i → l[j].to < a
 hi:∀ j (h:j < l.length),i ≤ j → a ≤ l[j].to
def LC (l:List Rn) (i:Nat) (a:Int):Nat:=2 * i + (if h:i < l.length then (if l[i].fr ≤ a then 1 else 0) else 0)
section
variable {l:List Rn} {a e:Int} {i:Nat}
theorem Ep (h:i ≤ l.length):LC l i a ≤ 2 * l.length:=by
 unfold LC;split
 · split <;> omega
 · omega
end
structure LD (keep:Bool → Bool → Bool) (A B:List Rn) (a:Int) (i k:Nat) (out:List Rn):Prop where
 pos:1 ≤ a
 p:LR A a i
 q:LR B a k
 right:∀ r ∈ out,fV r = true
 has:∀ n,dS out n ↔ n < a ∧ tz keep A B n = true
 few:out.length ≤ LC A i a + LC B k a
theorem LD.done {keep:Bool → Bool → Bool} (hk:keep false false = false) {A B:List Rn} {a:Int} {i k:Nat} {out:List Rn} (s:LD keep A B a i k out) (h:¬ a ≤ 1099511627776 ∨ ¬ i < A.length ∧ ¬ k < B.length) :
   ofR out = Ie (tz keep A B) A B:=by
 refine (Eo hk (lX out) (fun n=>?_)).symm
 rw [fk,s.has n]
 refine ⟨fun q=>q.2,fun q=>⟨?_,q⟩⟩
 refine Classical.byContradiction fun z=>?_
 have no:∀ {l:List Rn} {i:Nat},LR l a i → (¬ a ≤ 1099511627776 ∨ ¬ i < l.length) → cw l n = false:=fun {l i} p h=>by
   rw [← Bool.not_eq_true,fO]
   intro w
   have w':=D7 w
   obtain ⟨r,hr,_,w1⟩:=w
   obtain ⟨j,hj,rfl⟩:=List.getElem_of_mem hr
   rcases h with h|h
   · omega
   · have:=p.lo j hj (by omega);omega
 rw [tz,no s.p (h.imp id (·.1)),no s.q (h.imp id (·.2)),hk] at q
 cases q
theorem LD.len {keep:Bool → Bool → Bool} {A B:List Rn} {a:Int} {i k:Nat} {out:List Rn} (s:LD keep A B a i k out):out.length ≤ 2 * (A.length + B.length):=by
 have h1:=s.few
 have h2:=Ep (a:=a) s.p.le
 have h3:=Ep (a:=a) s.q.le
 omega
section
variable {P:Program} {n t:Nat} {ops:Array Oper} {o:Oper} {S:St}
end
section
end
def KZ:Cnt → Bool
 | .per _=>true
 | .bor _ _=>true
 | _=>false
theorem Er {C:Ctx} {w:World} {c:Cnt} (hc:KZ c = true) {v:Value} (h:crep C z0 C.G0 w v c):crep ⟨w,fun b=>C.N0 b ∨ C.G0.ow b ≠ none,fun _=>False,g0⟩ (fun _=>0) g0 w v c:=by
 have hn:∀ b,b < w.heap.size → Gh.N g0 ⟨w,fun b=>C.N0 b ∨ C.G0.ow b ≠ none,fun _=>False,g0⟩ b → C.G0.N C b:=fun b _ q=>by
   rcases q with q|q
   · exact q
   · exact absurd rfl q
 cases c with
 | per A=>exact A.mono (Nat.le_refl _) (fun _ _ _=>rfl) hn h
 | bor k es=>exact di.mono (Nat.le_refl _) (fun _ _ _=>rfl) (fun _ _ _=>rfl) (fun b _ q=>absurd rfl q) hn h
 | _=>cases hc
theorem Fn.toM {P:Program} {f:FuncId} {As:List Cnt} {A:PV} (h:Fn P f As (.per A)) (hA:As.all KZ = true:=by rfl):dY P f As [] (.per A) []:=by
 refine ⟨h.ent,?_⟩
 intro C w vs _ hN hO hl hvs _
 refine (h.run (fun b=>C.N0 b ∨ C.G0.ow b ≠ none) w vs (fun b q=>?_) ⟨hl,fun i v c h1 h2=>Er (List.all_eq_true.1 hA c (List.mem_of_getElem? h2)) (hvs i v c h1 h2)⟩).mono ?_
 · rcases q with q|q
   · exact (hN b q).1
   · obtain ⟨id,e⟩:=Option.ne_none_iff_exists'.1 q
     exact (hO b id e).1
 · rintro e w' ⟨v,rfl,hx,hr⟩
   refine ⟨v,C.G0,rfl,⟨hx.os,hx.tape,hx.output,hx.size,fun b hb _=>hx.block b hb,fun b id q=>⟨Nat.lt_of_lt_of_le (hO b id q).1 hx.size,.inr (hO b id q).2⟩,fun _ _=>⟨rfl,rfl⟩⟩,?_,fun id=>trivial⟩
   exact hr
abbrev lG (l:List Kn):Ret:=.own 130 2 (l.map zv)
theorem x4 (s:List Kn) (hs:cC s):∀ l ∈ bT s,l.length ≤ 1000000000:=fun l hl=>by
 obtain ⟨r,_,rfl⟩:=List.mem_map.1 hl
 have:=eX s r
 have:=hs.2
 omega
theorem vM {F:Cnt → Cnt} (h:∀ A,F (.per A) = .per A) {T:List (List Rn)}:(gC T).map F = gC T:=by
 unfold gC
 rw [List.map_map]
 exact List.map_congr_left fun x _=>h _
section
theorem Ii (s:List Kn) (hs:cC s):Fn Tryz.prog 148 [dZ s] (lG (fa ofR s)):=
 Jy ofR s hs (fun l hl=>tx l (x4 s hs l hl))
def qi (s:List Kn):Prop:=s.length ≤ 100000000 ∧ (s.flatMap Kn.runs).length ≤ 100000000
theorem qi.tot {s:List Kn} (h:qi s):cC s:=⟨by have:=h.1;omega,by have:=h.2;omega⟩
end
end Go.Proofs.YtembiemaiacdfaaGreat
namespace Go.Proofs.YtembiemaiacdfaaGreat
structure oT {α:Type} (lt:α → α → Bool):Prop where
 irr:∀ x,lt x x = false
 tr:∀ x y z,lt x y = true → lt y z = true → lt x z = true
 ntr:∀ x y z,lt x y = false → lt y z = false → lt x z = false
section
variable {α:Type} {lt:α → α → Bool}
def pb (lt:α → α → Bool) (x y:α):Bool:=!lt x y && !lt y x
def iO (lt:α → α → Bool) (l:List α):Prop:=l.Pairwise fun x y=>lt y x = false
def eG (lt:α → α → Bool) (M N:List α):Prop:=∀ x,N.filter (pb lt x) = M.filter (pb lt x)
theorem oT.lt_of (h:oT lt) {x y z:α} (h1:lt x y = true) (h2:lt z y = false):lt x z = true:=by
 cases hxz:lt x z with
 | true=>rfl
 | false=>have:=h.ntr x z y hxz h2;rw [h1] at this;cases this
theorem oT.lt_of' (h:oT lt) {x y z:α} (h1:lt x y = true) (h2:lt x z = false):lt z y = true:=by
 cases hzy:lt z y with
 | true=>rfl
 | false=>have:=h.ntr x z y h2 hzy;rw [h1] at this;cases this
theorem oT.asym (h:oT lt) {x y:α} (h1:lt x y = true):lt y x = false:=by
 cases hyx:lt y x with
 | false=>rfl
 | true=>have:=h.tr x y x h1 hyx;rw [h.irr] at this;cases this
theorem qj (h:oT lt) (x:α):pb lt x x = true:=by simp [pb,h.irr]
theorem nU (h:oT lt) {x y z:α} (h1:pb lt x y = true):pb lt y z = pb lt x z:=by
 simp only [pb,Bool.and_eq_true,Bool.not_eq_true'] at h1
 unfold pb
 have e1:lt y z = lt x z:=by
   cases hb:lt y z with
   | true=>exact (h.lt_of' hb h1.2).symm
   | false=>exact (h.ntr x y z h1.1 hb).symm
 have e2:lt z y = lt z x:=by
   cases hb:lt z y with
   | true=>exact (h.lt_of hb h1.1).symm
   | false=>exact (h.ntr z y x hb h1.2).symm
 rw [e1,e2]
theorem eG.refl (M:List α):eG lt M M:=fun _=>rfl
theorem eG.trans {M N O:List α} (h1:eG lt M N) (h2:eG lt N O):eG lt M O:=fun x=>(h2 x).trans (h1 x)
theorem eG.symm {M N:List α} (h1:eG lt M N):eG lt N M:=fun x=>(h1 x).symm
theorem eG.app {M N M' N':List α} (h1:eG lt M N) (h2:eG lt M' N'):eG lt (M ++ M') (N ++ N'):=fun x=>by
 rw [List.filter_append,List.filter_append,h1 x,h2 x]
theorem eG.mem (h:oT lt) {M N:List α} (h1:eG lt M N) {x:α} (hx:x ∈ N):x ∈ M:=by
 have:x ∈ N.filter (pb lt x):=List.mem_filter.2 ⟨hx,qj h x⟩
 rw [h1 x] at this
 exact (List.mem_filter.1 this).1
theorem eG.mem' (h:oT lt) {M N:List α} (h1:eG lt M N) {x:α} (hx:x ∈ M):x ∈ N:=h1.symm.mem h hx
theorem iO.uniq (h:oT lt):∀ {M N:List α},iO lt M → iO lt N → eG lt M N → M = N:=by
 intro M
 induction M with
 | nil=>
   intro N _ _ ha
   cases N with
   | nil=>rfl
   | cons y N=>exact absurd (ha.mem h List.mem_cons_self) (by simp)
 | cons x M ih=>
   intro N hM hN ha
   cases N with
   | nil=>exact absurd (ha.mem' h (x:=x) List.mem_cons_self) (by simp)
   | cons y N=>
     have hM':=List.pairwise_cons.1 hM
     have hN':=List.pairwise_cons.1 hN
     have hyM:=ha.mem h (x:=y) List.mem_cons_self
     have hxN:=ha.mem' h (x:=x) List.mem_cons_self
     have h1:lt y x = false:=by
       rcases List.mem_cons.1 hyM with e|e
       · rw [e];exact h.irr x
       · exact hM'.1 y e
     have h2:lt x y = false:=by
       rcases List.mem_cons.1 hxN with e|e
       · rw [e];exact h.irr y
       · exact hN'.1 x e
     have hE:pb lt x y = true:=by simp [pb,h1,h2]
     have hx:=ha x
     rw [List.filter_cons_of_pos hE,List.filter_cons_of_pos (qj h x)] at hx
     injection hx with e1 e2
     subst e1
     rw [ih hM'.2 hN'.2 (fun z=>?_)]
     have hz:=ha z
     rw [List.filter_cons,List.filter_cons] at hz
     split at hz
     · injection hz
     · exact hz
def iE (lt:α → α → Bool) (x:α):List α → List α → List α
 | [],r=>x :: r
 | y :: l,r=>if lt x y then iE lt x l (y :: r) else (y :: l).reverse ++ x :: r
def fP (lt:α → α → Bool) (p:List α) (x:α):List α:=iE lt x p.reverse []
def cz (lt:α → α → Bool) (l:List α):List α:=l.foldl (fP lt) []
theorem A6 (h:oT lt) (x:α):∀ (l r:List α),iO lt (l.reverse ++ r) → (∀ y ∈ r,lt x y = true) → iO lt (iE lt x l r) ∧ eG lt (l.reverse ++ r ++ [x]) (iE lt x l r):=by
 intro l
 induction l with
 | nil=>
   intro r hs hr
   refine ⟨List.pairwise_cons.2 ⟨fun y hy=>h.asym (hr y hy),by simpa [iO] using hs⟩,fun z=>?_⟩
   simp only [iE,List.reverse_nil,List.nil_append,List.filter_append,List.filter_cons,List.filter_nil]
   split
   · rename_i hz
     have:r.filter (pb lt z) = []:=by
       rw [List.filter_eq_nil_iff]
       intro y hy he
       rw [nU h hz |>.symm] at he
       simp [pb,hr y hy] at he
     rw [this];rfl
   · simp
 | cons y l ih=>
   intro r hs hr
   unfold iE
   split
   · rename_i hxy
     have:=ih (y :: r) (by simpa using hs) (fun z hz=>by
       rcases List.mem_cons.1 hz with e|e
       · rw [e];exact hxy
       · exact hr z e)
     simpa using this
   · rename_i hxy
     have hxy:lt x y = false:=by simpa using hxy
     have hlr:∀ z ∈ (y :: l).reverse,lt x z = false:=by
       intro z hz
       have hz':z ∈ y :: l:=List.mem_reverse.1 hz
       rcases List.mem_cons.1 hz' with e|e
       · rw [e];exact hxy
       · have hs1:iO lt (l.reverse ++ [y]):=by
           have:iO lt ((l.reverse ++ [y]) ++ r):=by simpa using hs
           exact (List.pairwise_append.1 this).1
         have hq:=(List.pairwise_append.1 hs1).2.2 z (by simpa using e) y (by simp)
         exact h.ntr x y z hxy hq
     have hs':=List.pairwise_append.1 hs
     refine ⟨List.pairwise_append.2 ⟨hs'.1,List.pairwise_cons.2 ⟨fun z hz=>h.asym (hr z hz),hs'.2.1⟩,fun a ha b hb=>?_⟩,fun z=>?_⟩
     · rcases List.mem_cons.1 hb with e|e
       · rw [e];exact hlr a ha
       · exact hs'.2.2 a ha b e
     · simp only [List.filter_append,List.filter_cons,List.filter_nil,List.append_assoc]
       congr 1
       split
       · rename_i hz
         have:r.filter (pb lt z) = []:=by
           rw [List.filter_eq_nil_iff]
           intro y hy he
           rw [nU h hz |>.symm] at he
           simp [pb,hr y hy] at he
         rw [this];rfl
       · simp
theorem A7 (h:oT lt) {p:List α} (hp:iO lt p) (x:α):iO lt (fP lt p x) ∧ eG lt (p ++ [x]) (fP lt p x):=by
 have:=A6 h x p.reverse [] (by simpa using hp) (fun y hy=>by simp at hy)
 simpa [fP] using this
theorem b8 (h:oT lt) (l:List α):iO lt (cz lt l) ∧ eG lt l (cz lt l):=by
 have key:∀ (l p:List α),iO lt p → iO lt (l.foldl (fP lt) p) ∧ eG lt (p ++ l) (l.foldl (fP lt) p):=by
   intro l
   induction l with
   | nil=>intro p hp;exact ⟨hp,by simpa using eG.refl p⟩
   | cons x l ih=>
     intro p hp
     obtain ⟨h1,h2⟩:=A7 h hp x
     obtain ⟨h3,h4⟩:=ih _ h1
     refine ⟨h3,eG.trans ?_ h4⟩
     have:=h2.app (eG.refl l)
     simpa using this
 simpa [cz] using key l [] List.Pairwise.nil
theorem mV (h:oT lt) {M N:List α} (h1:iO lt N) (h2:eG lt M N):cz lt M = N:=
 (b8 h M).1.uniq h h1 ((b8 h M).2.symm.trans h2)
theorem Es (h:oT lt) {M N:List α} (h2:eG lt M N):cz lt M = cz lt N:=
 mV h (b8 h N).1 (h2.trans (b8 h N).2)
theorem fX (h:oT lt) {M:List α} (h1:iO lt M):cz lt M = M:=mV h h1 (eG.refl M)
theorem jq (h:oT lt) {M:List α} {x:α}:x ∈ cz lt M ↔ x ∈ M:=⟨fun q=>(b8 h M).2.mem h q,fun q=>(b8 h M).2.mem' h q⟩
theorem Et (x:α):∀ (l r:List α),(iE lt x l r).length = l.length + 1 + r.length:=by
 intro l
 induction l with
 | nil=>intro r;simp [iE];omega
 | cons y l ih=>
   intro r
   unfold iE
   split
   · rw [ih];simp;omega
   · simp;omega
theorem gr (l:List α):(cz lt l).length = l.length:=by
 have:∀ (l p:List α),(l.foldl (fP lt) p).length = p.length + l.length:=by
   intro l
   induction l with
   | nil=>intro p;rfl
   | cons x l ih=>
     intro p
     rw [List.foldl_cons,ih]
     unfold fP
     rw [Et];simp;omega
 simpa [cz] using this l []
theorem Eu (h:oT lt) {L1 L2 R1 R2:List α} (hL:iO lt (L1 ++ L2)) (hR:iO lt (R1 ++ R2)) (h1:∀ x ∈ L1,∀ y ∈ R2,lt y x = false) (h2:∀ x ∈ R1,∀ y ∈ L2,lt x y = true) :
   cz lt ((L1 ++ L2) ++ (R1 ++ R2)) = cz lt (L1 ++ R1) ++ cz lt (L2 ++ R2):=by
 have hL':=List.pairwise_append.1 hL
 have hR':=List.pairwise_append.1 hR
 refine mV h (List.pairwise_append.2 ⟨(b8 h _).1,(b8 h _).1,fun a ha b hb=>?_⟩) ?_
 · rw [jq h] at ha hb
   rcases List.mem_append.1 ha with ha|ha <;> rcases List.mem_append.1 hb with hb|hb
   · exact hL'.2.2 a ha b hb
   · exact h1 a ha b hb
   · exact h.asym (h2 a ha b hb)
   · exact hR'.2.2 a ha b hb
 · refine eG.trans (N:=(L1 ++ R1) ++ (L2 ++ R2)) (fun x=>?_) ((b8 h _).2.app (b8 h _).2)
   simp only [List.filter_append,List.append_assoc]
   congr 1
   rw [← List.append_assoc,← List.append_assoc]
   congr 1
   by_cases he:∃ y ∈ R1,pb lt x y = true
   · obtain ⟨y,hy,he⟩:=he
     have:L2.filter (pb lt x) = []:=by
       rw [List.filter_eq_nil_iff]
       intro z hz hz2
       rw [nU h he |>.symm] at hz2
       simp [pb,h2 y hy z hz] at hz2
     rw [this];simp
   · have:R1.filter (pb lt x) = []:=by
       rw [List.filter_eq_nil_iff]
       exact fun z hz hz2=>he ⟨z,hz,hz2⟩
     rw [this];simp
theorem eY (h:oT lt) {L1 L2 R1 R2:List α} (hL:iO lt (L1 ++ L2)) (hR:iO lt (R1 ++ R2)) (h1:∀ x y,L1.getLast? = some x → R2.head? = some y → lt y x = false) (h2:∀ x y,R1.getLast? = some x → L2.head? = some y → lt x y = true) :
   cz lt ((L1 ++ L2) ++ (R1 ++ R2)) = cz lt (L1 ++ R1) ++ cz lt (L2 ++ R2):=by
 have hlast:∀ {l:List α},iO lt l → ∀ x ∈ l,∃ z,l.getLast? = some z ∧ lt z x = false:=by
   intro l hl x hx
   rcases List.eq_nil_or_concat l with e|⟨l',z,e⟩
   · subst e;simp at hx
   · rw [List.concat_eq_append] at e
     subst e
     refine ⟨z,by simp,?_⟩
     rcases List.mem_append.1 hx with q|q
     · exact (List.pairwise_append.1 hl).2.2 x q z (by simp)
     · simp at q;subst q;exact h.irr x
 have hhead:∀ {l:List α},iO lt l → ∀ x ∈ l,∃ z,l.head? = some z ∧ lt x z = false:=by
   intro l hl x hx
   cases l with
   | nil=>simp at hx
   | cons z l=>
     refine ⟨z,rfl,?_⟩
     rcases List.mem_cons.1 hx with q|q
     · subst q;exact h.irr x
     · exact (List.pairwise_cons.1 hl).1 x q
 have hL':=List.pairwise_append.1 hL
 have hR':=List.pairwise_append.1 hR
 refine Eu h hL hR (fun x hx y hy=>?_) (fun x hx y hy=>?_)
 · obtain ⟨a,ha,ha2⟩:=hlast hL'.1 x hx
   obtain ⟨b,hb,hb2⟩:=hhead hR'.2.1 y hy
   exact h.ntr y b x hb2 (h.ntr b a x (h1 a b ha hb) ha2)
 · obtain ⟨a,ha,ha2⟩:=hlast hR'.1 x hx
   obtain ⟨b,hb,hb2⟩:=hhead hL'.2.1 y hy
   exact h.lt_of (h.lt_of' (h2 a b ha hb) ha2) hb2
end
end Go.Proofs.YtembiemaiacdfaaGreat
