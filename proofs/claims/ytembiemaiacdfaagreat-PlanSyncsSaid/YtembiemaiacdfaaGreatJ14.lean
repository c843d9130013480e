/- Texts joined: RnE Swp CntS FtM VsE Stab. -/
import Derived.Test.YtembiemaiacdfaaGreatJ12
import Derived.Test.YtembiemaiacdfaaGreatJ05
import Derived.Test.YtembiemaiacdfaaGreatJ13
import Derived.Test.YtembiemaiacdfaaGreatJ07
import Derived.Test.YtembiemaiacdfaaGreatJ01
set_option maxRecDepth 10000
set_option maxHeartbeats 8000000
namespace Go.Proofs.YtembiemaiacdfaaGreat
def cB (l:List Rn) (n:Int):Bool:=l.any fun r=>ga r && (decide (r.fr ≤ n) && decide (n ≤ r.to))
theorem eF (l:List Rn) (n:Int):cB l n = true ↔ dD l n:=by
 unfold cB dD
 rw [List.any_eq_true]
 simp
def fM:List Int → Int → List Int
 | [],n=>[n]
 | x :: l,n=>if x < n then x :: fM l n else if x = n then x :: l else n :: x :: l
theorem qp:∀ (l:List Int) (n m:Int),m ∈ fM l n ↔ m = n ∨ m ∈ l:=by
 intro l
 induction l with
 | nil=>intro n m;simp [fM]
 | cons x l ih=>
   intro n m
   rw [fM]
   split
   · simp only [List.mem_cons,ih]
     constructor
     · rintro (h|h|h) <;> simp [h]
     · rintro (h|h|h) <;> simp [h]
   · split
     · rename_i e
       subst e
       simp
     · simp
abbrev Fd (l:List Int):Prop:=l.Pairwise (· < ·)
theorem Ax:∀ (l:List Int) (n:Int),Fd l → Fd (fM l n):=by
 intro l
 induction l with
 | nil=>intro n _;simp [fM]
 | cons x l ih=>
   intro n h
   obtain ⟨h1,h2⟩:=List.pairwise_cons.1 h
   rw [fM]
   split
   · rename_i c
     refine List.pairwise_cons.2 ⟨fun z hz=>?_,ih n h2⟩
     rcases (qp _ _ _).1 hz with rfl|hz
     · exact c
     · exact h1 z hz
   · split
     · exact h
     · refine List.pairwise_cons.2 ⟨fun z hz=>?_,h⟩
       rcases List.mem_cons.1 hz with rfl|hz
       · omega
       · have:=h1 z hz;omega
def m5 (e:List Int) (r:Rn):List Int:=if ga r then fM (fM e r.fr) (r.to + 1) else e
def d7 (e:List Int) (l:List Rn):List Int:=l.foldl m5 e
theorem IV {e:List Int} {r:Rn} (h:Fd e):Fd (m5 e r):=by
 unfold m5;split
 · exact Ax _ _ (Ax _ _ h)
 · exact h
theorem pj:∀ (l:List Rn) (e:List Int),Fd e → Fd (d7 e l):=by
 intro l
 induction l with
 | nil=>intro e h;exact h
 | cons r l ih=>intro e h;exact ih _ (IV h)
theorem wl:∀ (l:List Rn) (e:List Int) (m:Int),m ∈ d7 e l ↔ m ∈ e ∨ ∃ r ∈ l,ga r = true ∧ (m = r.fr ∨ m = r.to + 1):=by
 intro l
 induction l with
 | nil=>intro e m;simp [d7]
 | cons r l ih=>
   intro e m
   show m ∈ d7 (m5 e r) l ↔ _
   rw [ih]
   unfold m5
   by_cases c:ga r = true
   · rw [if_pos c,qp,qp]
     constructor
     · rintro ((h|h|h)|⟨x,hx,h⟩)
       · exact .inr ⟨r,by simp,c,.inr h⟩
       · exact .inr ⟨r,by simp,c,.inl h⟩
       · exact .inl h
       · exact .inr ⟨x,by simp [hx],h⟩
     · rintro (h|⟨x,hx,h⟩)
       · exact .inl (.inr (.inr h))
       · rcases List.mem_cons.1 hx with rfl|hx
         · rcases h.2 with h|h
           · exact .inl (.inr (.inl h))
           · exact .inl (.inl h)
         · exact .inr ⟨x,hx,h⟩
   · rw [if_neg c]
     constructor
     · rintro (h|⟨x,hx,h⟩)
       · exact .inl h
       · exact .inr ⟨x,by simp [hx],h⟩
     · rintro (h|⟨x,hx,h⟩)
       · exact .inl h
       · rcases List.mem_cons.1 hx with rfl|hx
         · exact absurd h.1 c
         · exact .inr ⟨x,hx,h⟩
theorem m6:∀ (l:List Rn) (e:List Int),(d7 e l).length ≤ e.length + 2 * l.length:=by
 have h1:∀ (l:List Int) (n:Int),(fM l n).length ≤ l.length + 1:=by
   intro l
   induction l with
   | nil=>intro n;simp [fM]
   | cons x l ih=>
     intro n
     rw [fM]
     split
     · have:=ih n;simp;omega
     · split <;> simp
 intro l
 induction l with
 | nil=>intro e;simp [d7]
 | cons r l ih=>
   intro e
   show (d7 (m5 e r) l).length ≤ _
   have h2:=ih (m5 e r)
   have h3:(m5 e r).length ≤ e.length + 2:=by
     unfold m5
     split
     · have a:=h1 (fM e r.fr) (r.to + 1)
       have b:=h1 e r.fr
       omega
     · omega
   rw [List.length_cons];omega
def gB (f:Int → Bool):List Int → List Rn
 | e :: e' :: E=>(if f e then [⟨e,e' - 1⟩] else []) ++ gB f (e' :: E)
 | _=>[]
theorem m7 (f:Int → Bool):∀ (E:List Int) (e:Int),Fd (e :: E) → (∀ m ∈ e :: E,1 ≤ m ∧ m ≤ 1099511627777) → ∀ r ∈ gB f (e :: E),ga r = true ∧ e ≤ r.fr:=by
 intro E
 induction E with
 | nil=>intro e _ _ r hr;simp [gB] at hr
 | cons e' E ih=>
   intro e h hm r hr
   obtain ⟨h1,h2⟩:=List.pairwise_cons.1 h
   have h3:=h1 e' (by simp)
   rw [gB,List.mem_append] at hr
   rcases hr with hr|hr
   · split at hr
     · have hr:r = ⟨e,e' - 1⟩:=by simpa using hr
       subst hr
       have a:=hm e (by simp)
       have b:=hm e' (by simp)
       exact ⟨(bu _).2 (by simp only;omega),Int.le_refl _⟩
     · simp at hr
   · have:=ih e' h2 (fun m hm'=>hm m (by simp at hm' ⊢;exact .inr hm')) r hr
     exact ⟨this.1,by omega⟩
theorem Fe (f:Int → Bool):∀ (E:List Int),Fd E → (∀ m ∈ E,1 ≤ m ∧ m ≤ 1099511627777) → rJ (gB f E):=by
 intro E
 induction E with
 | nil=>intro _ _;exact List.Pairwise.nil
 | cons e E ih=>
   intro h hm
   cases E with
   | nil=>exact List.Pairwise.nil
   | cons e' E=>
     obtain ⟨h1,h2⟩:=List.pairwise_cons.1 h
     have hm':∀ m ∈ e' :: E,1 ≤ m ∧ m ≤ 1099511627777:=fun m q=>hm m (by simp at q ⊢;exact .inr q)
     have h3:=ih h2 hm'
     rw [gB]
     split
     · refine List.pairwise_cons.2 ⟨fun z hz=>?_,h3⟩
       have:=(m7 f E e' h2 hm' z hz).2
       have:=h1 e' (by simp)
       simp only;omega
     · exact h3
structure MP (f:Int → Bool) (M:Int → Prop):Prop where
 mid:∀ e n,e ≤ n → (∀ m,M m → m ≤ e ∨ n < m) → f e = f n
 lo:∀ n,(∀ m,M m → n < m) → f n = false
 hi:∀ n,(∀ m,M m → m ≤ n) → f n = false
theorem Ff {f:Int → Bool} {M:Int → Prop} (hf:MP f M):∀ (E:List Int) (e:Int),Fd (e :: E) → (∀ m ∈ e :: E,1 ≤ m ∧ m ≤ 1099511627777) → (∀ m,M m → m ≤ e ∨ m ∈ E) → ∀ n,e ≤ n → (dD (gB f (e :: E)) n ↔ f n = true):=by
 intro E
 induction E with
 | nil=>
   intro e _ _ hM n hn
   have : f n = false := hf.hi n (fun m hm => by rcases hM m hm with h | h; · omega
                                                 · simp at h)
   rw [this]
   simp [gB,dm]
 | cons e' E ih=>
   intro e h hm hM n hn
   obtain ⟨h1,h2⟩:=List.pairwise_cons.1 h
   have h3:=h1 e' (by simp)
   have hm':∀ m ∈ e' :: E,1 ≤ m ∧ m ≤ 1099511627777:=fun m q=>hm m (by simp at q ⊢;exact .inr q)
   obtain ⟨h4,_⟩:=List.pairwise_cons.1 h2
   have a:=hm e (by simp)
   have b:=hm e' (by simp)
   rw [gB,gA]
   by_cases c:n < e'
   · have hno:¬ dD (gB f (e' :: E)) n:=fun ⟨r,hr,_,q,_⟩=>by
       have:=(m7 f E e' h2 hm' r hr).2
       omega
     have he:f e = f n:=hf.mid e n hn (fun m q=>by
       rcases hM m q with z|z
       · exact .inl z
       · rcases List.mem_cons.1 z with rfl|z
         · exact .inr c
         · have:=h4 m z
           exact .inr (by omega))
     rw [← he]
     constructor
     · rintro (q|q)
       · split at q
         · assumption
         · exact absurd q (dm n)
       · exact absurd q hno
     · intro q
       rw [if_pos q]
       exact .inl ((bm _ _ _).2 (.inl ⟨(bu _).2 (by simp only;omega),hn,by simp only;omega⟩))
   · rw [ih e' h2 hm' (fun m q=>by
       rcases hM m q with z|z
       · exact .inl (by omega)
       · rcases List.mem_cons.1 z with rfl|z
         · exact .inl (Int.le_refl _)
         · exact .inr z) n (by omega)]
     constructor
     · rintro (q|q)
       · split at q
         · rcases (bm _ _ _).1 q with q|q
           · simp only at q;omega
           · exact absurd q (dm n)
         · exact absurd q (dm n)
       · exact q
     · exact .inr
def Ht (f:Int → Bool) (a b:List Rn):List Rn:=jo (gB f (d7 (d7 [] a) b))
def rK (keep:Bool → Bool → Bool) (a b:List Rn) (n:Int):Bool:=keep (cB a n) (cB b n)
abbrev IW (a b:List Rn) (m:Int):Prop:=m ∈ d7 (d7 [] a) b
theorem m8 (a b:List Rn) (m:Int):IW a b m ↔ (∃ r ∈ a,ga r = true ∧ (m = r.fr ∨ m = r.to + 1)) ∨ ∃ r ∈ b,ga r = true ∧ (m = r.fr ∨ m = r.to + 1):=by
 unfold IW
 rw [wl,wl]
 simp
theorem su {l:List Rn} {e n:Int} (hen:e ≤ n) (h:∀ r ∈ l,ga r = true → (r.fr ≤ e ∨ n < r.fr) ∧ (r.to + 1 ≤ e ∨ n < r.to + 1)):cB l e = cB l n:=by
 rw [Bool.eq_iff_iff,eF,eF]
 refine ⟨fun ⟨r,hr,c,q⟩=>?_,fun ⟨r,hr,c,q⟩=>?_⟩
 · have:=h r hr c
   exact ⟨r,hr,c,by omega,by omega⟩
 · have:=h r hr c
   exact ⟨r,hr,c,by omega,by omega⟩
theorem m9 {l:List Rn} {n:Int} (h:∀ r ∈ l,ga r = true → n < r.fr ∨ r.to + 1 ≤ n):cB l n = false:=by
 rw [← Bool.not_eq_true,eF]
 rintro ⟨r,hr,c,q⟩
 have:=h r hr c
 omega
theorem IY {keep:Bool → Bool → Bool} (hk:keep false false = false) (a b:List Rn):MP (rK keep a b) (IW a b):=by
 have inA:∀ r ∈ a,ga r = true → IW a b r.fr ∧ IW a b (r.to + 1):=fun r hr c=>⟨(m8 _ _ _).2 (.inl ⟨r,hr,c,.inl rfl⟩),(m8 _ _ _).2 (.inl ⟨r,hr,c,.inr rfl⟩)⟩
 have inB:∀ r ∈ b,ga r = true → IW a b r.fr ∧ IW a b (r.to + 1):=fun r hr c=>⟨(m8 _ _ _).2 (.inr ⟨r,hr,c,.inl rfl⟩),(m8 _ _ _).2 (.inr ⟨r,hr,c,.inr rfl⟩)⟩
 refine ⟨fun e n hen h=>?_,fun n h=>?_,fun n h=>?_⟩
 · unfold rK
   rw [su hen (fun r hr c=>⟨h _ (inA r hr c).1,h _ (inA r hr c).2⟩),su hen (fun r hr c=>⟨h _ (inB r hr c).1,h _ (inB r hr c).2⟩)]
 · unfold rK
   rw [m9 (fun r hr c=>.inl (h _ (inA r hr c).1)),m9 (fun r hr c=>.inl (h _ (inB r hr c).1)),hk]
 · unfold rK
   rw [m9 (fun r hr c=>.inr (h _ (inA r hr c).2)),m9 (fun r hr c=>.inr (h _ (inB r hr c).2)),hk]
theorem Ay {a b:List Rn} {m:Int} (h:IW a b m):1 ≤ m ∧ m ≤ 1099511627777:=by
 rcases (m8 _ _ _).1 h with ⟨r,_,c,q⟩|⟨r,_,c,q⟩ <;>
 · have:=(bu r).1 c
   omega
theorem tV {keep:Bool → Bool → Bool} (hk:keep false false = false) (a b:List Rn):cK (Ht (rK keep a b) a b) ∧ ∀ n,dD (Ht (rK keep a b) a b) n ↔ rK keep a b n = true:=by
 have hc:=IY hk a b
 have hup:Fd (d7 (d7 [] a) b):=pj _ _ (pj _ _ List.Pairwise.nil)
 have hrg:∀ m ∈ d7 (d7 [] a) b,1 ≤ m ∧ m ≤ 1099511627777:=fun m hm=>Ay hm
 unfold Ht
 unfold IW at hc
 generalize rK keep a b = f at *
 generalize d7 (d7 [] a) b = E at *
 have hR:∀ r ∈ gB f E,ga r = true:=fun r hr=>by
   cases E with
   | nil=>simp [gB] at hr
   | cons e E=>exact (m7 f E e hup hrg r hr).1
 have h1:=lM (Fe f E hup hrg) hR
 refine ⟨h1.1,fun n=>?_⟩
 rw [h1.2 n]
 cases E with
 | nil=>
   rw [hc.lo n (fun m hm=>by simp at hm)]
   simp [gB,dm]
 | cons e E=>
   by_cases q:e ≤ n
   · exact Ff hc E e hup hrg (fun m hm=>by
       rcases List.mem_cons.1 hm with rfl|hm
       · exact .inl (Int.le_refl _)
       · exact .inr hm) n q
   · rw [hc.lo n (fun m hm=>by
       rcases List.mem_cons.1 hm with rfl|hm
       · omega
       · have:=(List.pairwise_cons.1 hup).1 m hm;omega)]
     refine ⟨fun ⟨r,hr,_,z,_⟩=>?_,fun z=>by cases z⟩
     have:=(m7 f E e hup hrg r hr).2
     omega
theorem Fg {keep:Bool → Bool → Bool} (hk:keep false false = false) {a b m:List Rn} (h:cK m) (e:∀ n,dD m n ↔ rK keep a b n = true):Ht (rK keep a b) a b = m:=
 qf (tV hk a b).1 h (fun n=>((tV hk a b).2 n).trans (e n).symm)
theorem KM (a b:List Rn):Ht (rK (fun x y=>x || y) a b) a b = ofR (a ++ b):=by
 refine Fg rfl (mi _) (fun n=>?_)
 rw [e9,gA,rK,Bool.or_eq_true,eF,eF]
def J6 (x y:Bool):Bool:=x && !y
def wm (a b:List Rn):List Rn:=Ht (rK J6 a b) a b
end Go.Proofs.YtembiemaiacdfaaGreat
namespace Go.Proofs.YtembiemaiacdfaaGreat
structure Mz (l:List Rn) (a:Int) (i:Nat):Prop where
 le:i ≤ l.length
 lo:∀ j (h:j < l.length),j < i → l[j].to < a
 hi:∀ j (h:j < l.length),i ≤ j → a ≤ l[j].to
def Mk (l:List Rn) (i:Nat) (a:Int):Nat:=2 * i + (if h:i < l.length then (if l[i].fr ≤ a then 1 else 0) else 0)
section
variable {l:List Rn} {a e:Int} {i:Nat}
theorem Fh (h:i ≤ l.length):Mk l i a ≤ 2 * l.length:=by
 unfold Mk;split
 · split <;> omega
 · omega
end
structure Ml (keep:Bool → Bool → Bool) (A B:List Rn) (a:Int) (i k:Nat) (out:List Rn):Prop where
 pos:1 ≤ a
 p:Mz A a i
 q:Mz B a k
 right:∀ r ∈ out,ga r = true
 has:∀ n,dD out n ↔ n < a ∧ rK keep A B n = true
 few:out.length ≤ Mk A i a + Mk B k a
theorem Ml.done {keep:Bool → Bool → Bool} (hk:keep false false = false) {A B:List Rn} {a:Int} {i k:Nat} {out:List Rn} (s:Ml keep A B a i k out) (h:¬ a ≤ 1099511627776 ∨ ¬ i < A.length ∧ ¬ k < B.length) :
   ofR out = Ht (rK keep A B) A B:=by
 refine (Fg hk (mi out) (fun n=>?_)).symm
 rw [e9,s.has n]
 refine ⟨fun q=>q.2,fun q=>⟨?_,q⟩⟩
 refine Classical.byContradiction fun z=>?_
 have no:∀ {l:List Rn} {i:Nat},Mz l a i → (¬ a ≤ 1099511627776 ∨ ¬ i < l.length) → cB l n = false:=fun {l i} p h=>by
   rw [← Bool.not_eq_true,eF]
   intro w
   have w':=qe w
   obtain ⟨r,hr,_,w1⟩:=w
   obtain ⟨j,hj,rfl⟩:=List.getElem_of_mem hr
   rcases h with h|h
   · omega
   · have:=p.lo j hj (by omega);omega
 rw [rK,no s.p (h.imp id (·.1)),no s.q (h.imp id (·.2)),hk] at q
 cases q
theorem Ml.len {keep:Bool → Bool → Bool} {A B:List Rn} {a:Int} {i k:Nat} {out:List Rn} (s:Ml keep A B a i k out):out.length ≤ 2 * (A.length + B.length):=by
 have h1:=s.few
 have h2:=Fh (a:=a) s.p.le
 have h3:=Fh (a:=a) s.q.le
 omega
section
variable {P:Program} {n t:Nat} {ops:Array Oper} {o:Oper} {S:St}
end
section
end
def LK:Cnt → Bool
 | .per _=>true
 | .bor _ _=>true
 | _=>false
theorem Fj {C:Ctx} {w:World} {c:Cnt} (hc:LK c = true) {v:Value} (h:crep C z0 C.G0 w v c):crep ⟨w,fun b=>C.N0 b ∨ C.G0.ow b ≠ none,fun _=>False,g0⟩ (fun _=>0) g0 w v c:=by
 have hn:∀ b,b < w.heap.size → Gh.N g0 ⟨w,fun b=>C.N0 b ∨ C.G0.ow b ≠ none,fun _=>False,g0⟩ b → C.G0.N C b:=fun b _ q=>by
   rcases q with q|q
   · exact q
   · exact absurd rfl q
 cases c with
 | per A=>exact A.mono (Nat.le_refl _) (fun _ _ _=>rfl) hn h
 | bor k es=>exact dH.mono (Nat.le_refl _) (fun _ _ _=>rfl) (fun _ _ _=>rfl) (fun b _ q=>absurd rfl q) hn h
 | _=>cases hc
theorem Fn.toM {P:Program} {f:FuncId} {As:List Cnt} {A:PV} (h:Fn P f As (.per A)) (hA:As.all LK = true:=by rfl):el P f As [] (.per A) []:=by
 refine ⟨h.ent,?_⟩
 intro C w vs _ hN hO hl hvs _
 refine (h.run (fun b=>C.N0 b ∨ C.G0.ow b ≠ none) w vs (fun b q=>?_) ⟨hl,fun i v c h1 h2=>Fj (List.all_eq_true.1 hA c (List.mem_of_getElem? h2)) (hvs i v c h1 h2)⟩).mono ?_
 · rcases q with q|q
   · exact (hN b q).1
   · obtain ⟨id,e⟩:=Option.ne_none_iff_exists'.1 q
     exact (hO b id e).1
 · rintro e w' ⟨v,rfl,hx,hr⟩
   refine ⟨v,C.G0,rfl,⟨hx.os,hx.tape,hx.output,hx.size,fun b hb _=>hx.block b hb,fun b id q=>⟨Nat.lt_of_lt_of_le (hO b id q).1 hx.size,.inr (hO b id q).2⟩,fun _ _=>⟨rfl,rfl⟩⟩,?_,fun id=>trivial⟩
   exact hr
abbrev kx (l:List Kn):Ret:=.own 130 2 (l.map Ap)
def lO (T U:List (List Rn)):List (List Rn):=List.zipWith wm T U
def kV (a b:List Kn):List Kn:=aX ofR 0 (lO (bj a) (bj b))
theorem yW (s:List Kn) (hs:cD s):∀ l ∈ bj s,l.length ≤ 1000000000:=fun l hl=>by
 obtain ⟨r,_,rfl⟩:=List.mem_map.1 hl
 have:=dM s r
 have:=hs.2
 omega
theorem wn {F:Cnt → Cnt} (h:∀ A,F (.per A) = .per A) {T:List (List Rn)}:(gL T).map F = gL T:=by
 unfold gL
 rw [List.map_map]
 exact List.map_congr_left fun x _=>h _
section
theorem IZ (s:List Kn) (hs:cD s):Fn Tryz.prog 148 [eh s] (kx (em ofR s)):=
 J5 ofR s hs (fun l hl=>tU l (yW s hs l hl))
def oe (s:List Kn):Prop:=s.length ≤ 100000000 ∧ (s.flatMap Kn.runs).length ≤ 100000000
theorem oe.tot {s:List Kn} (h:oe s):cD s:=⟨by have:=h.1;omega,by have:=h.2;omega⟩
end
end Go.Proofs.YtembiemaiacdfaaGreat
namespace Go.Proofs.YtembiemaiacdfaaGreat
structure pk {α:Type} (lt:α → α → Bool):Prop where
 irr:∀ x,lt x x = false
 tr:∀ x y z,lt x y = true → lt y z = true → lt x z = true
 ntr:∀ x y z,lt x y = false → lt y z = false → lt x z = false
section
variable {α:Type} {lt:α → α → Bool}
def qq (lt:α → α → Bool) (x y:α):Bool:=!lt x y && !lt y x
def jc (lt:α → α → Bool) (l:List α):Prop:=l.Pairwise fun x y=>lt y x = false
def fa (lt:α → α → Bool) (M N:List α):Prop:=∀ x,N.filter (qq lt x) = M.filter (qq lt x)
theorem pk.lt_of (h:pk lt) {x y z:α} (h1:lt x y = true) (h2:lt z y = false):lt x z = true:=by
 cases hxz:lt x z with
 | true=>rfl
 | false=>have:=h.ntr x z y hxz h2;rw [h1] at this;cases this
theorem pk.lt_of' (h:pk lt) {x y z:α} (h1:lt x y = true) (h2:lt x z = false):lt z y = true:=by
 cases hzy:lt z y with
 | true=>rfl
 | false=>have:=h.ntr x z y h2 hzy;rw [h1] at this;cases this
theorem pk.asym (h:pk lt) {x y:α} (h1:lt x y = true):lt y x = false:=by
 cases hyx:lt y x with
 | false=>rfl
 | true=>have:=h.tr x y x h1 hyx;rw [h.irr] at this;cases this
theorem wo (h:pk lt) (x:α):qq lt x x = true:=by simp [qq,h.irr]
theorem og (h:pk lt) {x y z:α} (h1:qq lt x y = true):qq lt y z = qq lt x z:=by
 simp only [qq,Bool.and_eq_true,Bool.not_eq_true'] at h1
 unfold qq
 have e1:lt y z = lt x z:=by
   cases hb:lt y z with
   | true=>exact (h.lt_of' hb h1.2).symm
   | false=>exact (h.ntr x y z h1.1 hb).symm
 have e2:lt z y = lt z x:=by
   cases hb:lt z y with
   | true=>exact (h.lt_of hb h1.1).symm
   | false=>exact (h.ntr z y x hb h1.2).symm
 rw [e1,e2]
theorem fa.refl (M:List α):fa lt M M:=fun _=>rfl
theorem fa.trans {M N O:List α} (h1:fa lt M N) (h2:fa lt N O):fa lt M O:=fun x=>(h2 x).trans (h1 x)
theorem fa.symm {M N:List α} (h1:fa lt M N):fa lt N M:=fun x=>(h1 x).symm
theorem fa.app {M N M' N':List α} (h1:fa lt M N) (h2:fa lt M' N'):fa lt (M ++ M') (N ++ N'):=fun x=>by
 rw [List.filter_append,List.filter_append,h1 x,h2 x]
theorem fa.mem (h:pk lt) {M N:List α} (h1:fa lt M N) {x:α} (hx:x ∈ N):x ∈ M:=by
 have:x ∈ N.filter (qq lt x):=List.mem_filter.2 ⟨hx,wo h x⟩
 rw [h1 x] at this
 exact (List.mem_filter.1 this).1
theorem fa.mem' (h:pk lt) {M N:List α} (h1:fa lt M N) {x:α} (hx:x ∈ M):x ∈ N:=h1.symm.mem h hx
theorem jc.uniq (h:pk lt):∀ {M N:List α},jc lt M → jc lt N → fa lt M N → M = N:=by
 intro M
 induction M with
 | nil=>
   intro N _ _ ha
   cases N with
   | nil=>rfl
   | cons y N=>exact absurd (ha.mem h List.mem_cons_self) (by simp)
 | cons x M ih=>
   intro N hM hN ha
   cases N with
   | nil=>exact absurd (ha.mem' h (x:=x) List.mem_cons_self) (by simp)
   | cons y N=>
     have hM':=List.pairwise_cons.1 hM
     have hN':=List.pairwise_cons.1 hN
     have hyM:=ha.mem h (x:=y) List.mem_cons_self
     have hxN:=ha.mem' h (x:=x) List.mem_cons_self
     have h1:lt y x = false:=by
       rcases List.mem_cons.1 hyM with e|e
       · rw [e];exact h.irr x
       · exact hM'.1 y e
     have h2:lt x y = false:=by
       rcases List.mem_cons.1 hxN with e|e
       · rw [e];exact h.irr y
       · exact hN'.1 x e
     have hE:qq lt x y = true:=by simp [qq,h1,h2]
     have hx:=ha x
     rw [List.filter_cons_of_pos hE,List.filter_cons_of_pos (wo h x)] at hx
     injection hx with e1 e2
     subst e1
     rw [ih hM'.2 hN'.2 (fun z=>?_)]
     have hz:=ha z
     rw [List.filter_cons,List.filter_cons] at hz
     split at hz
     · injection hz
     · exact hz
def iU (lt:α → α → Bool) (x:α):List α → List α → List α
 | [],r=>x :: r
 | y :: l,r=>if lt x y then iU lt x l (y :: r) else (y :: l).reverse ++ x :: r
def gC (lt:α → α → Bool) (p:List α) (x:α):List α:=iU lt x p.reverse []
def dc (lt:α → α → Bool) (l:List α):List α:=l.foldl (gC lt) []
theorem B8 (h:pk lt) (x:α):∀ (l r:List α),jc lt (l.reverse ++ r) → (∀ y ∈ r,lt x y = true) → jc lt (iU lt x l r) ∧ fa lt (l.reverse ++ r ++ [x]) (iU lt x l r):=by
 intro l
 induction l with
 | nil=>
   intro r hs hr
   refine ⟨List.pairwise_cons.2 ⟨fun y hy=>h.asym (hr y hy),by simpa [jc] using hs⟩,fun z=>?_⟩
   simp only [iU,List.reverse_nil,List.nil_append,List.filter_append,List.filter_cons,List.filter_nil]
   split
   · rename_i hz
     have:r.filter (qq lt z) = []:=by
       rw [List.filter_eq_nil_iff]
       intro y hy he
       rw [og h hz |>.symm] at he
       simp [qq,hr y hy] at he
     rw [this];rfl
   · simp
 | cons y l ih=>
   intro r hs hr
   unfold iU
   split
   · rename_i hxy
     have:=ih (y :: r) (by simpa using hs) (fun z hz=>by
       rcases List.mem_cons.1 hz with e|e
       · rw [e];exact hxy
       · exact hr z e)
     simpa using this
   · rename_i hxy
     have hxy:lt x y = false:=by simpa using hxy
     have hlr:∀ z ∈ (y :: l).reverse,lt x z = false:=by
       intro z hz
       have hz':z ∈ y :: l:=List.mem_reverse.1 hz
       rcases List.mem_cons.1 hz' with e|e
       · rw [e];exact hxy
       · have hs1:jc lt (l.reverse ++ [y]):=by
           have:jc lt ((l.reverse ++ [y]) ++ r):=by simpa using hs
           exact (List.pairwise_append.1 this).1
         have hq:=(List.pairwise_append.1 hs1).2.2 z (by simpa using e) y (by simp)
         exact h.ntr x y z hxy hq
     have hs':=List.pairwise_append.1 hs
     refine ⟨List.pairwise_append.2 ⟨hs'.1,List.pairwise_cons.2 ⟨fun z hz=>h.asym (hr z hz),hs'.2.1⟩,fun a ha b hb=>?_⟩,fun z=>?_⟩
     · rcases List.mem_cons.1 hb with e|e
       · rw [e];exact hlr a ha
       · exact hs'.2.2 a ha b e
     · simp only [List.filter_append,List.filter_cons,List.filter_nil,List.append_assoc]
       congr 1
       split
       · rename_i hz
         have:r.filter (qq lt z) = []:=by
           rw [List.filter_eq_nil_iff]
           intro y hy he
           rw [og h hz |>.symm] at he
           simp [qq,hr y hy] at he
         rw [this];rfl
       · simp
theorem B9 (h:pk lt) {p:List α} (hp:jc lt p) (x:α):jc lt (gC lt p x) ∧ fa lt (p ++ [x]) (gC lt p x):=by
 have:=B8 h x p.reverse [] (by simpa using hp) (fun y hy=>by simp at hy)
 simpa [gC] using this
theorem cA (h:pk lt) (l:List α):jc lt (dc lt l) ∧ fa lt l (dc lt l):=by
 have key:∀ (l p:List α),jc lt p → jc lt (l.foldl (gC lt) p) ∧ fa lt (p ++ l) (l.foldl (gC lt) p):=by
   intro l
   induction l with
   | nil=>intro p hp;exact ⟨hp,by simpa using fa.refl p⟩
   | cons x l ih=>
     intro p hp
     obtain ⟨h1,h2⟩:=B9 h hp x
     obtain ⟨h3,h4⟩:=ih _ h1
     refine ⟨h3,fa.trans ?_ h4⟩
     have:=h2.app (fa.refl l)
     simpa using this
 simpa [dc] using key l [] List.Pairwise.nil
theorem na (h:pk lt) {M N:List α} (h1:jc lt N) (h2:fa lt M N):dc lt M = N:=
 (cA h M).1.uniq h h1 ((cA h M).2.symm.trans h2)
theorem Fk (h:pk lt) {M N:List α} (h2:fa lt M N):dc lt M = dc lt N:=
 na h (cA h N).1 (h2.trans (cA h N).2)
theorem gc (h:pk lt) {M:List α} (h1:jc lt M):dc lt M = M:=na h h1 (fa.refl M)
theorem kW (h:pk lt) {M:List α} {x:α}:x ∈ dc lt M ↔ x ∈ M:=⟨fun q=>(cA h M).2.mem h q,fun q=>(cA h M).2.mem' h q⟩
theorem Fl (x:α):∀ (l r:List α),(iU lt x l r).length = l.length + 1 + r.length:=by
 intro l
 induction l with
 | nil=>intro r;simp [iU];omega
 | cons y l ih=>
   intro r
   unfold iU
   split
   · rw [ih];simp;omega
   · simp;omega
theorem iA (l:List α):(dc lt l).length = l.length:=by
 have:∀ (l p:List α),(l.foldl (gC lt) p).length = p.length + l.length:=by
   intro l
   induction l with
   | nil=>intro p;rfl
   | cons x l ih=>
     intro p
     rw [List.foldl_cons,ih]
     unfold gC
     rw [Fl];simp;omega
 simpa [dc] using this l []
theorem Fm (h:pk lt) {L1 L2 R1 R2:List α} (hL:jc lt (L1 ++ L2)) (hR:jc lt (R1 ++ R2)) (h1:∀ x ∈ L1,∀ y ∈ R2,lt y x = false) (h2:∀ x ∈ R1,∀ y ∈ L2,lt x y = true) :
   dc lt ((L1 ++ L2) ++ (R1 ++ R2)) = dc lt (L1 ++ R1) ++ dc lt (L2 ++ R2):=by
 have hL':=List.pairwise_append.1 hL
 have hR':=List.pairwise_append.1 hR
 refine na h (List.pairwise_append.2 ⟨(cA h _).1,(cA h _).1,fun a ha b hb=>?_⟩) ?_
 · rw [kW h] at ha hb
   rcases List.mem_append.1 ha with ha|ha <;> rcases List.mem_append.1 hb with hb|hb
   · exact hL'.2.2 a ha b hb
   · exact h1 a ha b hb
   · exact h.asym (h2 a ha b hb)
   · exact hR'.2.2 a ha b hb
 · refine fa.trans (N:=(L1 ++ R1) ++ (L2 ++ R2)) (fun x=>?_) ((cA h _).2.app (cA h _).2)
   simp only [List.filter_append,List.append_assoc]
   congr 1
   rw [← List.append_assoc,← List.append_assoc]
   congr 1
   by_cases he:∃ y ∈ R1,qq lt x y = true
   · obtain ⟨y,hy,he⟩:=he
     have:L2.filter (qq lt x) = []:=by
       rw [List.filter_eq_nil_iff]
       intro z hz hz2
       rw [og h he |>.symm] at hz2
       simp [qq,h2 y hy z hz] at hz2
     rw [this];simp
   · have:R1.filter (qq lt x) = []:=by
       rw [List.filter_eq_nil_iff]
       exact fun z hz hz2=>he ⟨z,hz,hz2⟩
     rw [this];simp
theorem ft (h:pk lt) {L1 L2 R1 R2:List α} (hL:jc lt (L1 ++ L2)) (hR:jc lt (R1 ++ R2)) (h1:∀ x y,L1.getLast? = some x → R2.head? = some y → lt y x = false) (h2:∀ x y,R1.getLast? = some x → L2.head? = some y → lt x y = true) :
   dc lt ((L1 ++ L2) ++ (R1 ++ R2)) = dc lt (L1 ++ R1) ++ dc lt (L2 ++ R2):=by
 have hlast:∀ {l:List α},jc lt l → ∀ x ∈ l,∃ z,l.getLast? = some z ∧ lt z x = false:=by
   intro l hl x hx
   rcases List.eq_nil_or_concat l with e|⟨l',z,e⟩
   · subst e;simp at hx
   · rw [List.concat_eq_append] at e
     subst e
     refine ⟨z,by simp,?_⟩
     rcases List.mem_append.1 hx with q|q
     · exact (List.pairwise_append.1 hl).2.2 x q z (by simp)
     · simp at q;subst q;exact h.irr x
 have hhead:∀ {l:List α},jc lt l → ∀ x ∈ l,∃ z,l.head? = some z ∧ lt x z = false:=by
   intro l hl x hx
   cases l with
   | nil=>simp at hx
   | cons z l=>
     refine ⟨z,rfl,?_⟩
     rcases List.mem_cons.1 hx with q|q
     · subst q;exact h.irr x
     · exact (List.pairwise_cons.1 hl).1 x q
 have hL':=List.pairwise_append.1 hL
 have hR':=List.pairwise_append.1 hR
 refine Fm h hL hR (fun x hx y hy=>?_) (fun x hx y hy=>?_)
 · obtain ⟨a,ha,ha2⟩:=hlast hL'.1 x hx
   obtain ⟨b,hb,hb2⟩:=hhead hR'.2.1 y hy
   exact h.ntr y b x hb2 (h.ntr b a x (h1 a b ha hb) ha2)
 · obtain ⟨a,ha,ha2⟩:=hlast hR'.1 x hx
   obtain ⟨b,hb,hb2⟩:=hhead hL'.2.1 y hy
   exact h.lt_of (h.lt_of' (h2 a b ha hb) ha2) hb2
end
end Go.Proofs.YtembiemaiacdfaaGreat
