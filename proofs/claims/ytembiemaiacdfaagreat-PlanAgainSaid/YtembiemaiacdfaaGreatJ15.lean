/- Texts joined: RnE Swp CntS FtM VsE Stab. -/
import Derived.Test.YtembiemaiacdfaaGreatJ13
import Derived.Test.YtembiemaiacdfaaGreatJ05
import Derived.Test.YtembiemaiacdfaaGreatJ14
import Derived.Test.YtembiemaiacdfaaGreatJ07
import Derived.Test.YtembiemaiacdfaaGreatJ01
set_option maxRecDepth 10000
set_option maxHeartbeats 8000000
namespace Go.Proofs.YtembiemaiacdfaaGreat
def hasRb (l:List Rn) (n:Int):Bool:=l.any fun r=>rnR r && (decide (r.fr ≤ n) && decide (n ≤ r.to))
theorem hasRb_iff (l:List Rn) (n:Int):hasRb l n = true ↔ hasR l n:=by
 unfold hasRb hasR
 rw [List.any_eq_true]
 simp
/-- a number put among rising ones, once -/
def putN:List Int → Int → List Int
 | [],n=>[n]
 | x :: l,n=>if x < n then x :: putN l n else if x = n then x :: l else n :: x :: l
theorem putN_mem:∀ (l:List Int) (n m:Int),m ∈ putN l n ↔ m = n ∨ m ∈ l:=by
 intro l
 induction l with
 | nil=>intro n m;simp [putN]
 | cons x l ih=>
   intro n m
   rw [putN]
   split
   · simp only [List.mem_cons,ih]
     constructor
     · rintro (h|h|h) <;> simp [h]
     · rintro (h|h|h) <;> simp [h]
   · split
     · rename_i e
       subst e
       simp
     · simp
abbrev upN (l:List Int):Prop:=l.Pairwise (· < ·)
theorem putN_up:∀ (l:List Int) (n:Int),upN l → upN (putN l n):=by
 intro l
 induction l with
 | nil=>intro n _;simp [putN]
 | cons x l ih=>
   intro n h
   obtain ⟨h1,h2⟩:=List.pairwise_cons.1 h
   rw [putN]
   split
   · rename_i c
     refine List.pairwise_cons.2 ⟨fun z hz=>?_,ih n h2⟩
     rcases (putN_mem _ _ _).1 hz with rfl|hz
     · exact c
     · exact h1 z hz
   · split
     · exact h
     · refine List.pairwise_cons.2 ⟨fun z hz=>?_,h⟩
       rcases List.mem_cons.1 hz with rfl|hz
       · omega
       · have:=h1 z hz;omega
def edg1 (e:List Int) (r:Rn):List Int:=if rnR r then putN (putN e r.fr) (r.to + 1) else e
def edgR (e:List Int) (l:List Rn):List Int:=l.foldl edg1 e
theorem edg1_up {e:List Int} {r:Rn} (h:upN e):upN (edg1 e r):=by
 unfold edg1;split
 · exact putN_up _ _ (putN_up _ _ h)
 · exact h
theorem edgR_up:∀ (l:List Rn) (e:List Int),upN e → upN (edgR e l):=by
 intro l
 induction l with
 | nil=>intro e h;exact h
 | cons r l ih=>intro e h;exact ih _ (edg1_up h)
theorem edgR_mem:∀ (l:List Rn) (e:List Int) (m:Int),m ∈ edgR e l ↔ m ∈ e ∨ ∃ r ∈ l,rnR r = true ∧ (m = r.fr ∨ m = r.to + 1):=by
 intro l
 induction l with
 | nil=>intro e m;simp [edgR]
 | cons r l ih=>
   intro e m
   show m ∈ edgR (edg1 e r) l ↔ _
   rw [ih]
   unfold edg1
   by_cases c:rnR r = true
   · rw [if_pos c,putN_mem,putN_mem]
     constructor
     · rintro ((h|h|h)|⟨x,hx,h⟩)
       · exact .inr ⟨r,by simp,c,.inr h⟩
       · exact .inr ⟨r,by simp,c,.inl h⟩
       · exact .inl h
       · exact .inr ⟨x,by simp [hx],h⟩
     · rintro (h|⟨x,hx,h⟩)
       · exact .inl (.inr (.inr h))
       · rcases List.mem_cons.1 hx with rfl|hx
         · rcases h.2 with h|h
           · exact .inl (.inr (.inl h))
           · exact .inl (.inl h)
         · exact .inr ⟨x,hx,h⟩
   · rw [if_neg c]
     constructor
     · rintro (h|⟨x,hx,h⟩)
       · exact .inl h
       · exact .inr ⟨x,by simp [hx],h⟩
     · rintro (h|⟨x,hx,h⟩)
       · exact .inl h
       · rcases List.mem_cons.1 hx with rfl|hx
         · exact absurd h.1 c
         · exact .inr ⟨x,hx,h⟩
theorem edgR_len:∀ (l:List Rn) (e:List Int),(edgR e l).length ≤ e.length + 2 * l.length:=by
 have h1:∀ (l:List Int) (n:Int),(putN l n).length ≤ l.length + 1:=by
   intro l
   induction l with
   | nil=>intro n;simp [putN]
   | cons x l ih=>
     intro n
     rw [putN]
     split
     · have:=ih n;simp;omega
     · split <;> simp
 intro l
 induction l with
 | nil=>intro e;simp [edgR]
 | cons r l ih=>
   intro e
   show (edgR (edg1 e r) l).length ≤ _
   have h2:=ih (edg1 e r)
   have h3:(edg1 e r).length ≤ e.length + 2:=by
     unfold edg1
     split
     · have a:=h1 (putN e r.fr) (r.to + 1)
       have b:=h1 e r.fr
       omega
     · omega
   rw [List.length_cons];omega
/-- the stretches between edges of which it is said -/
def segF (f:Int → Bool):List Int → List Rn
 | e :: e' :: E=>(if f e then [⟨e,e' - 1⟩] else []) ++ segF f (e' :: E)
 | _=>[]
theorem segF_low (f:Int → Bool):∀ (E:List Int) (e:Int),upN (e :: E) → (∀ m ∈ e :: E,1 ≤ m ∧ m ≤ 1099511627777) → ∀ r ∈ segF f (e :: E),rnR r = true ∧ e ≤ r.fr:=by
 intro E
 induction E with
 | nil=>intro e _ _ r hr;simp [segF] at hr
 | cons e' E ih=>
   intro e h hm r hr
   obtain ⟨h1,h2⟩:=List.pairwise_cons.1 h
   have h3:=h1 e' (by simp)
   rw [segF,List.mem_append] at hr
   rcases hr with hr|hr
   · split at hr
     · have hr:r = ⟨e,e' - 1⟩:=by simpa using hr
       subst hr
       have a:=hm e (by simp)
       have b:=hm e' (by simp)
       exact ⟨(rnR_iff _).2 (by simp only;omega),Int.le_refl _⟩
     · simp at hr
   · have:=ih e' h2 (fun m hm'=>hm m (by simp at hm' ⊢;exact .inr hm')) r hr
     exact ⟨this.1,by omega⟩
theorem segF_srt (f:Int → Bool):∀ (E:List Int),upN E → (∀ m ∈ E,1 ≤ m ∧ m ≤ 1099511627777) → srtR (segF f E):=by
 intro E
 induction E with
 | nil=>intro _ _;exact List.Pairwise.nil
 | cons e E ih=>
   intro h hm
   cases E with
   | nil=>exact List.Pairwise.nil
   | cons e' E=>
     obtain ⟨h1,h2⟩:=List.pairwise_cons.1 h
     have hm':∀ m ∈ e' :: E,1 ≤ m ∧ m ≤ 1099511627777:=fun m q=>hm m (by simp at q ⊢;exact .inr q)
     have h3:=ih h2 hm'
     rw [segF]
     split
     · refine List.pairwise_cons.2 ⟨fun z hz=>?_,h3⟩
       have:=(segF_low f E e' h2 hm' z hz).2
       have:=h1 e' (by simp)
       simp only;omega
     · exact h3
/-- what is said turns at edges alone -/
structure Cst (f:Int → Bool) (M:Int → Prop):Prop where
 mid:∀ e n,e ≤ n → (∀ m,M m → m ≤ e ∨ n < m) → f e = f n
 lo:∀ n,(∀ m,M m → n < m) → f n = false
 hi:∀ n,(∀ m,M m → m ≤ n) → f n = false
theorem segF_has {f:Int → Bool} {M:Int → Prop} (hf:Cst f M):∀ (E:List Int) (e:Int),upN (e :: E) → (∀ m ∈ e :: E,1 ≤ m ∧ m ≤ 1099511627777) → (∀ m,M m → m ≤ e ∨ m ∈ E) → ∀ n,e ≤ n → (hasR (segF f (e :: E)) n ↔ f n = true):=by
 intro E
 induction E with
 | nil=>
   intro e _ _ hM n hn
   have : f n = false := hf.hi n (fun m hm => by rcases hM m hm with h | h; · omega
                                                 · simp at h)
   rw [this]
   simp [segF,hasR_nil]
 | cons e' E ih=>
   intro e h hm hM n hn
   obtain ⟨h1,h2⟩:=List.pairwise_cons.1 h
   have h3:=h1 e' (by simp)
   have hm':∀ m ∈ e' :: E,1 ≤ m ∧ m ≤ 1099511627777:=fun m q=>hm m (by simp at q ⊢;exact .inr q)
   obtain ⟨h4,_⟩:=List.pairwise_cons.1 h2
   have a:=hm e (by simp)
   have b:=hm e' (by simp)
   rw [segF,hasR_app]
   by_cases c:n < e'
   · have hno:¬ hasR (segF f (e' :: E)) n:=fun ⟨r,hr,_,q,_⟩=>by
       have:=(segF_low f E e' h2 hm' r hr).2
       omega
     have he:f e = f n:=hf.mid e n hn (fun m q=>by
       rcases hM m q with z|z
       · exact .inl z
       · rcases List.mem_cons.1 z with rfl|z
         · exact .inr c
         · have:=h4 m z
           exact .inr (by omega))
     rw [← he]
     constructor
     · rintro (q|q)
       · split at q
         · assumption
         · exact absurd q (hasR_nil n)
       · exact absurd q hno
     · intro q
       rw [if_pos q]
       exact .inl ((hasR_cons _ _ _).2 (.inl ⟨(rnR_iff _).2 (by simp only;omega),hn,by simp only;omega⟩))
   · rw [ih e' h2 hm' (fun m q=>by
       rcases hM m q with z|z
       · exact .inl (by omega)
       · rcases List.mem_cons.1 z with rfl|z
         · exact .inl (Int.le_refl _)
         · exact .inr z) n (by omega)]
     constructor
     · rintro (q|q)
       · split at q
         · rcases (hasR_cons _ _ _).1 q with q|q
           · simp only at q;omega
           · exact absurd q (hasR_nil n)
         · exact absurd q (hasR_nil n)
       · exact q
     · exact .inr
def opR (f:Int → Bool) (a b:List Rn):List Rn:=mergeR (segF f (edgR (edgR [] a) b))
/-- what is said of counts by whether lists have them -/
def byR (keep:Bool → Bool → Bool) (a b:List Rn) (n:Int):Bool:=keep (hasRb a n) (hasRb b n)
abbrev edM (a b:List Rn) (m:Int):Prop:=m ∈ edgR (edgR [] a) b
theorem edM_iff (a b:List Rn) (m:Int):edM a b m ↔ (∃ r ∈ a,rnR r = true ∧ (m = r.fr ∨ m = r.to + 1)) ∨ ∃ r ∈ b,rnR r = true ∧ (m = r.fr ∨ m = r.to + 1):=by
 unfold edM
 rw [edgR_mem,edgR_mem]
 simp
theorem hasRb_mid {l:List Rn} {e n:Int} (hen:e ≤ n) (h:∀ r ∈ l,rnR r = true → (r.fr ≤ e ∨ n < r.fr) ∧ (r.to + 1 ≤ e ∨ n < r.to + 1)):hasRb l e = hasRb l n:=by
 rw [Bool.eq_iff_iff,hasRb_iff,hasRb_iff]
 refine ⟨fun ⟨r,hr,c,q⟩=>?_,fun ⟨r,hr,c,q⟩=>?_⟩
 · have:=h r hr c
   exact ⟨r,hr,c,by omega,by omega⟩
 · have:=h r hr c
   exact ⟨r,hr,c,by omega,by omega⟩
theorem hasRb_no {l:List Rn} {n:Int} (h:∀ r ∈ l,rnR r = true → n < r.fr ∨ r.to + 1 ≤ n):hasRb l n = false:=by
 rw [← Bool.not_eq_true,hasRb_iff]
 rintro ⟨r,hr,c,q⟩
 have:=h r hr c
 omega
theorem byR_cst {keep:Bool → Bool → Bool} (hk:keep false false = false) (a b:List Rn):Cst (byR keep a b) (edM a b):=by
 have inA:∀ r ∈ a,rnR r = true → edM a b r.fr ∧ edM a b (r.to + 1):=fun r hr c=>⟨(edM_iff _ _ _).2 (.inl ⟨r,hr,c,.inl rfl⟩),(edM_iff _ _ _).2 (.inl ⟨r,hr,c,.inr rfl⟩)⟩
 have inB:∀ r ∈ b,rnR r = true → edM a b r.fr ∧ edM a b (r.to + 1):=fun r hr c=>⟨(edM_iff _ _ _).2 (.inr ⟨r,hr,c,.inl rfl⟩),(edM_iff _ _ _).2 (.inr ⟨r,hr,c,.inr rfl⟩)⟩
 refine ⟨fun e n hen h=>?_,fun n h=>?_,fun n h=>?_⟩
 · unfold byR
   rw [hasRb_mid hen (fun r hr c=>⟨h _ (inA r hr c).1,h _ (inA r hr c).2⟩),hasRb_mid hen (fun r hr c=>⟨h _ (inB r hr c).1,h _ (inB r hr c).2⟩)]
 · unfold byR
   rw [hasRb_no (fun r hr c=>.inl (h _ (inA r hr c).1)),hasRb_no (fun r hr c=>.inl (h _ (inB r hr c).1)),hk]
 · unfold byR
   rw [hasRb_no (fun r hr c=>.inr (h _ (inA r hr c).2)),hasRb_no (fun r hr c=>.inr (h _ (inB r hr c).2)),hk]
theorem edM_rng {a b:List Rn} {m:Int} (h:edM a b m):1 ≤ m ∧ m ≤ 1099511627777:=by
 rcases (edM_iff _ _ _).1 h with ⟨r,_,c,q⟩|⟨r,_,c,q⟩ <;>
 · have:=(rnR_iff r).1 c
   omega
theorem opR_ok {keep:Bool → Bool → Bool} (hk:keep false false = false) (a b:List Rn):rnsOk (opR (byR keep a b) a b) ∧ ∀ n,hasR (opR (byR keep a b) a b) n ↔ byR keep a b n = true:=by
 have hc:=byR_cst hk a b
 have hup:upN (edgR (edgR [] a) b):=edgR_up _ _ (edgR_up _ _ List.Pairwise.nil)
 have hrg:∀ m ∈ edgR (edgR [] a) b,1 ≤ m ∧ m ≤ 1099511627777:=fun m hm=>edM_rng hm
 unfold opR
 unfold edM at hc
 generalize byR keep a b = f at *
 generalize edgR (edgR [] a) b = E at *
 have hR:∀ r ∈ segF f E,rnR r = true:=fun r hr=>by
   cases E with
   | nil=>simp [segF] at hr
   | cons e E=>exact (segF_low f E e hup hrg r hr).1
 have h1:=mergeR_ok (segF_srt f E hup hrg) hR
 refine ⟨h1.1,fun n=>?_⟩
 rw [h1.2 n]
 cases E with
 | nil=>
   rw [hc.lo n (fun m hm=>by simp at hm)]
   simp [segF,hasR_nil]
 | cons e E=>
   by_cases q:e ≤ n
   · exact segF_has hc E e hup hrg (fun m hm=>by
       rcases List.mem_cons.1 hm with rfl|hm
       · exact .inl (Int.le_refl _)
       · exact .inr hm) n q
   · rw [hc.lo n (fun m hm=>by
       rcases List.mem_cons.1 hm with rfl|hm
       · omega
       · have:=(List.pairwise_cons.1 hup).1 m hm;omega)]
     refine ⟨fun ⟨r,hr,_,z,_⟩=>?_,fun z=>by cases z⟩
     have:=(segF_low f E e hup hrg r hr).2
     omega
theorem segF_len (f:Int → Bool):∀ (E:List Int),(segF f E).length ≤ E.length:=by
 intro E
 induction E with
 | nil=>simp [segF]
 | cons e E ih=>
   cases E with
   | nil=>simp [segF]
   | cons e' E=>
     rw [segF,List.length_append]
     have:(if f e then [(⟨e,e' - 1⟩:Rn)] else []).length ≤ 1:=by split <;> simp
     simp only [List.length_cons] at ih ⊢
     omega
theorem opR_len (f:Int → Bool) (a b:List Rn):(opR f a b).length ≤ 2 * (a.length + b.length):=by
 have h1:=mergeR_len (segF f (edgR (edgR [] a) b))
 have h2:=segF_len f (edgR (edgR [] a) b)
 have h3:=edgR_len b (edgR [] a)
 have h4:=edgR_len a []
 unfold opR
 simp at h4
 omega
/-- a right list that has just what is said of both -/
theorem opR_eq {keep:Bool → Bool → Bool} (hk:keep false false = false) {a b m:List Rn} (h:rnsOk m) (e:∀ n,hasR m n ↔ byR keep a b n = true):opR (byR keep a b) a b = m:=
 rnsOk_uniq (opR_ok hk a b).1 h (fun n=>((opR_ok hk a b).2 n).trans (e n).symm)
theorem opR_or (a b:List Rn):opR (byR (fun x y=>x || y) a b) a b = ofR (a ++ b):=by
 refine opR_eq rfl (ofR_ok _) (fun n=>?_)
 rw [ofR_has,hasR_app,byR,Bool.or_eq_true,hasRb_iff,hasRb_iff]
def lessK (x y:Bool):Bool:=x && !y
def lessR (a b:List Rn):List Rn:=opR (byR lessK a b) a b
end Go.Proofs.YtembiemaiacdfaaGreat
namespace Go.Proofs.YtembiemaiacdfaaGreat
/-- where a sweep stands in a list -/
structure SwP (l:List Rn) (a:Int) (i:Nat):Prop where
 le:i ≤ l.length
 lo:∀ j (h:j < l.length),j < i → l[j].to < a
 hi:∀ j (h:j < l.length),i ≤ j → a ≤ l[j].to
def cnS (l:List Rn) (i:Nat) (a:Int):Nat:=2 * i + (if h:i < l.length then (if l[i].fr ≤ a then 1 else 0) else 0)
section
variable {l:List Rn} {a e:Int} {i:Nat}
theorem cnS_le (h:i ≤ l.length):cnS l i a ≤ 2 * l.length:=by
 unfold cnS;split
 · split <;> omega
 · omega
end
/-- a sweep through two lists: what has been said so far -/
structure Swp (keep:Bool → Bool → Bool) (A B:List Rn) (a:Int) (i k:Nat) (out:List Rn):Prop where
 pos:1 ≤ a
 p:SwP A a i
 q:SwP B a k
 right:∀ r ∈ out,rnR r = true
 has:∀ n,hasR out n ↔ n < a ∧ byR keep A B n = true
 few:out.length ≤ cnS A i a + cnS B k a
theorem Swp.done {keep:Bool → Bool → Bool} (hk:keep false false = false) {A B:List Rn} {a:Int} {i k:Nat} {out:List Rn} (s:Swp keep A B a i k out) (h:¬ a ≤ 1099511627776 ∨ ¬ i < A.length ∧ ¬ k < B.length) :
   ofR out = opR (byR keep A B) A B:=by
 refine (opR_eq hk (ofR_ok out) (fun n=>?_)).symm
 rw [ofR_has,s.has n]
 refine ⟨fun q=>q.2,fun q=>⟨?_,q⟩⟩
 refine Classical.byContradiction fun z=>?_
 have no:∀ {l:List Rn} {i:Nat},SwP l a i → (¬ a ≤ 1099511627776 ∨ ¬ i < l.length) → hasRb l n = false:=fun {l i} p h=>by
   rw [← Bool.not_eq_true,hasRb_iff]
   intro w
   have w':=hasR_pos w
   obtain ⟨r,hr,_,w1⟩:=w
   obtain ⟨j,hj,rfl⟩:=List.getElem_of_mem hr
   rcases h with h|h
   · omega
   · have:=p.lo j hj (by omega);omega
 rw [byR,no s.p (h.imp id (·.1)),no s.q (h.imp id (·.2)),hk] at q
 cases q
theorem Swp.len {keep:Bool → Bool → Bool} {A B:List Rn} {a:Int} {i k:Nat} {out:List Rn} (s:Swp keep A B a i k out):out.length ≤ 2 * (A.length + B.length):=by
 have h1:=s.few
 have h2:=cnS_le (a:=a) s.p.le
 have h3:=cnS_le (a:=a) s.q.le
 omega
section
variable {P:Program} {n t:Nat} {ops:Array Oper} {o:Oper} {S:St}
end
section
end
def isPl:Cnt → Bool
 | .per _=>true
 | .bor _ _=>true
 | _=>false
theorem crep_low {C:Ctx} {w:World} {c:Cnt} (hc:isPl c = true) {v:Value} (h:crep C z0 C.G0 w v c):crep ⟨w,fun b=>C.N0 b ∨ C.G0.ow b ≠ none,fun _=>False,g0⟩ (fun _=>0) g0 w v c:=by
 have hn:∀ b,b < w.heap.size → Gh.N g0 ⟨w,fun b=>C.N0 b ∨ C.G0.ow b ≠ none,fun _=>False,g0⟩ b → C.G0.N C b:=fun b _ q=>by
   rcases q with q|q
   · exact q
   · exact absurd rfl q
 cases c with
 | per A=>exact A.mono (Nat.le_refl _) (fun _ _ _=>rfl) hn h
 | bor k es=>exact lstAt.mono (Nat.le_refl _) (fun _ _ _=>rfl) (fun _ _ _=>rfl) (fun b _ q=>absurd rfl q) hn h
 | _=>cases hc
theorem Fn.toM {P:Program} {f:FuncId} {As:List Cnt} {A:PV} (h:Fn P f As (.per A)) (hA:As.all isPl = true:=by rfl):FnM P f As [] (.per A) []:=by
 refine ⟨h.ent,?_⟩
 intro C w vs _ hN hO hl hvs _
 refine (h.run (fun b=>C.N0 b ∨ C.G0.ow b ≠ none) w vs (fun b q=>?_) ⟨hl,fun i v c h1 h2=>crep_low (List.all_eq_true.1 hA c (List.mem_of_getElem? h2)) (hvs i v c h1 h2)⟩).mono ?_
 · rcases q with q|q
   · exact (hN b q).1
   · obtain ⟨id,e⟩:=Option.ne_none_iff_exists'.1 q
     exact (hO b id e).1
 · rintro e w' ⟨v,rfl,hx,hr⟩
   refine ⟨v,C.G0,rfl,⟨hx.os,hx.tape,hx.output,hx.size,fun b hb _=>hx.block b hb,fun b id q=>⟨Nat.lt_of_lt_of_le (hO b id q).1 hx.size,.inr (hO b id q).2⟩,fun _ _=>⟨rfl,rfl⟩⟩,?_,fun id=>trivial⟩
   exact hr
abbrev ownKn (l:List Kn):Ret:=.own 130 2 (l.map knP)
/-- replica by replica, what the one has and not the other -/
def lessTab (T U:List (List Rn)):List (List Rn):=List.zipWith lessR T U
def vsLess (a b:List Kn):List Kn:=setFrom ofR 0 (lessTab (tabOf a) (tabOf b))
theorem tabOf_lens (s:List Kn) (hs:knsTot s):∀ l ∈ tabOf s,l.length ≤ 1000000000:=fun l hl=>by
 obtain ⟨r,_,rfl⟩:=List.mem_map.1 hl
 have:=tabAt_len s r
 have:=hs.2
 omega
theorem tabC_per {F:Cnt → Cnt} (h:∀ A,F (.per A) = .per A) {T:List (List Rn)}:(tabC T).map F = tabC T:=by
 unfold tabC
 rw [List.map_map]
 exact List.map_congr_left fun x _=>h _
section
theorem vset_Of (s:List Kn) (hs:knsTot s):Fn Tryz.prog 148 [knsB s] (ownKn (vsOf ofR s)):=
 vs_Of ofR s hs (fun l hl=>cnt_Of l (tabOf_lens s hs l hl))
def knsMid (s:List Kn):Prop:=s.length ≤ 100000000 ∧ (s.flatMap Kn.runs).length ≤ 100000000
theorem knsMid.tot {s:List Kn} (h:knsMid s):knsTot s:=⟨by have:=h.1;omega,by have:=h.2;omega⟩
end
end Go.Proofs.YtembiemaiacdfaaGreat
namespace Go.Proofs.YtembiemaiacdfaaGreat
/-- a strict weak order -/
structure SWo {α:Type} (lt:α → α → Bool):Prop where
 irr:∀ x,lt x x = false
 tr:∀ x y z,lt x y = true → lt y z = true → lt x z = true
 ntr:∀ x y z,lt x y = false → lt y z = false → lt x z = false
section
variable {α:Type} {lt:α → α → Bool}
def eqv (lt:α → α → Bool) (x y:α):Bool:=!lt x y && !lt y x
/-- nothing stands behind what it is less than -/
def Srt (lt:α → α → Bool) (l:List α):Prop:=l.Pairwise fun x y=>lt y x = false
/-- N has the same as M, equals in the same order -/
def Alk (lt:α → α → Bool) (M N:List α):Prop:=∀ x,N.filter (eqv lt x) = M.filter (eqv lt x)
theorem SWo.lt_of (h:SWo lt) {x y z:α} (h1:lt x y = true) (h2:lt z y = false):lt x z = true:=by
 cases hxz:lt x z with
 | true=>rfl
 | false=>have:=h.ntr x z y hxz h2;rw [h1] at this;cases this
theorem SWo.lt_of' (h:SWo lt) {x y z:α} (h1:lt x y = true) (h2:lt x z = false):lt z y = true:=by
 cases hzy:lt z y with
 | true=>rfl
 | false=>have:=h.ntr x z y h2 hzy;rw [h1] at this;cases this
theorem SWo.asym (h:SWo lt) {x y:α} (h1:lt x y = true):lt y x = false:=by
 cases hyx:lt y x with
 | false=>rfl
 | true=>have:=h.tr x y x h1 hyx;rw [h.irr] at this;cases this
theorem eqv_self (h:SWo lt) (x:α):eqv lt x x = true:=by simp [eqv,h.irr]
theorem eqv_congr (h:SWo lt) {x y z:α} (h1:eqv lt x y = true):eqv lt y z = eqv lt x z:=by
 simp only [eqv,Bool.and_eq_true,Bool.not_eq_true'] at h1
 unfold eqv
 have e1:lt y z = lt x z:=by
   cases hb:lt y z with
   | true=>exact (h.lt_of' hb h1.2).symm
   | false=>exact (h.ntr x y z h1.1 hb).symm
 have e2:lt z y = lt z x:=by
   cases hb:lt z y with
   | true=>exact (h.lt_of hb h1.1).symm
   | false=>exact (h.ntr z y x hb h1.2).symm
 rw [e1,e2]
theorem Alk.refl (M:List α):Alk lt M M:=fun _=>rfl
theorem Alk.trans {M N O:List α} (h1:Alk lt M N) (h2:Alk lt N O):Alk lt M O:=fun x=>(h2 x).trans (h1 x)
theorem Alk.symm {M N:List α} (h1:Alk lt M N):Alk lt N M:=fun x=>(h1 x).symm
theorem Alk.app {M N M' N':List α} (h1:Alk lt M N) (h2:Alk lt M' N'):Alk lt (M ++ M') (N ++ N'):=fun x=>by
 rw [List.filter_append,List.filter_append,h1 x,h2 x]
theorem Alk.mem (h:SWo lt) {M N:List α} (h1:Alk lt M N) {x:α} (hx:x ∈ N):x ∈ M:=by
 have:x ∈ N.filter (eqv lt x):=List.mem_filter.2 ⟨hx,eqv_self h x⟩
 rw [h1 x] at this
 exact (List.mem_filter.1 this).1
theorem Alk.mem' (h:SWo lt) {M N:List α} (h1:Alk lt M N) {x:α} (hx:x ∈ M):x ∈ N:=h1.symm.mem h hx
/-- sorted, alike: the same -/
theorem Srt.uniq (h:SWo lt):∀ {M N:List α},Srt lt M → Srt lt N → Alk lt M N → M = N:=by
 intro M
 induction M with
 | nil=>
   intro N _ _ ha
   cases N with
   | nil=>rfl
   | cons y N=>exact absurd (ha.mem h List.mem_cons_self) (by simp)
 | cons x M ih=>
   intro N hM hN ha
   cases N with
   | nil=>exact absurd (ha.mem' h (x:=x) List.mem_cons_self) (by simp)
   | cons y N=>
     have hM':=List.pairwise_cons.1 hM
     have hN':=List.pairwise_cons.1 hN
     have hyM:=ha.mem h (x:=y) List.mem_cons_self
     have hxN:=ha.mem' h (x:=x) List.mem_cons_self
     have h1:lt y x = false:=by
       rcases List.mem_cons.1 hyM with e|e
       · rw [e];exact h.irr x
       · exact hM'.1 y e
     have h2:lt x y = false:=by
       rcases List.mem_cons.1 hxN with e|e
       · rw [e];exact h.irr y
       · exact hN'.1 x e
     have hE:eqv lt x y = true:=by simp [eqv,h1,h2]
     have hx:=ha x
     rw [List.filter_cons_of_pos hE,List.filter_cons_of_pos (eqv_self h x)] at hx
     injection hx with e1 e2
     subst e1
     rw [ih hM'.2 hN'.2 (fun z=>?_)]
     have hz:=ha z
     rw [List.filter_cons,List.filter_cons] at hz
     split at hz
     · injection hz
     · exact hz
/-- what is put among others: behind the last one that it does not stand ahead of -/
def insS (lt:α → α → Bool) (x:α):List α → List α → List α
 | [],r=>x :: r
 | y :: l,r=>if lt x y then insS lt x l (y :: r) else (y :: l).reverse ++ x :: r
def insT (lt:α → α → Bool) (p:List α) (x:α):List α:=insS lt x p.reverse []
def srtS (lt:α → α → Bool) (l:List α):List α:=l.foldl (insT lt) []
theorem insS_spec (h:SWo lt) (x:α):∀ (l r:List α),Srt lt (l.reverse ++ r) → (∀ y ∈ r,lt x y = true) → Srt lt (insS lt x l r) ∧ Alk lt (l.reverse ++ r ++ [x]) (insS lt x l r):=by
 intro l
 induction l with
 | nil=>
   intro r hs hr
   refine ⟨List.pairwise_cons.2 ⟨fun y hy=>h.asym (hr y hy),by simpa [Srt] using hs⟩,fun z=>?_⟩
   simp only [insS,List.reverse_nil,List.nil_append,List.filter_append,List.filter_cons,List.filter_nil]
   split
   · rename_i hz
     have:r.filter (eqv lt z) = []:=by
       rw [List.filter_eq_nil_iff]
       intro y hy he
       rw [eqv_congr h hz |>.symm] at he
       simp [eqv,hr y hy] at he
     rw [this];rfl
   · simp
 | cons y l ih=>
   intro r hs hr
   unfold insS
   split
   · rename_i hxy
     have:=ih (y :: r) (by simpa using hs) (fun z hz=>by
       rcases List.mem_cons.1 hz with e|e
       · rw [e];exact hxy
       · exact hr z e)
     simpa using this
   · rename_i hxy
     have hxy:lt x y = false:=by simpa using hxy
     have hlr:∀ z ∈ (y :: l).reverse,lt x z = false:=by
       intro z hz
       have hz':z ∈ y :: l:=List.mem_reverse.1 hz
       rcases List.mem_cons.1 hz' with e|e
       · rw [e];exact hxy
       · have hs1:Srt lt (l.reverse ++ [y]):=by
           have:Srt lt ((l.reverse ++ [y]) ++ r):=by simpa using hs
           exact (List.pairwise_append.1 this).1
         have hq:=(List.pairwise_append.1 hs1).2.2 z (by simpa using e) y (by simp)
         exact h.ntr x y z hxy hq
     have hs':=List.pairwise_append.1 hs
     refine ⟨List.pairwise_append.2 ⟨hs'.1,List.pairwise_cons.2 ⟨fun z hz=>h.asym (hr z hz),hs'.2.1⟩,fun a ha b hb=>?_⟩,fun z=>?_⟩
     · rcases List.mem_cons.1 hb with e|e
       · rw [e];exact hlr a ha
       · exact hs'.2.2 a ha b e
     · simp only [List.filter_append,List.filter_cons,List.filter_nil,List.append_assoc]
       congr 1
       split
       · rename_i hz
         have:r.filter (eqv lt z) = []:=by
           rw [List.filter_eq_nil_iff]
           intro y hy he
           rw [eqv_congr h hz |>.symm] at he
           simp [eqv,hr y hy] at he
         rw [this];rfl
       · simp
theorem insT_spec (h:SWo lt) {p:List α} (hp:Srt lt p) (x:α):Srt lt (insT lt p x) ∧ Alk lt (p ++ [x]) (insT lt p x):=by
 have:=insS_spec h x p.reverse [] (by simpa using hp) (fun y hy=>by simp at hy)
 simpa [insT] using this
theorem srtS_spec (h:SWo lt) (l:List α):Srt lt (srtS lt l) ∧ Alk lt l (srtS lt l):=by
 have key:∀ (l p:List α),Srt lt p → Srt lt (l.foldl (insT lt) p) ∧ Alk lt (p ++ l) (l.foldl (insT lt) p):=by
   intro l
   induction l with
   | nil=>intro p hp;exact ⟨hp,by simpa using Alk.refl p⟩
   | cons x l ih=>
     intro p hp
     obtain ⟨h1,h2⟩:=insT_spec h hp x
     obtain ⟨h3,h4⟩:=ih _ h1
     refine ⟨h3,Alk.trans ?_ h4⟩
     have:=h2.app (Alk.refl l)
     simpa using this
 simpa [srtS] using key l [] List.Pairwise.nil
theorem srtS_of (h:SWo lt) {M N:List α} (h1:Srt lt N) (h2:Alk lt M N):srtS lt M = N:=
 (srtS_spec h M).1.uniq h h1 ((srtS_spec h M).2.symm.trans h2)
theorem srtS_alk (h:SWo lt) {M N:List α} (h2:Alk lt M N):srtS lt M = srtS lt N:=
 srtS_of h (srtS_spec h N).1 (h2.trans (srtS_spec h N).2)
theorem srtS_id (h:SWo lt) {M:List α} (h1:Srt lt M):srtS lt M = M:=srtS_of h h1 (Alk.refl M)
theorem srtS_mem (h:SWo lt) {M:List α} {x:α}:x ∈ srtS lt M ↔ x ∈ M:=⟨fun q=>(srtS_spec h M).2.mem h q,fun q=>(srtS_spec h M).2.mem' h q⟩
theorem insS_len (x:α):∀ (l r:List α),(insS lt x l r).length = l.length + 1 + r.length:=by
 intro l
 induction l with
 | nil=>intro r;simp [insS];omega
 | cons y l ih=>
   intro r
   unfold insS
   split
   · rw [ih];simp;omega
   · simp;omega
theorem srtS_len (l:List α):(srtS lt l).length = l.length:=by
 have:∀ (l p:List α),(l.foldl (insT lt) p).length = p.length + l.length:=by
   intro l
   induction l with
   | nil=>intro p;rfl
   | cons x l ih=>
     intro p
     rw [List.foldl_cons,ih]
     unfold insT
     rw [insS_len];simp;omega
 simpa [srtS] using this l []
/-- two sorted lists, cut in two each, the heads no greater than the other's tail: the heads merged, and the tails -/
theorem srtS_cut (h:SWo lt) {L1 L2 R1 R2:List α} (hL:Srt lt (L1 ++ L2)) (hR:Srt lt (R1 ++ R2)) (h1:∀ x ∈ L1,∀ y ∈ R2,lt y x = false) (h2:∀ x ∈ R1,∀ y ∈ L2,lt x y = true) :
   srtS lt ((L1 ++ L2) ++ (R1 ++ R2)) = srtS lt (L1 ++ R1) ++ srtS lt (L2 ++ R2):=by
 have hL':=List.pairwise_append.1 hL
 have hR':=List.pairwise_append.1 hR
 refine srtS_of h (List.pairwise_append.2 ⟨(srtS_spec h _).1,(srtS_spec h _).1,fun a ha b hb=>?_⟩) ?_
 · rw [srtS_mem h] at ha hb
   rcases List.mem_append.1 ha with ha|ha <;> rcases List.mem_append.1 hb with hb|hb
   · exact hL'.2.2 a ha b hb
   · exact h1 a ha b hb
   · exact h.asym (h2 a ha b hb)
   · exact hR'.2.2 a ha b hb
 · refine Alk.trans (N:=(L1 ++ R1) ++ (L2 ++ R2)) (fun x=>?_) ((srtS_spec h _).2.app (srtS_spec h _).2)
   simp only [List.filter_append,List.append_assoc]
   congr 1
   rw [← List.append_assoc,← List.append_assoc]
   congr 1
   by_cases he:∃ y ∈ R1,eqv lt x y = true
   · obtain ⟨y,hy,he⟩:=he
     have:L2.filter (eqv lt x) = []:=by
       rw [List.filter_eq_nil_iff]
       intro z hz hz2
       rw [eqv_congr h he |>.symm] at hz2
       simp [eqv,h2 y hy z hz] at hz2
     rw [this];simp
   · have:R1.filter (eqv lt x) = []:=by
       rw [List.filter_eq_nil_iff]
       exact fun z hz hz2=>he ⟨z,hz,hz2⟩
     rw [this];simp
/-- .. it is enough to look where they are cut -/
theorem srtS_cut_at (h:SWo lt) {L1 L2 R1 R2:List α} (hL:Srt lt (L1 ++ L2)) (hR:Srt lt (R1 ++ R2)) (h1:∀ x y,L1.getLast? = some x → R2.head? = some y → lt y x = false) (h2:∀ x y,R1.getLast? = some x → L2.head? = some y → lt x y = true) :
   srtS lt ((L1 ++ L2) ++ (R1 ++ R2)) = srtS lt (L1 ++ R1) ++ srtS lt (L2 ++ R2):=by
 have hlast:∀ {l:List α},Srt lt l → ∀ x ∈ l,∃ z,l.getLast? = some z ∧ lt z x = false:=by
   intro l hl x hx
   rcases List.eq_nil_or_concat l with e|⟨l',z,e⟩
   · subst e;simp at hx
   · rw [List.concat_eq_append] at e
     subst e
     refine ⟨z,by simp,?_⟩
     rcases List.mem_append.1 hx with q|q
     · exact (List.pairwise_append.1 hl).2.2 x q z (by simp)
     · simp at q;subst q;exact h.irr x
 have hhead:∀ {l:List α},Srt lt l → ∀ x ∈ l,∃ z,l.head? = some z ∧ lt x z = false:=by
   intro l hl x hx
   cases l with
   | nil=>simp at hx
   | cons z l=>
     refine ⟨z,rfl,?_⟩
     rcases List.mem_cons.1 hx with q|q
     · subst q;exact h.irr x
     · exact (List.pairwise_cons.1 hl).1 x q
 have hL':=List.pairwise_append.1 hL
 have hR':=List.pairwise_append.1 hR
 refine srtS_cut h hL hR (fun x hx y hy=>?_) (fun x hx y hy=>?_)
 · obtain ⟨a,ha,ha2⟩:=hlast hL'.1 x hx
   obtain ⟨b,hb,hb2⟩:=hhead hR'.2.1 y hy
   exact h.ntr y b x hb2 (h.ntr b a x (h1 a b ha hb) ha2)
 · obtain ⟨a,ha,ha2⟩:=hlast hR'.1 x hx
   obtain ⟨b,hb,hb2⟩:=hhead hL'.2.1 y hy
   exact h.lt_of (h.lt_of' (h2 a b ha hb) ha2) hb2
end
end Go.Proofs.YtembiemaiacdfaaGreat
