/- Texts joined: RnE KnE KnF Kn. -/
import Derived.Test.YtfcpkegmdlchhaaGreatJ12
import Derived.Test.YtfcpkegmdlchhaaGreatJ06
import Derived.Test.YtfcpkegmdlchhaaGreatJ09
set_option maxRecDepth 10000
set_option maxHeartbeats 8000000
namespace Go.Proofs.YtfcpkegmdlchhaaGreat
def hasRb (l:List Rn) (n:Int):Bool:=l.any fun r=>rnR r && (decide (r.fr ≤ n) && decide (n ≤ r.to))
theorem hasRb_iff (l:List Rn) (n:Int):hasRb l n = true ↔ hasR l n:=by
 unfold hasRb hasR
 rw [List.any_eq_true]
 simp
/-- a number put among rising ones, once -/
def putN:List Int → Int → List Int
 | [],n=>[n]
 | x :: l,n=>if x < n then x :: putN l n else if x = n then x :: l else n :: x :: l
theorem putN_mem:∀ (l:List Int) (n m:Int),m ∈ putN l n ↔ m = n ∨ m ∈ l:=by
 intro l
 induction l with
 | nil=>intro n m;simp [putN]
 | cons x l ih=>
   intro n m
   rw [putN]
   split
   · simp only [List.mem_cons,ih]
     constructor
     · rintro (h|h|h) <;> simp [h]
     · rintro (h|h|h) <;> simp [h]
   · split
     · rename_i e
       subst e
       simp
     · simp
abbrev upN (l:List Int):Prop:=l.Pairwise (· < ·)
theorem putN_up:∀ (l:List Int) (n:Int),upN l → upN (putN l n):=by
 intro l
 induction l with
 | nil=>intro n _;simp [putN]
 | cons x l ih=>
   intro n h
   obtain ⟨h1,h2⟩:=List.pairwise_cons.1 h
   rw [putN]
   split
   · rename_i c
     refine List.pairwise_cons.2 ⟨fun z hz=>?_,ih n h2⟩
     rcases (putN_mem _ _ _).1 hz with rfl|hz
     · exact c
     · exact h1 z hz
   · split
     · exact h
     · refine List.pairwise_cons.2 ⟨fun z hz=>?_,h⟩
       rcases List.mem_cons.1 hz with rfl|hz
       · omega
       · have:=h1 z hz;omega
def edg1 (e:List Int) (r:Rn):List Int:=if rnR r then putN (putN e r.fr) (r.to + 1) else e
def edgR (e:List Int) (l:List Rn):List Int:=l.foldl edg1 e
theorem edg1_up {e:List Int} {r:Rn} (h:upN e):upN (edg1 e r):=by
 unfold edg1;split
 · exact putN_up _ _ (putN_up _ _ h)
 · exact h
theorem edgR_up:∀ (l:List Rn) (e:List Int),upN e → upN (edgR e l):=by
 intro l
 induction l with
 | nil=>intro e h;exact h
 | cons r l ih=>intro e h;exact ih _ (edg1_up h)
theorem edgR_mem:∀ (l:List Rn) (e:List Int) (m:Int),m ∈ edgR e l ↔ m ∈ e ∨ ∃ r ∈ l,rnR r = true ∧ (m = r.fr ∨ m = r.to + 1):=by
 intro l
 induction l with
 | nil=>intro e m;simp [edgR]
 | cons r l ih=>
   intro e m
   show m ∈ edgR (edg1 e r) l ↔ _
   rw [ih]
   unfold edg1
   by_cases c:rnR r = true
   · rw [if_pos c,putN_mem,putN_mem]
     constructor
     · rintro ((h|h|h)|⟨x,hx,h⟩)
       · exact .inr ⟨r,by simp,c,.inr h⟩
       · exact .inr ⟨r,by simp,c,.inl h⟩
       · exact .inl h
       · exact .inr ⟨x,by simp [hx],h⟩
     · rintro (h|⟨x,hx,h⟩)
       · exact .inl (.inr (.inr h))
       · rcases List.mem_cons.1 hx with rfl|hx
         · rcases h.2 with h|h
           · exact .inl (.inr (.inl h))
           · exact .inl (.inl h)
         · exact .inr ⟨x,hx,h⟩
   · rw [if_neg c]
     constructor
     · rintro (h|⟨x,hx,h⟩)
       · exact .inl h
       · exact .inr ⟨x,by simp [hx],h⟩
     · rintro (h|⟨x,hx,h⟩)
       · exact .inl h
       · rcases List.mem_cons.1 hx with rfl|hx
         · exact absurd h.1 c
         · exact .inr ⟨x,hx,h⟩
theorem edgR_len:∀ (l:List Rn) (e:List Int),(edgR e l).length ≤ e.length + 2 * l.length:=by
 have h1:∀ (l:List Int) (n:Int),(putN l n).length ≤ l.length + 1:=by
   intro l
   induction l with
   | nil=>intro n;simp [putN]
   | cons x l ih=>
     intro n
     rw [putN]
     split
     · have:=ih n;simp;omega
     · split <;> simp
 intro l
 induction l with
 | nil=>intro e;simp [edgR]
 | cons r l ih=>
   intro e
   show (edgR (edg1 e r) l).length ≤ _
   have h2:=ih (edg1 e r)
   have h3:(edg1 e r).length ≤ e.length + 2:=by
     unfold edg1
     split
     · have a:=h1 (putN e r.fr) (r.to + 1)
       have b:=h1 e r.fr
       omega
     · omega
   rw [List.length_cons];omega
/-- the stretches between edges of which it is said -/
def segF (f:Int → Bool):List Int → List Rn
 | e :: e' :: E=>(if f e then [⟨e,e' - 1⟩] else []) ++ segF f (e' :: E)
 | _=>[]
theorem segF_low (f:Int → Bool):∀ (E:List Int) (e:Int),upN (e :: E) → (∀ m ∈ e :: E,1 ≤ m ∧ m ≤ 1099511627777) → ∀ r ∈ segF f (e :: E),rnR r = true ∧ e ≤ r.fr:=by
 intro E
 induction E with
 | nil=>intro e _ _ r hr;simp [segF] at hr
 | cons e' E ih=>
   intro e h hm r hr
   obtain ⟨h1,h2⟩:=List.pairwise_cons.1 h
   have h3:=h1 e' (by simp)
   rw [segF,List.mem_append] at hr
   rcases hr with hr|hr
   · split at hr
     · have hr:r = ⟨e,e' - 1⟩:=by simpa using hr
       subst hr
       have a:=hm e (by simp)
       have b:=hm e' (by simp)
       exact ⟨(rnR_iff _).2 (by simp only;omega),Int.le_refl _⟩
     · simp at hr
   · have:=ih e' h2 (fun m hm'=>hm m (by simp at hm' ⊢;exact .inr hm')) r hr
     exact ⟨this.1,by omega⟩
theorem segF_srt (f:Int → Bool):∀ (E:List Int),upN E → (∀ m ∈ E,1 ≤ m ∧ m ≤ 1099511627777) → srtR (segF f E):=by
 intro E
 induction E with
 | nil=>intro _ _;exact List.Pairwise.nil
 | cons e E ih=>
   intro h hm
   cases E with
   | nil=>exact List.Pairwise.nil
   | cons e' E=>
     obtain ⟨h1,h2⟩:=List.pairwise_cons.1 h
     have hm':∀ m ∈ e' :: E,1 ≤ m ∧ m ≤ 1099511627777:=fun m q=>hm m (by simp at q ⊢;exact .inr q)
     have h3:=ih h2 hm'
     rw [segF]
     split
     · refine List.pairwise_cons.2 ⟨fun z hz=>?_,h3⟩
       have:=(segF_low f E e' h2 hm' z hz).2
       have:=h1 e' (by simp)
       simp only;omega
     · exact h3
/-- what is said turns at edges alone -/
structure Cst (f:Int → Bool) (M:Int → Prop):Prop where
 mid:∀ e n,e ≤ n → (∀ m,M m → m ≤ e ∨ n < m) → f e = f n
 lo:∀ n,(∀ m,M m → n < m) → f n = false
 hi:∀ n,(∀ m,M m → m ≤ n) → f n = false
theorem segF_has {f:Int → Bool} {M:Int → Prop} (hf:Cst f M):∀ (E:List Int) (e:Int),upN (e :: E) → (∀ m ∈ e :: E,1 ≤ m ∧ m ≤ 1099511627777) → (∀ m,M m → m ≤ e ∨ m ∈ E) → ∀ n,e ≤ n → (hasR (segF f (e :: E)) n ↔ f n = true):=by
 intro E
 induction E with
 | nil=>
   intro e _ _ hM n hn
   have : f n = false := hf.hi n (fun m hm => by rcases hM m hm with h | h; · omega
                                                 · simp at h)
   rw [this]
   simp [segF,hasR_nil]
 | cons e' E ih=>
   intro e h hm hM n hn
   obtain ⟨h1,h2⟩:=List.pairwise_cons.1 h
   have h3:=h1 e' (by simp)
   have hm':∀ m ∈ e' :: E,1 ≤ m ∧ m ≤ 1099511627777:=fun m q=>hm m (by simp at q ⊢;exact .inr q)
   obtain ⟨h4,_⟩:=List.pairwise_cons.1 h2
   have a:=hm e (by simp)
   have b:=hm e' (by simp)
   rw [segF,hasR_app]
   by_cases c:n < e'
   · have hno:¬ hasR (segF f (e' :: E)) n:=fun ⟨r,hr,_,q,_⟩=>by
       have:=(segF_low f E e' h2 hm' r hr).2
       omega
     have he:f e = f n:=hf.mid e n hn (fun m q=>by
       rcases hM m q with z|z
       · exact .inl z
       · rcases List.mem_cons.1 z with rfl|z
         · exact .inr c
         · have:=h4 m z
           exact .inr (by omega))
     rw [← he]
     constructor
     · rintro (q|q)
       · split at q
         · assumption
         · exact absurd q (hasR_nil n)
       · exact absurd q hno
     · intro q
       rw [if_pos q]
       exact .inl ((hasR_cons _ _ _).2 (.inl ⟨(rnR_iff _).2 (by simp only;omega),hn,by simp only;omega⟩))
   · rw [ih e' h2 hm' (fun m q=>by
       rcases hM m q with z|z
       · exact .inl (by omega)
       · rcases List.mem_cons.1 z with rfl|z
         · exact .inl (Int.le_refl _)
         · exact .inr z) n (by omega)]
     constructor
     · rintro (q|q)
       · split at q
         · rcases (hasR_cons _ _ _).1 q with q|q
           · simp only at q;omega
           · exact absurd q (hasR_nil n)
         · exact absurd q (hasR_nil n)
       · exact q
     · exact .inr
def opR (f:Int → Bool) (a b:List Rn):List Rn:=mergeR (segF f (edgR (edgR [] a) b))
/-- what is said of counts by whether lists have them -/
def byR (keep:Bool → Bool → Bool) (a b:List Rn) (n:Int):Bool:=keep (hasRb a n) (hasRb b n)
abbrev edM (a b:List Rn) (m:Int):Prop:=m ∈ edgR (edgR [] a) b
theorem edM_iff (a b:List Rn) (m:Int):edM a b m ↔ (∃ r ∈ a,rnR r = true ∧ (m = r.fr ∨ m = r.to + 1)) ∨ ∃ r ∈ b,rnR r = true ∧ (m = r.fr ∨ m = r.to + 1):=by
 unfold edM
 rw [edgR_mem,edgR_mem]
 simp
theorem hasRb_mid {l:List Rn} {e n:Int} (hen:e ≤ n) (h:∀ r ∈ l,rnR r = true → (r.fr ≤ e ∨ n < r.fr) ∧ (r.to + 1 ≤ e ∨ n < r.to + 1)):hasRb l e = hasRb l n:=by
 rw [Bool.eq_iff_iff,hasRb_iff,hasRb_iff]
 refine ⟨fun ⟨r,hr,c,q⟩=>?_,fun ⟨r,hr,c,q⟩=>?_⟩
 · have:=h r hr c
   exact ⟨r,hr,c,by omega,by omega⟩
 · have:=h r hr c
   exact ⟨r,hr,c,by omega,by omega⟩
theorem hasRb_no {l:List Rn} {n:Int} (h:∀ r ∈ l,rnR r = true → n < r.fr ∨ r.to + 1 ≤ n):hasRb l n = false:=by
 rw [← Bool.not_eq_true,hasRb_iff]
 rintro ⟨r,hr,c,q⟩
 have:=h r hr c
 omega
theorem byR_cst {keep:Bool → Bool → Bool} (hk:keep false false = false) (a b:List Rn):Cst (byR keep a b) (edM a b):=by
 have inA:∀ r ∈ a,rnR r = true → edM a b r.fr ∧ edM a b (r.to + 1):=fun r hr c=>⟨(edM_iff _ _ _).2 (.inl ⟨r,hr,c,.inl rfl⟩),(edM_iff _ _ _).2 (.inl ⟨r,hr,c,.inr rfl⟩)⟩
 have inB:∀ r ∈ b,rnR r = true → edM a b r.fr ∧ edM a b (r.to + 1):=fun r hr c=>⟨(edM_iff _ _ _).2 (.inr ⟨r,hr,c,.inl rfl⟩),(edM_iff _ _ _).2 (.inr ⟨r,hr,c,.inr rfl⟩)⟩
 refine ⟨fun e n hen h=>?_,fun n h=>?_,fun n h=>?_⟩
 · unfold byR
   rw [hasRb_mid hen (fun r hr c=>⟨h _ (inA r hr c).1,h _ (inA r hr c).2⟩),hasRb_mid hen (fun r hr c=>⟨h _ (inB r hr c).1,h _ (inB r hr c).2⟩)]
 · unfold byR
   rw [hasRb_no (fun r hr c=>.inl (h _ (inA r hr c).1)),hasRb_no (fun r hr c=>.inl (h _ (inB r hr c).1)),hk]
 · unfold byR
   rw [hasRb_no (fun r hr c=>.inr (h _ (inA r hr c).2)),hasRb_no (fun r hr c=>.inr (h _ (inB r hr c).2)),hk]
theorem edM_rng {a b:List Rn} {m:Int} (h:edM a b m):1 ≤ m ∧ m ≤ 1099511627777:=by
 rcases (edM_iff _ _ _).1 h with ⟨r,_,c,q⟩|⟨r,_,c,q⟩ <;>
 · have:=(rnR_iff r).1 c
   omega
theorem opR_ok {keep:Bool → Bool → Bool} (hk:keep false false = false) (a b:List Rn):rnsOk (opR (byR keep a b) a b) ∧ ∀ n,hasR (opR (byR keep a b) a b) n ↔ byR keep a b n = true:=by
 have hc:=byR_cst hk a b
 have hup:upN (edgR (edgR [] a) b):=edgR_up _ _ (edgR_up _ _ List.Pairwise.nil)
 have hrg:∀ m ∈ edgR (edgR [] a) b,1 ≤ m ∧ m ≤ 1099511627777:=fun m hm=>edM_rng hm
 unfold opR
 unfold edM at hc
 generalize byR keep a b = f at *
 generalize edgR (edgR [] a) b = E at *
 have hR:∀ r ∈ segF f E,rnR r = true:=fun r hr=>by
   cases E with
   | nil=>simp [segF] at hr
   | cons e E=>exact (segF_low f E e hup hrg r hr).1
 have h1:=mergeR_ok (segF_srt f E hup hrg) hR
 refine ⟨h1.1,fun n=>?_⟩
 rw [h1.2 n]
 cases E with
 | nil=>
   rw [hc.lo n (fun m hm=>by simp at hm)]
   simp [segF,hasR_nil]
 | cons e E=>
   by_cases q:e ≤ n
   · exact segF_has hc E e hup hrg (fun m hm=>by
       rcases List.mem_cons.1 hm with rfl|hm
       · exact .inl (Int.le_refl _)
       · exact .inr hm) n q
   · rw [hc.lo n (fun m hm=>by
       rcases List.mem_cons.1 hm with rfl|hm
       · omega
       · have:=(List.pairwise_cons.1 hup).1 m hm;omega)]
     refine ⟨fun ⟨r,hr,_,z,_⟩=>?_,fun z=>by cases z⟩
     have:=(segF_low f E e hup hrg r hr).2
     omega
/-- a right list that has just what is said of both -/
theorem opR_eq {keep:Bool → Bool → Bool} (hk:keep false false = false) {a b m:List Rn} (h:rnsOk m) (e:∀ n,hasR m n ↔ byR keep a b n = true):opR (byR keep a b) a b = m:=
 rnsOk_uniq (opR_ok hk a b).1 h (fun n=>((opR_ok hk a b).2 n).trans (e n).symm)
theorem opR_or (a b:List Rn):opR (byR (fun x y=>x || y) a b) a b = ofR (a ++ b):=by
 refine opR_eq rfl (ofR_ok _) (fun n=>?_)
 rw [ofR_has,hasR_app,byR,Bool.or_eq_true,hasRb_iff,hasRb_iff]
end Go.Proofs.YtfcpkegmdlchhaaGreat
namespace Go.Proofs.YtfcpkegmdlchhaaGreat
/-- a text put among rising ones, once -/
def putT:List ByteArray → ByteArray → List ByteArray
 | [],n=>[n]
 | x :: l,n=>if x < n then x :: putT l n else if x = n then x :: l else n :: x :: l
theorem putT_mem:∀ (l:List ByteArray) (n m:ByteArray),m ∈ putT l n ↔ m = n ∨ m ∈ l:=by
 intro l
 induction l with
 | nil=>intro n m;simp [putT]
 | cons x l ih=>
   intro n m
   rw [putT]
   split
   · simp only [List.mem_cons,ih]
     constructor
     · rintro (h|h|h) <;> simp [h]
     · rintro (h|h|h) <;> simp [h]
   · split
     · rename_i e
       subst e
       simp
     · simp
abbrev upT (l:List ByteArray):Prop:=l.Pairwise (· < ·)
theorem putT_up:∀ (l:List ByteArray) (n:ByteArray),upT l → upT (putT l n):=by
 intro l
 induction l with
 | nil=>intro n _;simp [putT]
 | cons x l ih=>
   intro n h
   obtain ⟨h1,h2⟩:=List.pairwise_cons.1 h
   rw [putT]
   split
   · rename_i c
     refine List.pairwise_cons.2 ⟨fun z hz=>?_,ih n h2⟩
     rcases (putT_mem _ _ _).1 hz with rfl|hz
     · exact c
     · exact h1 z hz
   · split
     · exact h
     · refine List.pairwise_cons.2 ⟨fun z hz=>?_,h⟩
       rcases List.mem_cons.1 hz with rfl|hz
       · grind
       · have:=h1 z hz;grind
/-- two rising lists with the same texts are one -/
theorem upT_uniq:∀ {l m:List ByteArray},upT l → upT m → (∀ s,s ∈ l ↔ s ∈ m) → l = m:=by
 intro l
 induction l with
 | nil=>
   intro m _ _ h
   cases m with
   | nil=>rfl
   | cons y m=>have:=(h y).2 (by simp);simp at this
 | cons x l ih=>
   intro m hl hm h
   cases m with
   | nil=>have:=(h x).1 (by simp);simp at this
   | cons y m=>
     obtain ⟨a1,a2⟩:=List.pairwise_cons.1 hl
     obtain ⟨b1,b2⟩:=List.pairwise_cons.1 hm
     have e:x = y:=by
       rcases List.mem_cons.1 ((h x).1 (by simp)) with q|q
       · exact q
       · rcases List.mem_cons.1 ((h y).2 (by simp)) with z|z
         · exact z.symm
         · have:=b1 x q;have:=a1 y z;grind
     subst e
     rw [ih a2 b2 (fun s=>?_)]
     constructor
     · intro q
       have:=a1 s q
       rcases List.mem_cons.1 ((h s).1 (by simp [q])) with z|z
       · subst z;grind
       · exact z
     · intro q
       have:=b1 s q
       rcases List.mem_cons.1 ((h s).2 (by simp [q])) with z|z
       · subst z;grind
       · exact z
def edg1T (e:List ByteArray) (r:Rg):List ByteArray:=if rgR r then (if r.op then putT e r.lo else putT (putT e r.lo) r.hi) else e
def edgT (e:List ByteArray) (l:List Rg):List ByteArray:=l.foldl edg1T e
theorem edg1T_up {e:List ByteArray} {r:Rg} (h:upT e):upT (edg1T e r):=by
 unfold edg1T;split
 · split
   · exact putT_up _ _ h
   · exact putT_up _ _ (putT_up _ _ h)
 · exact h
theorem edgT_up:∀ (l:List Rg) (e:List ByteArray),upT e → upT (edgT e l):=by
 intro l
 induction l with
 | nil=>intro e h;exact h
 | cons r l ih=>intro e h;exact ih _ (edg1T_up h)
/-- an edge of a right range -/
def isEdge (r:Rg) (m:ByteArray):Prop:=rgR r = true ∧ (m = r.lo ∨ r.op = false ∧ m = r.hi)
theorem edgT_mem:∀ (l:List Rg) (e:List ByteArray) (m:ByteArray),m ∈ edgT e l ↔ m ∈ e ∨ ∃ r ∈ l,isEdge r m:=by
 intro l
 induction l with
 | nil=>intro e m;simp [edgT]
 | cons r l ih=>
   intro e m
   show m ∈ edgT (edg1T e r) l ↔ _
   rw [ih]
   have h1:m ∈ edg1T e r ↔ m ∈ e ∨ isEdge r m:=by
     unfold edg1T isEdge
     by_cases c:rgR r = true
     · rw [if_pos c]
       by_cases o:r.op = true
       · rw [if_pos o,putT_mem]
         simp [c,o,or_comm]
       · rw [if_neg o,putT_mem,putT_mem]
         have o':r.op = false:=by simpa using o
         simp only [c,o',true_and]
         constructor
         · rintro (h|h|h) <;> simp [h]
         · rintro (h|h|h) <;> simp [h]
     · rw [if_neg c]
       simp [c]
   rw [h1]
   simp only [List.mem_cons,exists_eq_or_imp,or_assoc]
theorem edgT_len:∀ (l:List Rg) (e:List ByteArray),(edgT e l).length ≤ e.length + 2 * l.length:=by
 have h1:∀ (l:List ByteArray) (n:ByteArray),(putT l n).length ≤ l.length + 1:=by
   intro l
   induction l with
   | nil=>intro n;simp [putT]
   | cons x l ih=>
     intro n
     rw [putT]
     split
     · have:=ih n;simp;omega
     · split <;> simp
 intro l
 induction l with
 | nil=>intro e;simp [edgT]
 | cons r l ih=>
   intro e
   show (edgT (edg1T e r) l).length ≤ _
   have h2:=ih (edg1T e r)
   have h3:(edg1T e r).length ≤ e.length + 2:=by
     unfold edg1T
     have a:=h1 (putT e r.lo) r.hi
     have b:=h1 e r.lo
     split
     · split <;> omega
     · omega
   rw [List.length_cons];omega
abbrev emB:ByteArray:=⟨#[]⟩
theorem emB_le (s:ByteArray):emB ≤ s:=by
 show cmpB emB s ≤ 0
 unfold cmpB
 cases s.data.toList with
 | nil=>decide
 | cons x l=>simp [cmpL]
/-! ### right knowledge -/
/-- what is known of a text -/
def getK (k:List Pc) (s:ByteArray):List Kn:=match k with
 | []=>[]
 | p :: l=>if rgHas p.rg s then p.set else getK l s
theorem getK_nil (s:ByteArray):getK [] s = []:=rfl
theorem getK_in {p:Pc} {l:List Pc} {s:ByteArray} (h:rgHas p.rg s = true):getK (p :: l) s = p.set:=by rw [getK,if_pos h]
theorem getK_out {p:Pc} {l:List Pc} {s:ByteArray} (h:¬ rgHas p.rg s = true):getK (p :: l) s = getK l s:=by rw [getK,if_neg h]
theorem rgHas_iff {r:Rg} (h:rgR r = true) (s:ByteArray):rgHas r s = true ↔ r.lo ≤ s ∧ (r.op = true ∨ s < r.hi):=by
 rw [rgHas_of h];simp
theorem rgHas_lo {r:Rg} (h:rgR r = true):rgHas r r.lo = true:=by
 rw [rgHas_iff h]
 refine ⟨by grind,?_⟩
 rcases rgR_lo h with q|q
 · exact .inl q
 · exact .inr q
/-- pieces in order, each right; two side by side may know the same -/
def pcW (p:Pc):Prop:=rgR p.rg = true ∧ p.set ≠ [] ∧ knsOk p.set
theorem pcsOk_nil:pcsOk []:=fun i hi=>by simp at hi
theorem pcsOk_cons (p:Pc) (l:List Pc):pcsOk (p :: l) ↔ pcW p ∧ (∀ q,l.head? = some q → p.rg.op = false ∧ p.rg.hi ≤ q.rg.lo ∧ ¬ (p.rg.hi = q.rg.lo ∧ p.set = q.set)) ∧ pcsOk l:=by
 constructor
 · intro h
   have h0:=h 0 (by simp) (by simp)
   refine ⟨⟨h0.1,h0.2.1,h0.2.2.1⟩,fun q hq=>?_,fun i hi hi'=>?_⟩
   · cases l with
     | nil=>cases hq
     | cons z l=>
       cases hq
       exact (h 1 (by simp) (by simp)).2.2.2 (by omega)
   · have h1:=h (i + 1) (by simpa using hi) (by simpa using hi)
     simp only [List.getElem_cons_succ,Nat.add_sub_cancel] at h1
     refine ⟨h1.1,h1.2.1,h1.2.2.1,fun h0=>?_⟩
     have h2:=h1.2.2.2 (by omega)
     obtain ⟨j,rfl⟩:∃ j,i = j + 1:=⟨i - 1,by omega⟩
     exact h2
 · rintro ⟨⟨h1,h2,h2'⟩,h3,h4⟩ i hi hi'
   cases i with
   | zero=>exact ⟨h1,h2,h2',fun q=>absurd q (Nat.lt_irrefl _)⟩
   | succ i=>
     have h5:=h4 i (by simpa using hi) (by simpa using hi)
     simp only [List.getElem_cons_succ,Nat.add_sub_cancel]
     refine ⟨h5.1,h5.2.1,h5.2.2.1,fun _=>?_⟩
     cases i with
     | zero=>
       cases l with
       | nil=>simp at hi
       | cons z l=>exact h3 z rfl
     | succ i=>
       exact h5.2.2.2 (by omega)
theorem pcsOk_low {p:Pc} {l:List Pc} (h:pcsOk (p :: l)) {s:ByteArray} (hs:getK l s ≠ []):p.rg.op = false ∧ p.rg.hi ≤ s:=by
 induction l generalizing p with
 | nil=>exact absurd rfl hs
 | cons q l ih=>
   obtain ⟨_,h2,h3⟩:=(pcsOk_cons _ _).1 h
   obtain ⟨a,b,_⟩:=h2 q rfl
   obtain ⟨⟨hq,_,_⟩,_,_⟩:=(pcsOk_cons _ _).1 h3
   refine ⟨a,?_⟩
   by_cases c:rgHas q.rg s = true
   · have:=((rgHas_iff hq s).1 c).1
     grind
   · rw [getK_out c] at hs
     obtain ⟨_,d⟩:=ih h3 hs
     rcases rgR_lo hq with z|z
     · have:=(ih h3 hs).1;rw [z] at this;cases this
     · grind
theorem getK_first {p:Pc} {l:List Pc} (h:pcsOk (p :: l)):getK (p :: l) p.rg.lo = p.set ∧ p.set ≠ []:=by
 obtain ⟨⟨hp,h2,_⟩,_,_⟩:=(pcsOk_cons _ _).1 h
 exact ⟨getK_in (rgHas_lo hp),h2⟩
end Go.Proofs.YtfcpkegmdlchhaaGreat
namespace Go.Proofs.YtfcpkegmdlchhaaGreat
/-- merged: what touches and knows the same -/
def tchB (p q:Pc):Bool:=!p.rg.op && (decide (p.rg.hi = q.rg.lo) && decide (p.set = q.set))
def mgT:Pc → List Pc → List Pc
 | c,[]=>[c]
 | c,p :: l=>if tchB c p then mgT ⟨⟨c.rg.lo,p.rg.hi,p.rg.op⟩,c.set⟩ l else c :: mgT p l
def mergeKn:List Pc → List Pc
 | []=>[]
 | p :: l=>mgT p l
theorem mgT_head:∀ (l:List Pc) (c:Pc),∃ z t,mgT c l = z :: t ∧ z.rg.lo = c.rg.lo ∧ z.set = c.set:=by
 intro l
 induction l with
 | nil=>intro c;exact ⟨c,[],rfl,rfl,rfl⟩
 | cons p l ih=>
   intro c
   rw [mgT]
   split
   · obtain ⟨z,t,h1,h2,h3⟩:=ih ⟨⟨c.rg.lo,p.rg.hi,p.rg.op⟩,c.set⟩
     exact ⟨z,t,h1,h2,h3⟩
   · exact ⟨c,_,rfl,rfl,rfl⟩
/-- one behind the other -/
def Beh (p q:Pc):Prop:=p.rg.op = false ∧ p.rg.hi ≤ q.rg.lo
theorem mgT_ok:∀ (l:List Pc) (c:Pc),(c :: l).Pairwise Beh → (∀ p ∈ c :: l,pcW p) → pcsOk (mgT c l) ∧ ∀ s,getK (mgT c l) s = getK (c :: l) s:=by
 intro l
 induction l with
 | nil=>
   intro c _ h
   exact ⟨(pcsOk_cons c []).2 ⟨h c (by simp),fun q hq=>by simp at hq,pcsOk_nil⟩,fun _=>rfl⟩
 | cons p l ih=>
   intro c hs h
   have hc:=h c (by simp)
   have hp:=h p (by simp)
   obtain ⟨s1,s2⟩:=List.pairwise_cons.1 hs
   obtain ⟨t1,t2⟩:=s1 p (by simp)
   obtain ⟨s4,s5⟩:=List.pairwise_cons.1 s2
   have clt:c.rg.lo < c.rg.hi:=by
     rcases rgR_lo hc.1 with q|q
     · rw [t1] at q;cases q
     · exact q
   rw [mgT]
   by_cases g:tchB c p = true
   · rw [if_pos g]
     unfold tchB at g
     simp only [Bool.and_eq_true,Bool.not_eq_true',decide_eq_true_eq] at g
     obtain ⟨_,g2,g3⟩:=g
     have r1:=(rgR_iff _).1 hc.1
     have r2:=(rgR_iff _).1 hp.1
     have hm:rgR ⟨c.rg.lo,p.rg.hi,p.rg.op⟩ = true:=(rgR_iff _).2 ⟨r1.1,r2.2.1,by
       cases o:p.rg.op with
       | true=>
         rw [o] at r2
         simpa using r2.2.2
       | false=>
         rcases rgR_lo hp.1 with q|q
         · rw [o] at q;cases q
         · rw [if_neg (by simp),o_lt]
           simp only
           grind⟩
     have:=ih ⟨⟨c.rg.lo,p.rg.hi,p.rg.op⟩,c.set⟩ (List.pairwise_cons.2 ⟨fun z hz=>s4 z hz,s5⟩) (fun z hz=>by
       rcases List.mem_cons.1 hz with rfl|hz
       · exact ⟨hm,hc.2⟩
       · exact h z (by simp [hz]))
     refine ⟨this.1,fun s=>?_⟩
     rw [this.2 s,getK,getK,getK]
     have e:rgHas ⟨c.rg.lo,p.rg.hi,p.rg.op⟩ s = (rgHas c.rg s || rgHas p.rg s):=by
       rw [Bool.eq_iff_iff,Bool.or_eq_true,rgHas_iff hm,rgHas_iff hc.1,rgHas_iff hp.1]
       simp only
       rcases rgR_lo hp.1 with q|q
       · simp only [q,t1]
         constructor
         · rintro ⟨a,_⟩
           by_cases z:s < c.rg.hi
           · exact .inl ⟨a,.inr z⟩
           · exact .inr ⟨by grind,.inl trivial⟩
         · rintro (⟨a,_⟩|⟨a,_⟩)
           · exact ⟨a,.inl trivial⟩
           · exact ⟨by grind,.inl trivial⟩
       · constructor
         · rintro ⟨a,b⟩
           by_cases z:s < c.rg.hi
           · exact .inl ⟨a,.inr z⟩
           · exact .inr ⟨by grind,b⟩
         · rintro (⟨a,b⟩|⟨a,b⟩)
           · refine ⟨a,.inr ?_⟩
             rcases b with b|b
             · rw [t1] at b;cases b
             · grind
           · exact ⟨by grind,b⟩
     rw [e]
     cases rgHas c.rg s with
     | true=>simp
     | false=>
       cases rgHas p.rg s with
       | true=>simp [g3]
       | false=>simp
   · rw [if_neg g]
     have:=ih p s2 (fun z hz=>h z (List.mem_cons_of_mem _ hz))
     obtain ⟨z,t,e1,e2,e3⟩:=mgT_head l p
     refine ⟨(pcsOk_cons _ _).2 ⟨hc,fun q hq=>?_,this.1⟩,fun s=>?_⟩
     · rw [e1] at hq
       cases hq
       refine ⟨t1,by rw [e2];exact t2,fun ⟨q1,q2⟩=>g ?_⟩
       unfold tchB
       rw [e2] at q1
       rw [e3] at q2
       simp [t1,q1,q2]
     · rw [getK,this.2 s,getK.eq_def (c :: p :: l)]
theorem mergeKn_ok {l:List Pc} (hs:l.Pairwise Beh) (h:∀ p ∈ l,pcW p):pcsOk (mergeKn l) ∧ ∀ s,getK (mergeKn l) s = getK l s:=by
 cases l with
 | nil=>exact ⟨pcsOk_nil,fun _=>rfl⟩
 | cons x l=>exact mgT_ok l x hs h
/-- the stretches between edges, each with what is known there -/
def nextR (s:ByteArray):List ByteArray → Rg
 | []=>⟨s,emB,true⟩
 | t :: _=>⟨s,t,false⟩
def segT (f:ByteArray → List Kn):List ByteArray → List Pc
 | []=>[]
 | e :: E=>(if (f e).length = 0 then [] else [⟨nextR e E,f e⟩]) ++ segT f E
def bldK (f:ByteArray → List Kn) (E:List ByteArray):List Pc:=mergeKn (segT f E)
def edgOk (E:List ByteArray):Prop:=∀ m ∈ E,m.size ≤ 17
theorem nextR_ok {e:ByteArray} {E:List ByteArray} (h:upT (e :: E)) (ho:edgOk (e :: E)):rgR (nextR e E) = true:=by
 cases E with
 | nil=>exact (rgR_iff _).2 ⟨ho e (by simp),by show (0:Nat) ≤ 17;decide,by simp [nextR];rfl⟩
 | cons t E=>
   refine (rgR_iff _).2 ⟨ho e (by simp),ho t (by simp),?_⟩
   have:=(List.pairwise_cons.1 h).1 t (by simp)
   simp only [nextR]
   exact this
theorem segT_low (f:ByteArray → List Kn) (hf:∀ s,knsOk (f s)):∀ (E:List ByteArray),upT E → edgOk E → ∀ p ∈ segT f E,pcW p ∧ p.rg.lo ∈ E:=by
 intro E
 induction E with
 | nil=>intro _ _ p hp;simp [segT] at hp
 | cons e E ih=>
   intro h ho p hp
   rw [segT,List.mem_append] at hp
   rcases hp with hp|hp
   · split at hp
     · simp at hp
     · rename_i c
       have hp:p = ⟨nextR e E,f e⟩:=by simpa using hp
       subst hp
       refine ⟨⟨nextR_ok h ho,fun q=>c (by simp only at q;rw [q];rfl),hf e⟩,?_⟩
       have:(nextR e E).lo = e:=by cases E <;> rfl
       simp [this]
   · have:=ih (List.pairwise_cons.1 h).2 (fun m hm=>ho m (List.mem_cons_of_mem _ hm)) p hp
     exact ⟨this.1,List.mem_cons_of_mem _ this.2⟩
theorem segT_beh (f:ByteArray → List Kn) (hf:∀ s,knsOk (f s)):∀ (E:List ByteArray),upT E → edgOk E → (segT f E).Pairwise Beh:=by
 intro E
 induction E with
 | nil=>intro _ _;exact List.Pairwise.nil
 | cons e E ih=>
   intro h ho
   have h2:=(List.pairwise_cons.1 h).2
   have ho2:edgOk E:=fun m hm=>ho m (List.mem_cons_of_mem _ hm)
   have h3:=ih h2 ho2
   rw [segT]
   split
   · exact h3
   · refine List.pairwise_cons.2 ⟨fun z hz=>?_,h3⟩
     have h4:=(segT_low f hf E h2 ho2 z hz).2
     cases E with
     | nil=>simp at h4
     | cons t E=>
       refine ⟨rfl,?_⟩
       show t ≤ z.rg.lo
       rcases List.mem_cons.1 h4 with q|q
       · rw [q];grind
       · have:=(List.pairwise_cons.1 h2).1 _ q;grind
/-- what is said turns at edges alone -/
def CstT (f:ByteArray → List Kn) (E:List ByteArray):Prop:=∀ e n,e ≤ n → (∀ m ∈ E,m ≤ e ∨ n < m) → f e = f n
theorem getK_none {l:List Pc} {s:ByteArray} (h:∀ p ∈ l,pcW p ∧ s < p.rg.lo):getK l s = []:=by
 induction l with
 | nil=>rfl
 | cons p l ih=>
   obtain ⟨a,b⟩:=h p (by simp)
   rw [getK_out (fun c=>by have:=((rgHas_iff a.1 s).1 c).1;grind)]
   exact ih (fun q hq=>h q (List.mem_cons_of_mem _ hq))
theorem segT_get {f:ByteArray → List Kn} {M:List ByteArray} (hf:∀ s,knsOk (f s)) (hc:CstT f M):∀ (E:List ByteArray) (e:ByteArray),upT (e :: E) → edgOk (e :: E) → (∀ m ∈ M,m ≤ e ∨ m ∈ E) → ∀ s,e ≤ s → getK (segT f (e :: E)) s = f s:=by
 intro E
 induction E with
 | nil=>
   intro e h ho hM s hs
   have he : f e = f s := hc e s hs (fun m hm => by rcases hM m hm with q | q; · exact .inl q
                                                    · simp at q)
   rw [segT,segT,List.append_nil,← he]
   split
   · rename_i q
     rw [getK_nil,List.eq_nil_of_length_eq_zero q]
   · exact getK_in ((rgHas_iff (nextR_ok h ho) s).2 ⟨hs,.inl rfl⟩)
 | cons t E ih=>
   intro e h ho hM s hs
   obtain ⟨h1,h2⟩:=List.pairwise_cons.1 h
   have h3:=h1 t (by simp)
   have ho2:edgOk (t :: E):=fun m hm=>ho m (List.mem_cons_of_mem _ hm)
   obtain ⟨h4,_⟩:=List.pairwise_cons.1 h2
   by_cases c:s < t
   · have he:f e = f s:=hc e s hs (fun m hm=>by
       rcases hM m hm with q|q
       · exact .inl q
       · rcases List.mem_cons.1 q with rfl|q
         · exact .inr c
         · have:=h4 m q;exact .inr (by grind))
     have hno:getK (segT f (t :: E)) s = []:=getK_none (fun p hp=>by
       obtain ⟨a,b⟩:=segT_low f hf _ h2 ho2 p hp
       refine ⟨a,?_⟩
       rcases List.mem_cons.1 b with q|q
       · rw [q];exact c
       · have:=h4 _ q;grind)
     rw [segT,← he]
     split
     · rename_i q
       rw [List.nil_append,hno,List.eq_nil_of_length_eq_zero q]
     · exact getK_in ((rgHas_iff (nextR_ok h ho) s).2 ⟨hs,.inr c⟩)
   · have:=ih t h2 ho2 (fun m hm=>by
       rcases hM m hm with q|q
       · exact .inl (by grind)
       · rcases List.mem_cons.1 q with rfl|q
         · exact .inl (by grind)
         · exact .inr q) s (by grind)
     rw [segT]
     split
     · exact this
     · refine (getK_out (fun q=>?_)).trans this
       rcases ((rgHas_iff (nextR_ok h ho) s).1 q).2 with z|z
       · cases z
       · exact c z
/-- built by edges, it is right, and knows what was asked for -/
theorem bldK_ok {f:ByteArray → List Kn} (hf:∀ s,knsOk (f s)) {E:List ByteArray} (hup:upT E) (ho:edgOk E) (h0:emB ∈ E) (hc:CstT f E):pcsOk (bldK f E) ∧ ∀ s,getK (bldK f E) s = f s:=by
 have h1:=mergeKn_ok (segT_beh f hf E hup ho) (fun p hp=>(segT_low f hf E hup ho p hp).1)
 refine ⟨h1.1,fun s=>(h1.2 s).trans ?_⟩
 cases E with
 | nil=>simp at h0
 | cons e E=>
   have he:e = emB:=by
     rcases List.mem_cons.1 h0 with q|q
     · exact q.symm
     · have:=(List.pairwise_cons.1 hup).1 _ q
       have:=emB_le e
       grind
   exact segT_get hf hc E e hup ho (fun m hm=>by
     rcases List.mem_cons.1 hm with rfl|hm
     · exact .inl (by grind)
     · exact .inr hm) s (by rw [he];exact emB_le s)
theorem segT_len (f:ByteArray → List Kn):∀ E:List ByteArray,(segT f E).length ≤ E.length:=by
 intro E
 induction E with
 | nil=>simp [segT]
 | cons e E ih=>
   rw [segT,List.length_append,List.length_cons]
   have:(if (f e).length = 0 then [] else [(⟨nextR e E,f e⟩:Pc)]).length ≤ 1:=by split <;> simp
   omega
theorem mgT_len:∀ (l:List Pc) (c:Pc),(mgT c l).length ≤ l.length + 1:=by
 intro l
 induction l with
 | nil=>intro c;simp [mgT]
 | cons r l ih=>
   intro c
   rw [mgT]
   split
   · have:=ih ⟨⟨c.rg.lo,r.rg.hi,r.rg.op⟩,c.set⟩;simp;omega
   · have:=ih r;simp;omega
theorem bldK_len (f:ByteArray → List Kn) (E:List ByteArray):(bldK f E).length ≤ E.length:=by
 have h1:=segT_len f E
 unfold bldK
 cases h:segT f E with
 | nil=>exact Nat.zero_le _
 | cons c l=>
   rw [h] at h1
   exact Nat.le_trans (mgT_len l c) h1
theorem up_step {p:Nat → Prop} {z:Nat} (h:∀ i,i < z → p i) (h':p z):∀ i,i < z + 1 → p i:=fun i hi=>by
 rcases Nat.lt_or_ge i z with q|q
 · exact h i q
 · obtain rfl:i = z:=by omega
   exact h'
def knsSz (s:List Kn):Prop:=s.length ≤ 1000000000 ∧ ∀ k ∈ s,k.runs.length ≤ 1000000000
theorem knsSz.at {s:List Kn} (h:knsSz s) {i:Nat} (hi:i < s.length):s[i].runs.length ≤ 1000000000:=h.2 _ (List.getElem_mem hi)
section
theorem cnt_one (r:Rn):Fn Tryz.prog 184 [rnC r] (boR (rnR r)):=by
 refine fi Tryz.func184 Tryz.ntmps184 ?_
 (repeat' (first|refine AW_seq ?_|refine AW_block ?_|refine AW_skip ?_|refine AW_exit ?_|refine AW_ret ?_|refine AW_region ?_|refine AW_draw mixed0 ?_|refine AL_nil ?_|refine AD_nil (by kernel_rfl) ?_|refine thenA_n ?_|refine thenA_r ?_|refine thenA_e ?_|refine inB_n ?_|refine inB_r ?_|refine inB_hit ?_|refine inB_miss rfl ?_|(refine AW_cond_per rfl rfl (fun hc=>?_) (fun hc=>?_) <;> (try rw [Bool.not_eq_true'] at hc) <;> (try rw [Bool.not_eq_false'] at hc) <;> (try first|rw [decide_eq_true_eq] at hc|rw [decide_eq_false_iff_not] at hc|rw [beq_iff_eq] at hc|rw [beq_eq_false_iff_ne] at hc|rw [bne_iff_ne] at hc|rw [bne_eq_false_iff_eq] at hc) <;> (repeat rw [List.length_map] at hc) <;> (try first|contradiction|(exfalso;omega)|(exfalso;simp [*] at hc;done)))|((first|apply AL_t rfl|apply AL_0 rfl|apply AD_t rfl|apply AD_0 rfl);focus (first|exact o_auto))))
 refine rt1 ?_
 refine rv_per (per_bool ?_)
 rw [rnR,Bool.eq_iff_iff];simp;omega
theorem rcnt_One (r:Rn):Fn Tryz.prog 177 [rnC r] (boR (rnR r)):=by
 refine fi Tryz.func177 Tryz.ntmps177 ?_
 (repeat' (first|refine AW_seq ?_|refine AW_block ?_|refine AW_skip ?_|refine AW_exit ?_|refine AW_ret ?_|refine AW_region ?_|refine AW_draw mixed0 ?_|refine AL_nil ?_|refine AD_nil (by kernel_rfl) ?_|refine thenA_n ?_|refine thenA_r ?_|refine thenA_e ?_|refine inB_n ?_|refine inB_r ?_|refine inB_hit ?_|refine inB_miss rfl ?_|(refine AW_cond_per rfl rfl (fun hc=>?_) (fun hc=>?_) <;> (try rw [Bool.not_eq_true'] at hc) <;> (try rw [Bool.not_eq_false'] at hc) <;> (try first|rw [decide_eq_true_eq] at hc|rw [decide_eq_false_iff_not] at hc|rw [beq_iff_eq] at hc|rw [beq_eq_false_iff_ne] at hc|rw [bne_iff_ne] at hc|rw [bne_eq_false_iff_eq] at hc) <;> (repeat rw [List.length_map] at hc) <;> (try first|contradiction|(exfalso;omega)|(exfalso;simp [*] at hc;done)))|((first|apply AL_t rfl|apply AL_0 rfl|apply AD_t rfl|apply AD_0 rfl);focus (first|exact o_auto))))
 refine rt1 ?_
 refine rv_per (per_bool ?_)
 rw [rnR,Bool.eq_iff_iff];simp;omega
theorem cnt_Right (l:List Rn) (hl:l.length ≤ 1000000000) (b:Bool) (hb:b = true ↔ rnsOk l):Fn Tryz.prog 159 [rnsB l] (boR b):=by
 refine fi Tryz.func159 Tryz.ntmps159 ?_
 (refine w0 ?_;(repeat' first|refine W2.mk ?_ ?_|refine W1.mk fun hc=>?_))
 refine AW_loopP (X:=Nat) (fun z=>z ≤ l.length ∧ ∀ i,i < z → rnOk l i)
   (fun z=>mkSt [(0,rnsB l),(5,rnsB l),(6,iC .i64 (l.length:Nat)),(7,iC .i64 (z:Nat))] []) (fun z=>l.length - z) 0 ⟨Nat.zero_le _,fun i h=>absurd h (Nat.not_lt_zero _)⟩ ?_ ?_
 · exact le_auto
 · rintro z ⟨h1,h2⟩
   by_cases hz:z < l.length
   · have hir:=cnt_one l[z]
     have hno:¬ rnOk l z → b = false:=fun h=>by rw [← Bool.not_eq_true,hb];exact fun q=>h (q z hz)
     cases hr:rnR l[z] with
     | false=>
       have hb0:=hno (fun h=>by have:=(h hz).1;rw [hr] at this;cases this)
       subst hb0
       clear hb hno h2
       rw [hr] at hir
       (have kc1:=hir;refine w0 ?_;(repeat' first|refine W2.mk ?_ ?_|refine W1.mk fun hc=>?_);all_goals clear kc1)
       refine rt1 ?_
       exact rv_bool rfl rfl
     | true=>
       rw [hr] at hir
       have hrz:=(rnR_iff _).1 hr
       by_cases h0:0 < z
       · obtain ⟨q,rfl⟩:∃ q,z = q + 1:=⟨z - 1,by omega⟩
         have hqE:((q + 1:Nat):Int) - 1 = (q:Nat):=by omega
         have hrq:=(rnR_iff _).1 ((h2 q (by omega)) (by omega)).1
         by_cases hlt:l[q].to + 2 ≤ l[q + 1].fr
         · have hok:rnOk l (q + 1):=fun _=>⟨hr,fun _=>hlt⟩
           clear hb hno
           (have ke1:=Lib.hid (hqE);have kc1:=hir;refine w0e ?_;(repeat' first|refine W2.mk ?_ ?_|refine W1.mk fun hc=>?_);all_goals clear kc1 ke1)
           refine ⟨q + 1 + 1,⟨by omega,up_step h2 hok⟩,by omega,?_⟩
           exact le_auto
         · have hb0:=hno (fun h=>hlt ((h hz).2 h0))
           subst hb0
           clear hb hno h2
           (have ke1:=Lib.hid (hqE);have kc1:=hir;refine w0e ?_;(repeat' first|refine W2.mk ?_ ?_|refine W1.mk fun hc=>?_);all_goals clear kc1 ke1)
           refine rt1 ?_
           exact rv_bool rfl rfl
       · have hok:rnOk l z:=fun _=>⟨hr,fun h=>absurd h h0⟩
         clear hb hno
         (have kc1:=hir;refine w0 ?_;(repeat' first|refine W2.mk ?_ ?_|refine W1.mk fun hc=>?_);all_goals clear kc1)
         refine ⟨z + 1,⟨by omega,up_step h2 hok⟩,by omega,?_⟩
         exact le_auto
   · have hb1:b = true:=hb.2 (fun i hi=>h2 i (by omega))
     subst hb1
     clear hb h2
     (refine w0 ?_;(repeat' first|refine W2.mk ?_ ?_|refine W1.mk fun hc=>?_))
     refine rt1 ?_
     exact rv_bool rfl rfl
theorem rcnt_Right (l:List Rn) (hl:l.length ≤ 1000000000) (b:Bool) (hb:b = true ↔ rnsOk l):Fn Tryz.prog 138 [rnsB l] (boR b):=by
 refine fi Tryz.func138 Tryz.ntmps138 ?_
 (refine w0 ?_;(repeat' first|refine W2.mk ?_ ?_|refine W1.mk fun hc=>?_))
 refine AW_loopP (X:=Nat) (fun z=>z ≤ l.length ∧ ∀ i,i < z → rnOk l i)
   (fun z=>mkSt [(0,rnsB l),(3,iC .i64 (z:Nat))] []) (fun z=>l.length - z) 0 ⟨Nat.zero_le _,fun i h=>absurd h (Nat.not_lt_zero _)⟩ ?_ ?_
 · exact le_auto
 · rintro z ⟨h1,h2⟩
   by_cases hz:z < l.length
   · have hir:=rcnt_One l[z]
     have hno:¬ rnOk l z → b = false:=fun h=>by rw [← Bool.not_eq_true,hb];exact fun q=>h (q z hz)
     cases hr:rnR l[z] with
     | false=>
       have hb0:=hno (fun h=>by have:=(h hz).1;rw [hr] at this;cases this)
       subst hb0
       clear hb hno h2
       rw [hr] at hir
       (have kc1:=hir;refine w0 ?_;(repeat' first|refine W2.mk ?_ ?_|refine W1.mk fun hc=>?_);all_goals clear kc1)
       refine rt1 ?_
       exact rv_bool rfl rfl
     | true=>
       rw [hr] at hir
       have hrz:=(rnR_iff _).1 hr
       by_cases h0:0 < z
       · obtain ⟨q,rfl⟩:∃ q,z = q + 1:=⟨z - 1,by omega⟩
         have hqE:((q + 1:Nat):Int) - 1 = (q:Nat):=by omega
         have hrq:=(rnR_iff _).1 ((h2 q (by omega)) (by omega)).1
         by_cases hlt:l[q].to + 2 ≤ l[q + 1].fr
         · have hok:rnOk l (q + 1):=fun _=>⟨hr,fun _=>hlt⟩
           clear hb hno
           (have ke1:=Lib.hid (hqE);have kc1:=hir;refine w0e ?_;(repeat' first|refine W2.mk ?_ ?_|refine W1.mk fun hc=>?_);all_goals clear kc1 ke1)
           refine ⟨q + 1 + 1,⟨by omega,up_step h2 hok⟩,by omega,?_⟩
           exact le_auto
         · have hb0:=hno (fun h=>hlt ((h hz).2 h0))
           subst hb0
           clear hb hno h2
           (have ke1:=Lib.hid (hqE);have kc1:=hir;refine w0e ?_;(repeat' first|refine W2.mk ?_ ?_|refine W1.mk fun hc=>?_);all_goals clear kc1 ke1)
           refine rt1 ?_
           exact rv_bool rfl rfl
       · have hok:rnOk l z:=fun _=>⟨hr,fun h=>absurd h h0⟩
         clear hb hno
         (have kc1:=hir;refine w0 ?_;(repeat' first|refine W2.mk ?_ ?_|refine W1.mk fun hc=>?_);all_goals clear kc1)
         refine ⟨z + 1,⟨by omega,up_step h2 hok⟩,by omega,?_⟩
         exact le_auto
   · have hb1:b = true:=hb.2 (fun i hi=>h2 i (by omega))
     subst hb1
     clear hb h2
     (refine w0 ?_;(repeat' first|refine W2.mk ?_ ?_|refine W1.mk fun hc=>?_))
     refine rt1 ?_
     exact rv_bool rfl rfl
theorem vs_replica (n:Int):Fn Tryz.prog 158 [iC .i64 n] (boR (decide (1 ≤ n ∧ n ≤ 16))):=by
 refine fi Tryz.func158 Tryz.ntmps158 ?_
 (repeat' (first|refine AW_seq ?_|refine AW_block ?_|refine AW_skip ?_|refine AW_exit ?_|refine AW_ret ?_|refine AW_region ?_|refine AW_draw mixed0 ?_|refine AL_nil ?_|refine AD_nil (by kernel_rfl) ?_|refine thenA_n ?_|refine thenA_r ?_|refine thenA_e ?_|refine inB_n ?_|refine inB_r ?_|refine inB_hit ?_|refine inB_miss rfl ?_|(refine AW_cond_per rfl rfl (fun hc=>?_) (fun hc=>?_) <;> (try rw [Bool.not_eq_true'] at hc) <;> (try rw [Bool.not_eq_false'] at hc) <;> (try first|rw [decide_eq_true_eq] at hc|rw [decide_eq_false_iff_not] at hc|rw [beq_iff_eq] at hc|rw [beq_eq_false_iff_ne] at hc|rw [bne_iff_ne] at hc|rw [bne_eq_false_iff_eq] at hc) <;> (repeat rw [List.length_map] at hc) <;> (try first|contradiction|(exfalso;omega)|(exfalso;simp [*] at hc;done)))|((first|apply AL_t rfl|apply AL_0 rfl|apply AD_t rfl|apply AD_0 rfl);focus (first|exact o_auto))))
 refine rt1 ?_
 refine rv_per (per_bool ?_)
 rw [Bool.eq_iff_iff];simp
theorem vs_Right (l:List Kn) (hl:knsSz l) (b:Bool) (hb:b = true ↔ knsOk l):Fn Tryz.prog 114 [knsB l] (boR b):=by
 have hl0:=hl.1
 refine fi Tryz.func114 Tryz.ntmps114 ?_
 (refine w0 ?_;(repeat' first|refine W2.mk ?_ ?_|refine W1.mk fun hc=>?_))
 refine AW_loopP (X:=Nat × Int) (fun z=>z.1 ≤ l.length ∧ (∀ i,i < z.1 → knOk l i) ∧ (z.1 = 0 → z.2 = 0) ∧ (∀ (h:z.1 - 1 < l.length),0 < z.1 → z.2 = l[z.1 - 1].rep))
   (fun z=>mkSt [(3,iC .i64 z.2),(6,knsB l),(7,iC .i64 (l.length:Nat)),(8,iC .i64 (z.1:Nat))] []) (fun z=>l.length - z.1) (0,0) ⟨Nat.zero_le _,fun i h=>absurd h (Nat.not_lt_zero _),fun _=>rfl,fun _ h=>absurd h (by simp)⟩ ?_ ?_
 · exact le_auto
 · rintro ⟨z,was⟩ ⟨h1,h2,h3,h4⟩
   simp only at h1 h2 h3 h4 ⊢
   by_cases hz:z < l.length
   · have c1:=vs_replica l[z].rep
     have c2:=cnt_Right l[z].runs (hl.at hz) (decide (rnsOk l[z].runs)) (by simp)
     have h4':=h4 (by omega)
     have hE:l[z].runs ≠ [] ↔ ¬ l[z].runs.length = 0:=by simp
     by_cases hok:knOk l z
     · obtain ⟨a1,a2,a3,a4,a5⟩:=hok hz
       rw [decide_eq_true ⟨a1,a2⟩] at c1
       rw [decide_eq_true a4] at c2
       have a6:was < l[z].rep:=by
         rcases Nat.eq_zero_or_pos z with q|q
         · have:=h3 q;omega
         · rw [h4' q];exact a5 q
       rw [hE] at a3
       clear hb h3 h4 h4' hE a4 a5
       (have kc1:=c1;have kc2:=c2;refine w0 ?_;(repeat' first|refine W2.mk ?_ ?_|refine W1.mk fun hc=>?_);all_goals clear kc2 kc1)
       refine ⟨(z + 1,l[z].rep),⟨by simp only;omega,up_step h2 hok,fun h=>by simp at h,fun h _=>rfl⟩,by simp only;omega,?_⟩
       exact le_auto
     · have hb0:b = false:=by rw [← Bool.not_eq_true,hb];exact fun q=>hok (q z hz)
       subst hb0
       have hno:¬ (1 ≤ l[z].rep ∧ l[z].rep ≤ 16 ∧ ¬ l[z].runs.length = 0 ∧ rnsOk l[z].runs ∧ was < l[z].rep):=fun ⟨a1,a2,a3,a4,a5⟩=>hok (fun _=>⟨a1,a2,hE.2 a3,a4,fun q=>by rw [← h4' q];exact a5⟩)
       clear hb h2 h3 h4 h4' hE hok
       by_cases q1:1 ≤ l[z].rep ∧ l[z].rep ≤ 16
       · rw [decide_eq_true q1] at c1
         by_cases q2:was < l[z].rep
         · by_cases q3:l[z].runs.length = 0
           · clear hno
             (have kc1:=c1;have kc2:=c2;refine w0 ?_;(repeat' first|refine W2.mk ?_ ?_|refine W1.mk fun hc=>?_);all_goals clear kc2 kc1)
             refine rt1 ?_
             exact rv_bool rfl rfl
           · by_cases q4:rnsOk l[z].runs
             · exact absurd ⟨q1.1,q1.2,q3,q4,q2⟩ hno
             · rw [decide_eq_false q4] at c2
               clear hno q4
               (have kc1:=c1;have kc2:=c2;refine w0 ?_;(repeat' first|refine W2.mk ?_ ?_|refine W1.mk fun hc=>?_);all_goals clear kc2 kc1)
               refine rt1 ?_
               exact rv_bool rfl rfl
         · clear hno
           (have kc1:=c1;have kc2:=c2;refine w0 ?_;(repeat' first|refine W2.mk ?_ ?_|refine W1.mk fun hc=>?_);all_goals clear kc2 kc1)
           refine rt1 ?_
           exact rv_bool rfl rfl
       · rw [decide_eq_false q1] at c1
         clear hno q1
         (have kc1:=c1;have kc2:=c2;refine w0 ?_;(repeat' first|refine W2.mk ?_ ?_|refine W1.mk fun hc=>?_);all_goals clear kc2 kc1)
         refine rt1 ?_
         exact rv_bool rfl rfl
   · have hb1:b = true:=hb.2 (fun i hi=>h2 i (by omega))
     subst hb1
     clear hb h2 h3 h4
     (refine w0 ?_;(repeat' first|refine W2.mk ?_ ?_|refine W1.mk fun hc=>?_))
     refine rt1 ?_
     exact rv_bool rfl rfl
theorem rvs_Right (l:List Kn) (hl:knsSz l) (b:Bool) (hb:b = true ↔ knsOk l):Fn Tryz.prog 87 [knsB l] (boR b):=by
 have hl0:=hl.1
 refine fi Tryz.func87 Tryz.ntmps87 ?_
 (refine w0 ?_;(repeat' first|refine W2.mk ?_ ?_|refine W1.mk fun hc=>?_))
 refine AW_loopP (X:=Nat) (fun z=>z ≤ l.length ∧ ∀ i,i < z → knOk l i)
   (fun z=>mkSt [(0,knsB l),(3,iC .i64 (z:Nat))] []) (fun z=>l.length - z) 0 ⟨Nat.zero_le _,fun i h=>absurd h (Nat.not_lt_zero _)⟩ ?_ ?_
 · exact le_auto
 · rintro z ⟨h1,h2⟩
   by_cases hz:z < l.length
   · have c2:=rcnt_Right l[z].runs (hl.at hz) (decide (rnsOk l[z].runs)) (by simp)
     have hE:l[z].runs ≠ [] ↔ ¬ l[z].runs.length = 0:=by simp
     by_cases hok:knOk l z
     · obtain ⟨a1,a2,a3,a4,a5⟩:=hok hz
       rw [decide_eq_true a4] at c2
       rw [hE] at a3
       by_cases h0:0 < z
       · obtain ⟨q,rfl⟩:∃ q,z = q + 1:=⟨z - 1,by omega⟩
         have hqE:((q + 1:Nat):Int) - 1 = (q:Nat):=by omega
         have a6:l[q].rep < l[q + 1].rep:=a5 h0
         clear hb hE a4 a5
         (have ke1:=Lib.hid (hqE);have kc1:=c2;refine w0e ?_;(repeat' first|refine W2.mk ?_ ?_|refine W1.mk fun hc=>?_);all_goals clear kc1 ke1)
         refine ⟨q + 1 + 1,⟨by omega,up_step h2 hok⟩,by omega,?_⟩
         exact le_auto
       · clear hb hE a4 a5
         (have kc1:=c2;refine w0 ?_;(repeat' first|refine W2.mk ?_ ?_|refine W1.mk fun hc=>?_);all_goals clear kc1)
         refine ⟨z + 1,⟨by omega,up_step h2 hok⟩,by omega,?_⟩
         exact le_auto
     · have hb0:b = false:=by rw [← Bool.not_eq_true,hb];exact fun q=>hok (q z hz)
       subst hb0
       by_cases h0:0 < z
       · obtain ⟨q,rfl⟩:∃ q,z = q + 1:=⟨z - 1,by omega⟩
         have hqE:((q + 1:Nat):Int) - 1 = (q:Nat):=by omega
         have hno:¬ (1 ≤ l[q + 1].rep ∧ l[q + 1].rep ≤ 16 ∧ ¬ l[q + 1].runs.length = 0 ∧ rnsOk l[q + 1].runs ∧ l[q].rep < l[q + 1].rep):=fun ⟨a1,a2,a3,a4,a5⟩=>hok (fun _=>⟨a1,a2,hE.2 a3,a4,fun _=>a5⟩)
         clear hb h2 hE hok
         by_cases q4:rnsOk l[q + 1].runs
         · rw [decide_eq_true q4] at c2
           have hno':¬ (1 ≤ l[q + 1].rep ∧ l[q + 1].rep ≤ 16 ∧ ¬ l[q + 1].runs.length = 0 ∧ l[q].rep < l[q + 1].rep):=fun ⟨a1,a2,a3,a5⟩=>hno ⟨a1,a2,a3,q4,a5⟩
           clear hno q4
           (have ke1:=Lib.hid (hqE);have kc1:=c2;refine w0e ?_;(repeat' first|refine W2.mk ?_ ?_|refine W1.mk fun hc=>?_);all_goals clear kc1 ke1)
           all_goals refine rt1 ?_
           all_goals exact rv_bool rfl rfl
         · rw [decide_eq_false q4] at c2
           clear hno q4
           (have ke1:=Lib.hid (hqE);have kc1:=c2;refine w0e ?_;(repeat' first|refine W2.mk ?_ ?_|refine W1.mk fun hc=>?_);all_goals clear kc1 ke1)
           all_goals refine rt1 ?_
           all_goals exact rv_bool rfl rfl
       · have hno:¬ (1 ≤ l[z].rep ∧ l[z].rep ≤ 16 ∧ ¬ l[z].runs.length = 0 ∧ rnsOk l[z].runs):=fun ⟨a1,a2,a3,a4⟩=>hok (fun _=>⟨a1,a2,hE.2 a3,a4,fun h=>absurd h h0⟩)
         clear hb h2 hE hok
         by_cases q4:rnsOk l[z].runs
         · rw [decide_eq_true q4] at c2
           have hno':¬ (1 ≤ l[z].rep ∧ l[z].rep ≤ 16 ∧ ¬ l[z].runs.length = 0):=fun ⟨a1,a2,a3⟩=>hno ⟨a1,a2,a3,q4⟩
           clear hno q4
           (have kc1:=c2;refine w0 ?_;(repeat' first|refine W2.mk ?_ ?_|refine W1.mk fun hc=>?_);all_goals clear kc1)
           all_goals refine rt1 ?_
           all_goals exact rv_bool rfl rfl
         · rw [decide_eq_false q4] at c2
           clear hno q4
           (have kc1:=c2;refine w0 ?_;(repeat' first|refine W2.mk ?_ ?_|refine W1.mk fun hc=>?_);all_goals clear kc1)
           all_goals refine rt1 ?_
           all_goals exact rv_bool rfl rfl
   · have hb1:b = true:=hb.2 (fun i hi=>h2 i (by omega))
     subst hb1
     clear hb h2
     (refine w0 ?_;(repeat' first|refine W2.mk ?_ ?_|refine W1.mk fun hc=>?_))
     refine rt1 ?_
     exact rv_bool rfl rfl
def rnE (x y:Rn):Bool:=decide (x.fr = y.fr) && (decide (x.to = y.to) && true)
theorem rnE_iff (x y:Rn):rnE x y = true ↔ x = y:=by
 obtain ⟨a,b⟩:=x
 obtain ⟨a',b'⟩:=y
 simp [rnE]
theorem rnE_o (x y:Rn):eqO Tryz.prog 10000 134 (encRn x) (encRn y) = some (rnE x y):=by kernel_rfl
theorem rnG:Tryz.prog.eqGuardType Tryz.prog.depth 134 = false:=by kernel_rfl
theorem rcnt_Same (l m:List Rn) (hl:l.length ≤ 1000000000):Fn Tryz.prog 139 [rnsB l,rnsB m] (boR (decide (l = m))):=by
 refine fi Tryz.func139 Tryz.ntmps139 ?_
 (repeat' (first|refine AW_seq ?_|refine AW_block ?_|refine AW_skip ?_|refine AW_exit ?_|refine AW_ret ?_|refine AW_region ?_|refine AW_draw mixed0 ?_|refine AL_nil ?_|refine AD_nil (by kernel_rfl) ?_|refine thenA_n ?_|refine thenA_r ?_|refine thenA_e ?_|refine inB_n ?_|refine inB_r ?_|refine inB_hit ?_|refine inB_miss rfl ?_|(refine AW_cond_per rfl rfl (fun hc=>?_) (fun hc=>?_) <;> (try rw [Bool.not_eq_true'] at hc) <;> (try rw [Bool.not_eq_false'] at hc) <;> (try first|rw [decide_eq_true_eq] at hc|rw [decide_eq_false_iff_not] at hc|rw [beq_iff_eq] at hc|rw [beq_eq_false_iff_ne] at hc|rw [bne_iff_ne] at hc|rw [bne_eq_false_iff_eq] at hc) <;> (repeat rw [List.length_map] at hc) <;> (try first|contradiction|(exfalso;omega)|(exfalso;simp [*] at hc;done)))|((first|apply AL_t rfl|apply AL_0 rfl|apply AD_t rfl|apply AD_0 rfl);focus (first|exact o_auto))))
 · refine rt1 ?_
   exact rv_bool rfl (by symm;rw [decide_eq_false_iff_not];intro h;subst h;omega)
 have hlm:l.length = m.length:=by omega
 refine AW_loopP (fun k=>k ≤ l.length ∧ l.take k = m.take k) (fun k=>mkSt [(0,rnsB l),(1,rnsB m),(4,bC false),(5,iC .i64 (k:Nat))] []) (fun k=>l.length - k) 0 ⟨Nat.zero_le _,rfl⟩ ?_ ?_
 · exact le_auto
 · rintro k ⟨hk,hpre⟩
   by_cases hlt:k < l.length
   · have hltm:k < m.length:=by omega
     (repeat' (first|refine AW_seq ?_|refine AW_block ?_|refine AW_skip ?_|refine AW_exit ?_|refine AW_ret ?_|refine AW_region ?_|refine AW_draw mixed0 ?_|refine AL_nil ?_|refine AD_nil (by kernel_rfl) ?_|refine thenA_n ?_|refine thenA_r ?_|refine thenA_e ?_|refine inB_n ?_|refine inB_r ?_|refine inB_hit ?_|refine inB_miss rfl ?_|(refine AW_cond_per rfl rfl (fun hc=>?_) (fun hc=>?_) <;> (try rw [Bool.not_eq_true'] at hc) <;> (try rw [Bool.not_eq_false'] at hc) <;> (try first|rw [decide_eq_true_eq] at hc|rw [decide_eq_false_iff_not] at hc|rw [beq_iff_eq] at hc|rw [beq_eq_false_iff_ne] at hc|rw [bne_iff_ne] at hc|rw [bne_eq_false_iff_eq] at hc) <;> (repeat rw [List.length_map] at hc) <;> (try first|contradiction|(exfalso;omega)|(exfalso;simp [*] at hc;done)))|((first|apply AL_t rfl|apply AL_0 rfl|apply AD_t rfl|apply AD_0 rfl);focus (first|exact o_auto|(exact op_eqA (us:=encRn l[k]) (vs:=encRn m[k]) ⟨rfl,rfl,rfl⟩ rfl rfl rfl (.inr ⟨rfl,rfl⟩) rnG rfl (rnE_o l[k] m[k]))))))
     · refine rt1 ?_
       exact rv_bool rfl (by symm;rw [decide_eq_false_iff_not];intro h;subst h;simp [(rnE_iff l[k] l[k]).2 rfl] at *)
     · refine ⟨k + 1,⟨by omega,?_⟩,by omega,?_⟩
       · rw [take_snoc' l k hlt,take_snoc' m k hltm,hpre,(rnE_iff l[k] m[k]).1 (by simpa using hc)]
       · exact le_auto
   · (repeat' (first|refine AW_seq ?_|refine AW_block ?_|refine AW_skip ?_|refine AW_exit ?_|refine AW_ret ?_|refine AW_region ?_|refine AW_draw mixed0 ?_|refine AL_nil ?_|refine AD_nil (by kernel_rfl) ?_|refine thenA_n ?_|refine thenA_r ?_|refine thenA_e ?_|refine inB_n ?_|refine inB_r ?_|refine inB_hit ?_|refine inB_miss rfl ?_|(refine AW_cond_per rfl rfl (fun hc=>?_) (fun hc=>?_) <;> (try rw [Bool.not_eq_true'] at hc) <;> (try rw [Bool.not_eq_false'] at hc) <;> (try first|rw [decide_eq_true_eq] at hc|rw [decide_eq_false_iff_not] at hc|rw [beq_iff_eq] at hc|rw [beq_eq_false_iff_ne] at hc|rw [bne_iff_ne] at hc|rw [bne_eq_false_iff_eq] at hc) <;> (repeat rw [List.length_map] at hc) <;> (try first|contradiction|(exfalso;omega)|(exfalso;simp [*] at hc;done)))|((first|apply AL_t rfl|apply AL_0 rfl|apply AD_t rfl|apply AD_0 rfl);focus (first|exact o_auto))))
     refine rt1 ?_
     exact rv_bool rfl (by symm;rw [decide_eq_true_eq,← List.take_of_length_le (show l.length ≤ k by omega),hpre,List.take_of_length_le (by omega)])
theorem rvs_Same (l m:List Kn) (hl:knsSz l):Fn Tryz.prog 88 [knsB l,knsB m] (boR (decide (l = m))):=by
 have hl0:=hl.1
 refine fi Tryz.func88 Tryz.ntmps88 ?_
 (refine w0 ?_;(repeat' first|refine W2.mk ?_ ?_|refine W1.mk fun hc=>?_))
 · refine rt1 ?_
   exact rv_bool rfl (by symm;rw [decide_eq_false_iff_not];intro h;subst h;omega)
 have hlm:l.length = m.length:=by omega
 refine AW_loopP (fun k=>k ≤ l.length ∧ l.take k = m.take k) (fun k=>mkSt [(0,knsB l),(1,knsB m),(4,bC false),(5,iC .i64 (k:Nat))] []) (fun k=>l.length - k) 0 ⟨Nat.zero_le _,rfl⟩ ?_ ?_
 · exact le_auto
 · rintro k ⟨hk,hpre⟩
   by_cases hlt:k < l.length
   · have hltm:k < m.length:=by omega
     have c1:=rcnt_Same l[k].runs m[k].runs (hl.at hlt)
     have hE:l[k] = m[k] ↔ l[k].rep = m[k].rep ∧ l[k].runs = m[k].runs:=by
       constructor
       · intro h;rw [h];exact ⟨rfl,rfl⟩
       · rintro ⟨h1,h2⟩
         cases hx:l[k];cases hy:m[k]
         rw [hx,hy] at h1 h2
         simp only at h1 h2
         rw [h1,h2]
     by_cases h1:l[k].rep = m[k].rep
     · by_cases h2:l[k].runs = m[k].runs
       · rw [decide_eq_true h2] at c1
         clear hE
         have hlm1:l[k] = m[k]:=by
           cases hx:l[k];cases hy:m[k]
           rw [hx,hy] at h1 h2
           simp only at h1 h2
           rw [h1,h2]
         clear h2
         (have kc1:=c1;refine w0 ?_;(repeat' first|refine W2.mk ?_ ?_|refine W1.mk fun hc=>?_);all_goals clear kc1)
         refine ⟨k + 1,⟨by omega,?_⟩,by omega,?_⟩
         · rw [take_snoc' l k hlt,take_snoc' m k hltm,hpre,hlm1]
         · exact le_auto
       · rw [decide_eq_false h2] at c1
         have hd:¬ l = m:=fun h=>h2 (by subst h;rfl)
         rw [decide_eq_false hd]
         clear hE h2 hd
         (have kc1:=c1;refine w0 ?_;(repeat' first|refine W2.mk ?_ ?_|refine W1.mk fun hc=>?_);all_goals clear kc1)
         refine rt1 ?_
         exact rv_bool rfl rfl
     · have hd:¬ l = m:=fun h=>h1 (by subst h;rfl)
       rw [decide_eq_false hd]
       clear hE hd
       (have kc1:=c1;refine w0 ?_;(repeat' first|refine W2.mk ?_ ?_|refine W1.mk fun hc=>?_);all_goals clear kc1)
       refine rt1 ?_
       exact rv_bool rfl rfl
   · rw [List.take_of_length_le (by omega),List.take_of_length_le (by omega)] at hpre
     rw [decide_eq_true hpre]
     clear hpre
     (refine w0 ?_;(repeat' first|refine W2.mk ?_ ?_|refine W1.mk fun hc=>?_))
     refine rt1 ?_
     exact rv_bool rfl rfl
def longKns (l:List Kn) (most:Int):Bool:=decide ((l.length:Int) > most) || l.any fun k=>decide ((k.runs.length:Int) > most)
theorem rvs_Long (l:List Kn) (most:Int) (hl:most ≤ 1000000000000):Fn Tryz.prog 71 [knsB l,iC .i64 most] (boR (longKns l most)):=by
 refine fi Tryz.func71 Tryz.ntmps71 ?_
 (refine w0 ?_;(repeat' first|refine W2.mk ?_ ?_|refine W1.mk fun hc=>?_))
 · refine rt1 ?_
   exact rv_bool rfl (by unfold longKns;rw [decide_eq_true hc];rfl)
 refine AW_loopP (fun k=>k ≤ l.length ∧ (l.take k).any (fun k=>decide ((k.runs.length:Int) > most)) = false) (fun k=>mkSt [(0,knsB l),(1,iC .i64 most),(4,bC false),(5,iC .i64 (k:Nat))] []) (fun k=>l.length - k) 0 ⟨Nat.zero_le _,by simp⟩ ?_ ?_
 · exact le_auto
 · rintro k ⟨hk,hpre⟩
   by_cases hlt:k < l.length
   · have hsn:(l.take (k + 1)).any (fun k=>decide ((k.runs.length:Int) > most)) = ((l.take k).any (fun k=>decide ((k.runs.length:Int) > most)) || decide ((l[k].runs.length:Int) > most)):=by rw [take_snoc' l k hlt,List.any_append];simp
     by_cases hq:(l[k].runs.length:Int) > most
     · have hd:longKns l most = true:=by unfold longKns;rw [Bool.or_eq_true,List.any_eq_true];exact .inr ⟨l[k],List.getElem_mem hlt,decide_eq_true hq⟩
       rw [hd]
       clear hd hsn hpre
       (refine w0 ?_;(repeat' first|refine W2.mk ?_ ?_|refine W1.mk fun hc=>?_))
       refine rt1 ?_
       exact rv_bool rfl rfl
     · rw [hpre,decide_eq_false hq] at hsn
       clear hpre
       (refine w0 ?_;(repeat' first|refine W2.mk ?_ ?_|refine W1.mk fun hc=>?_))
       refine ⟨k + 1,⟨by omega,hsn⟩,by omega,?_⟩
       exact le_auto
   · have e:l.take k = l:=List.take_of_length_le (by omega)
     rw [e] at hpre
     have hd:longKns l most = false:=by unfold longKns;rw [hpre,Bool.or_false,decide_eq_false_iff_not];assumption
     rw [hd]
     clear hd hpre e
     (refine w0 ?_;(repeat' first|refine W2.mk ?_ ?_|refine W1.mk fun hc=>?_))
     refine rt1 ?_
     exact rv_bool rfl rfl
theorem longKns_sz {l:List Kn} {most:Int} (h:longKns l most = false):(l.length:Int) ≤ most ∧ ∀ k ∈ l,(k.runs.length:Int) ≤ most:=by
 unfold longKns at h
 rw [Bool.or_eq_false_iff,decide_eq_false_iff_not] at h
 refine ⟨by omega,fun k hk=>?_⟩
 have:=List.any_eq_false.1 h.2 k hk
 simp at this;exact this
end
end Go.Proofs.YtfcpkegmdlchhaaGreat
