/- Texts joined: RgO KnE KnF VsP. -/
import Derived.Test.YtembiemaiacdfaaGreatJ13
import Derived.Test.YtembiemaiacdfaaGreatJ10
import Derived.Test.YtembiemaiacdfaaGreatJ15
import Derived.Test.YtembiemaiacdfaaGreatJ05
import Derived.Test.YtembiemaiacdfaaGreatJ14
set_option maxRecDepth 10000
set_option maxHeartbeats 8000000
namespace Go.Proofs.YtembiemaiacdfaaGreat
/-- what a range has -/
def rgHas (r:Rg) (s:ByteArray):Bool:=rgR r && (decide (r.lo ≤ s) && (r.op || decide (s < r.hi)))
/-- which of two right ones ends ahead -/
def endR (a b:Rg):Int:=if a.op && b.op then 0 else if a.op then 1 else if b.op then -1 else cmpB a.hi b.hi
def ofF (out:List Rg) (r:Rg):List Rg:=match out.reverse with
 | []=>[r]
 | x :: z=>if x.op = false ∧ cmpB x.hi r.lo < 0 then out ++ [r] else if endR x r < 0 then z.reverse ++ [⟨x.lo,r.hi,r.op⟩] else out
def ltR (x y:Rg):Bool:=decide (cmpB x.lo y.lo < 0)
theorem rgR_lo {r:Rg} (h:rgR r = true):r.op = true ∨ r.lo < r.hi:=by
 obtain ⟨_,_,h⟩:=(rgR_iff r).1 h
 cases ho:r.op with
 | true=>exact .inl rfl
 | false=>rw [ho] at h;exact .inr ((o_lt _ _).1 (by simpa using h))
/-- the chain: each right, and behind the one ahead of it; of a list that is turned round -/
inductive Chn:List Rg → Prop
 | nil:Chn []
 | one {x}:rgR x = true → Chn [x]
 | cons {x y z}:rgR x = true → y.op = false → y.hi < x.lo → Chn (y :: z) → Chn (x :: y :: z)
theorem Chn.head {x:Rg} {z:List Rg} (h:Chn (x :: z)):rgR x = true:=by
 cases h with
 | one h=>exact h
 | cons h _ _ _=>exact h
theorem Chn.ok:∀ {l:List Rg},Chn l → rgsOk l.reverse:=by
 intro l h
 induction h with
 | nil=>intro i hi;simp at hi
 | one h=>
   intro i hi
   have:i = 0:=by simp at hi;omega
   subst this
   exact ⟨h,fun h=>absurd h (by omega)⟩
 | @cons x y z hx ho hl hc ih=>
   have e:(x :: y :: z).reverse = (y :: z).reverse ++ [x]:=by simp
   rw [e]
   intro i hi
   rw [List.length_append] at hi
   rcases Nat.lt_or_ge i (y :: z).reverse.length with q|q
   · have:=ih i q
     refine ⟨?_,fun h0=>?_⟩
     · rw [List.getElem_append_left q];exact this.1
     · rw [List.getElem_append_left q,List.getElem_append_left (by omega)];exact this.2 h0
   · have hi':i = (y :: z).reverse.length:=by simp at hi ⊢;simp at q;omega
     subst hi'
     refine ⟨?_,fun h0=>?_⟩
     · rw [List.getElem_append_right (Nat.le_refl _)];simpa using hx
     · rw [List.getElem_append_right (Nat.le_refl _),List.getElem_append_left (by omega)]
       simp only [List.length_reverse,List.length_cons,List.getElem_reverse,Nat.sub_self,List.getElem_cons_zero]
       exact ⟨by simpa using ho,(o_lt _ _).2 (by simpa using hl)⟩
/-- all ends that are there stand ahead of what comes, but for the last one's -/
theorem Chn.ahead:∀ {x:Rg} {z:List Rg},Chn (x :: z) → ∀ y ∈ z,y.op = false ∧ y.hi < x.lo:=by
 intro x z h
 induction z generalizing x with
 | nil=>intro y hy;cases hy
 | cons w z ih=>
   cases h with
   | cons hx ho hl hc=>
     intro y hy
     rcases List.mem_cons.1 hy with e|e
     · subst e;exact ⟨ho,hl⟩
     · obtain ⟨h1,h2⟩:=ih hc y e
       rcases rgR_lo hc.head with q|q
       · rw [ho] at q;cases q
       · exact ⟨h1,by grind⟩
def anyR (l:List Rg) (s:ByteArray):Bool:=l.any fun r=>rgHas r s
theorem rgHas_of {r:Rg} (h:rgR r = true) (s:ByteArray):rgHas r s = (decide (r.lo ≤ s) && (r.op || decide (s < r.hi))):=by
 unfold rgHas;rw [h];rfl
theorem ofF_spec (Z:List Rg) (r:Rg) (h:Chn Z) (hr:rgR r = true) (hs:∀ x ∈ Z,x.lo ≤ r.lo) :
   Chn (ofF Z.reverse r).reverse ∧ (∀ x ∈ (ofF Z.reverse r).reverse,x.lo ≤ r.lo) ∧ ∀ s,anyR (ofF Z.reverse r).reverse s = (anyR Z s || rgHas r s):=by
 unfold ofF
 rw [List.reverse_reverse]
 cases Z with
 | nil=>
   refine ⟨.one hr,fun x hx=>?_,fun s=>?_⟩
   · simp at hx;subst hx;grind
   · simp [anyR]
 | cons x z=>
   have hx:=h.head
   have hxl:=hs x List.mem_cons_self
   simp only
   split
   · rename_i hc
     simp only [List.reverse_append,List.reverse_reverse,List.reverse_cons,List.reverse_nil,List.nil_append,List.singleton_append]
     refine ⟨.cons hr hc.1 hc.2 h,fun y hy=>?_,fun s=>?_⟩
     · rcases List.mem_cons.1 hy with e|e
       · subst e;grind
       · exact hs y e
     · simp only [anyR,List.any_cons];rw [Bool.or_comm]
   · rename_i hc
     have hE:endR x r = (if x.op && r.op then 0 else if x.op then 1 else if r.op then -1 else cmpB x.hi r.hi):=rfl
     have hc':x.op = true ∨ r.lo ≤ x.hi:=by
       cases ho:x.op with
       | true=>exact .inl rfl
       | false=>
         refine .inr ?_
         rw [ho] at hc
         have:¬ x.hi < r.lo:=fun q=>hc ⟨rfl,q⟩
         grind
     have hxr:=rgR_lo hx
     have hrr:=rgR_lo hr
     split
     · rename_i hd
       have hxo:x.op = false:=by
         cases ho:x.op with
         | false=>rfl
         | true=>rw [hE,ho] at hd;simp at hd;split at hd <;> omega
       have hro:r.op = true ∨ x.hi < r.hi:=by
         cases ho:r.op with
         | true=>exact .inl rfl
         | false=>rw [hE,hxo,ho] at hd;exact .inr ((o_lt _ _).1 (by simpa using hd))
       have hN:rgR ⟨x.lo,r.hi,r.op⟩ = true:=by
         rw [rgR_iff]
         obtain ⟨a1,a2,a3⟩:=(rgR_iff x).1 hx
         obtain ⟨b1,b2,b3⟩:=(rgR_iff r).1 hr
         refine ⟨a1,b2,?_⟩
         simp only
         cases ho:r.op with
         | true=>rw [ho] at b3;simpa using b3
         | false=>
           rw [ho] at b3
           simp only [Bool.false_eq_true,if_false] at b3 ⊢
           rw [o_lt] at b3 ⊢
           grind
       simp only [List.reverse_append,List.reverse_reverse,List.reverse_cons,List.reverse_nil,List.nil_append,List.singleton_append]
       refine ⟨?_,fun y hy=>?_,fun s=>?_⟩
       · cases h with
         | one _=>exact .one hN
         | cons _ ho hl hc=>exact .cons hN ho hl hc
       · rcases List.mem_cons.1 hy with e|e
         · subst e;exact hxl
         · exact hs y (List.mem_cons_of_mem _ e)
       · simp only [anyR,List.any_cons]
         rw [rgHas_of hN,rgHas_of hx,rgHas_of hr]
         simp only
         rw [Bool.eq_iff_iff]
         simp only [Bool.or_eq_true,Bool.and_eq_true,decide_eq_true_eq,hxo,Bool.false_eq_true,false_or]
         grind
     · rename_i hd
       have hxo:x.op = true ∨ (r.op = false ∧ r.hi ≤ x.hi):=by
         cases ho:x.op with
         | true=>exact .inl rfl
         | false=>
           rw [hE,ho] at hd
           cases hp:r.op with
           | true=>rw [hp] at hd;simp at hd
           | false=>rw [hp] at hd;refine .inr ⟨rfl,?_⟩;simp only [Bool.false_and,Bool.false_eq_true,if_false] at hd;rw [o_lt] at hd;grind
       rw [List.reverse_reverse]
       refine ⟨h,hs,fun s=>?_⟩
       simp only [anyR,List.any_cons]
       rw [rgHas_of hx,rgHas_of hr,Bool.eq_iff_iff]
       simp only [Bool.or_eq_true,Bool.and_eq_true,decide_eq_true_eq]
       grind
theorem of_spec:∀ (L Z:List Rg),Chn Z → (∀ r ∈ L,rgR r = true) → L.Pairwise (fun x y=>x.lo ≤ y.lo) → (∀ x ∈ Z,∀ r ∈ L,x.lo ≤ r.lo) →
   Chn (L.foldl ofF Z.reverse).reverse ∧ ∀ s,anyR (L.foldl ofF Z.reverse).reverse s = (anyR Z s || anyR L s):=by
 intro L
 induction L with
 | nil=>intro Z h _ _ _;simp [h,anyR]
 | cons r L ih=>
   intro Z h hR hS hZ
   obtain ⟨p1,p2⟩:=List.pairwise_cons.1 hS
   obtain ⟨h1,h2,h3⟩:=ofF_spec Z r h (hR r List.mem_cons_self) (fun x hx=>hZ x hx r List.mem_cons_self)
   have h4:=ih (ofF Z.reverse r).reverse h1 (fun x hx=>hR x (List.mem_cons_of_mem _ hx)) p2 (fun x hx y hy=>by have:=h2 x hx;have:=p1 y hy;grind)
   rw [List.reverse_reverse] at h4
   refine ⟨h4.1,fun s=>?_⟩
   rw [List.foldl_cons,h4.2 s,h3 s]
   simp only [anyR,List.any_cons,Bool.or_assoc]
theorem anyR_rev (l:List Rg) (s:ByteArray):anyR l.reverse s = anyR l s:=by unfold anyR;rw [List.any_reverse]
/-- the right list of ranges -/
def rgOfS (l:List Rg):List Rg:=l.foldl ofF []
theorem rgOfS_ok {L:List Rg} (hR:∀ r ∈ L,rgR r = true) (hS:L.Pairwise (fun x y=>x.lo ≤ y.lo)):rgsOk (rgOfS L) ∧ ∀ s,anyR (rgOfS L) s = anyR L s:=by
 have h:=of_spec L [] .nil hR hS (fun x hx=>by cases hx)
 refine ⟨?_,fun s=>?_⟩
 · have:=h.1.ok;rw [List.reverse_reverse] at this;exact this
 · have:=h.2 s;rw [anyR_rev] at this;rw [rgOfS];exact this.trans (by simp [anyR])
theorem ofF_len (out:List Rg) (r:Rg):(ofF out r).length ≤ out.length + 1:=by
 unfold ofF
 split
 · simp
 · rename_i x z h
   have e:out.length = z.length + 1:=by rw [← List.length_reverse,h];rfl
   split
   · simp
   · split
     · simp;omega
     · omega
theorem of_len:∀ (L out:List Rg),(L.foldl ofF out).length ≤ out.length + L.length:=by
 intro L
 induction L with
 | nil=>intro out;simp
 | cons r L ih=>intro out;rw [List.foldl_cons,List.length_cons];have:=ih (ofF out r);have:=ofF_len out r;omega
/-- where a text stands in a right list: the first range that does not end ahead of it -/
theorem find_ex {l:List Rg} (h:rgsOk l) (s:ByteArray):∃ p,p ≤ l.length ∧ ∀ j (hj:j < l.length),((l[j].op = true ∨ s < l[j].hi) ↔ p ≤ j):=by
 have up:∀ j (hj:j + 1 < l.length),(l[j].op = true ∨ s < l[j].hi) → (l[j + 1].op = true ∨ s < l[j + 1].hi):=by
   intro j hj hs
   have h1:=(h (j + 1) hj).2 (by omega)
   have h2:=rgR_lo (h (j + 1) hj).1
   simp only [Nat.add_sub_cancel] at h1
   rw [o_lt] at h1
   grind
 have hB:∀ n,n ≤ l.length → ∃ p,p ≤ n ∧ ∀ j (hj:j < l.length),j < n → ((l[j].op = true ∨ s < l[j].hi) ↔ p ≤ j):=by
   intro n
   induction n with
   | zero=>intro _;exact ⟨0,Nat.le_refl _,fun j _ h=>absurd h (Nat.not_lt_zero _)⟩
   | succ n ih=>
     intro hn
     obtain ⟨p,hp,hq⟩:=ih (by omega)
     by_cases hb:l[n].op = true ∨ s < l[n].hi
     · refine ⟨p,by omega,fun j hj hjn=>?_⟩
       rcases Nat.lt_or_ge j n with q|q
       · exact hq j hj q
       · obtain rfl:j = n:=by omega
         exact ⟨fun _=>by omega,fun _=>hb⟩
     · refine ⟨n + 1,by omega,fun j hj hjn=>?_⟩
       rcases Nat.lt_or_ge j n with q|q
       · refine ⟨fun hx=>?_,fun hx=>by omega⟩
         exfalso
         have:∀ d,j + d ≤ n → ∃ hd:j + d < l.length,(l[j + d].op = true ∨ s < l[j + d].hi):=by
           intro d
           induction d with
           | zero=>intro _;exact ⟨hj,hx⟩
           | succ d ihd=>
             intro hd
             obtain ⟨h1,h2⟩:=ihd (by omega)
             exact ⟨by omega,up (j + d) (by omega) h2⟩
         obtain ⟨h1,h2⟩:=this (n - j) (by omega)
         have e:j + (n - j) = n:=by omega
         simp only [e] at h2
         exact hb h2
       · obtain rfl:j = n:=by omega
         exact ⟨fun hx=>absurd hx hb,fun hx=>by omega⟩
 obtain ⟨p,h1,h2⟩:=hB l.length (Nat.le_refl _)
 exact ⟨p,h1,fun j hj=>h2 j hj hj⟩
/-- a right list has a text just if the range that stands there has it -/
theorem has_at {l:List Rg} (h:rgsOk l) {s:ByteArray} {p:Nat} (hp:∀ j (hj:j < l.length),((l[j].op = true ∨ s < l[j].hi) ↔ p ≤ j)) :
   anyR l s = (match l[p]? with|some r=>rgHas r s|none=>false):=by
 have ch:∀ d j (hj:j + d + 1 < l.length),l[j].op = false ∧ l[j].hi < l[j + d + 1].lo:=by
   intro d
   induction d with
   | zero=>intro j hj;have:=(h (j + 1) hj).2 (by omega);simp only [Nat.add_sub_cancel] at this;exact this
   | succ d ih=>
     intro j hj
     obtain ⟨a,b⟩:=ih j (by omega)
     have c:=(h (j + d + 1 + 1) (by omega)).2 (by omega)
     have e:=rgR_lo (h (j + d + 1) (by omega)).1
     simp only [Nat.add_sub_cancel] at c
     rw [o_lt] at c
     refine ⟨a,?_⟩
     show l[j].hi < l[j + d + 1 + 1].lo
     grind
 rw [Bool.eq_iff_iff]
 unfold anyR
 rw [List.any_eq_true]
 constructor
 · rintro ⟨r,hr,hs⟩
   obtain ⟨j,hj,rfl⟩:=List.getElem_of_mem hr
   have hjr:=(h j hj).1
   rw [rgHas_of hjr] at hs
   simp only [Bool.and_eq_true,Bool.or_eq_true,decide_eq_true_eq] at hs
   have hpj:=(hp j hj).1 hs.2
   rcases Nat.lt_or_ge p j with q|q
   · exfalso
     have hpl:p < l.length:=by omega
     have:=(hp p hpl).2 (Nat.le_refl _)
     obtain ⟨d,rfl⟩:∃ d,j = p + d + 1:=⟨j - p - 1,by omega⟩
     obtain ⟨a,b⟩:=ch d p hj
     grind
   · obtain rfl:p = j:=by omega
     rw [List.getElem?_eq_getElem hj]
     simp only
     rw [rgHas_of hjr]
     simp only [Bool.and_eq_true,Bool.or_eq_true,decide_eq_true_eq]
     exact hs
 · intro hs
   rcases Nat.lt_or_ge p l.length with q|q
   · rw [List.getElem?_eq_getElem q] at hs
     exact ⟨l[p],List.getElem_mem q,hs⟩
   · rw [List.getElem?_eq_none q] at hs;cases hs
theorem ltR_wo:SWo ltR:=by
 refine ⟨fun x=>?_,fun x y z h1 h2=>?_,fun x y z h1 h2=>?_⟩ <;> simp only [ltR,decide_eq_true_eq,decide_eq_false_iff_not,o_lt] at * <;> grind
/-- the right list of ranges of any -/
def rgOf (l:List Rg):List Rg:=rgOfS (srtS ltR (l.filter rgR))
theorem rgOf_spec (l:List Rg):rgsOk (rgOf l) ∧ ∀ s,anyR (rgOf l) s = anyR l s:=by
 have hS:=(srtS_spec ltR_wo (l.filter rgR)).1
 obtain ⟨h1,h2⟩:=rgOfS_ok (L:=srtS ltR (l.filter rgR)) (fun r hr=>(List.mem_filter.1 ((srtS_mem ltR_wo).1 hr)).2)
   (hS.imp fun {x y} h=>by simp only [ltR,decide_eq_false_iff_not,o_lt] at h;grind)
 refine ⟨h1,fun s=>(h2 s).trans ?_⟩
 unfold anyR
 rw [Bool.eq_iff_iff,List.any_eq_true,List.any_eq_true]
 constructor
 · rintro ⟨r,hr,hs⟩
   exact ⟨r,(List.mem_filter.1 ((srtS_mem ltR_wo).1 hr)).1,hs⟩
 · rintro ⟨r,hr,hs⟩
   refine ⟨r,(srtS_mem ltR_wo).2 (List.mem_filter.2 ⟨hr,?_⟩),hs⟩
   unfold rgHas at hs
   exact (Bool.and_eq_true _ _ ▸ hs).1
theorem rgOf_len (l:List Rg):(rgOf l).length ≤ l.length:=by
 have h1:=of_len (srtS ltR (l.filter rgR)) []
 have h2:=List.length_filter_le rgR l
 rw [srtS_len] at h1
 simp only [List.length_nil] at h1
 unfold rgOf rgOfS
 omega
end Go.Proofs.YtembiemaiacdfaaGreat
namespace Go.Proofs.YtembiemaiacdfaaGreat
/-- a text put among rising ones, once -/
def putT:List ByteArray → ByteArray → List ByteArray
 | [],n=>[n]
 | x :: l,n=>if x < n then x :: putT l n else if x = n then x :: l else n :: x :: l
theorem putT_mem:∀ (l:List ByteArray) (n m:ByteArray),m ∈ putT l n ↔ m = n ∨ m ∈ l:=by
 intro l
 induction l with
 | nil=>intro n m;simp [putT]
 | cons x l ih=>
   intro n m
   rw [putT]
   split
   · simp only [List.mem_cons,ih]
     constructor
     · rintro (h|h|h) <;> simp [h]
     · rintro (h|h|h) <;> simp [h]
   · split
     · rename_i e
       subst e
       simp
     · simp
abbrev upT (l:List ByteArray):Prop:=l.Pairwise (· < ·)
theorem putT_up:∀ (l:List ByteArray) (n:ByteArray),upT l → upT (putT l n):=by
 intro l
 induction l with
 | nil=>intro n _;simp [putT]
 | cons x l ih=>
   intro n h
   obtain ⟨h1,h2⟩:=List.pairwise_cons.1 h
   rw [putT]
   split
   · rename_i c
     refine List.pairwise_cons.2 ⟨fun z hz=>?_,ih n h2⟩
     rcases (putT_mem _ _ _).1 hz with rfl|hz
     · exact c
     · exact h1 z hz
   · split
     · exact h
     · refine List.pairwise_cons.2 ⟨fun z hz=>?_,h⟩
       rcases List.mem_cons.1 hz with rfl|hz
       · grind
       · have:=h1 z hz;grind
/-- two rising lists with the same texts are one -/
theorem upT_uniq:∀ {l m:List ByteArray},upT l → upT m → (∀ s,s ∈ l ↔ s ∈ m) → l = m:=by
 intro l
 induction l with
 | nil=>
   intro m _ _ h
   cases m with
   | nil=>rfl
   | cons y m=>have:=(h y).2 (by simp);simp at this
 | cons x l ih=>
   intro m hl hm h
   cases m with
   | nil=>have:=(h x).1 (by simp);simp at this
   | cons y m=>
     obtain ⟨a1,a2⟩:=List.pairwise_cons.1 hl
     obtain ⟨b1,b2⟩:=List.pairwise_cons.1 hm
     have e:x = y:=by
       rcases List.mem_cons.1 ((h x).1 (by simp)) with q|q
       · exact q
       · rcases List.mem_cons.1 ((h y).2 (by simp)) with z|z
         · exact z.symm
         · have:=b1 x q;have:=a1 y z;grind
     subst e
     rw [ih a2 b2 (fun s=>?_)]
     constructor
     · intro q
       have:=a1 s q
       rcases List.mem_cons.1 ((h s).1 (by simp [q])) with z|z
       · subst z;grind
       · exact z
     · intro q
       have:=b1 s q
       rcases List.mem_cons.1 ((h s).2 (by simp [q])) with z|z
       · subst z;grind
       · exact z
def edg1T (e:List ByteArray) (r:Rg):List ByteArray:=if rgR r then (if r.op then putT e r.lo else putT (putT e r.lo) r.hi) else e
def edgT (e:List ByteArray) (l:List Rg):List ByteArray:=l.foldl edg1T e
theorem edg1T_up {e:List ByteArray} {r:Rg} (h:upT e):upT (edg1T e r):=by
 unfold edg1T;split
 · split
   · exact putT_up _ _ h
   · exact putT_up _ _ (putT_up _ _ h)
 · exact h
theorem edgT_up:∀ (l:List Rg) (e:List ByteArray),upT e → upT (edgT e l):=by
 intro l
 induction l with
 | nil=>intro e h;exact h
 | cons r l ih=>intro e h;exact ih _ (edg1T_up h)
/-- an edge of a right range -/
def isEdge (r:Rg) (m:ByteArray):Prop:=rgR r = true ∧ (m = r.lo ∨ r.op = false ∧ m = r.hi)
theorem edgT_mem:∀ (l:List Rg) (e:List ByteArray) (m:ByteArray),m ∈ edgT e l ↔ m ∈ e ∨ ∃ r ∈ l,isEdge r m:=by
 intro l
 induction l with
 | nil=>intro e m;simp [edgT]
 | cons r l ih=>
   intro e m
   show m ∈ edgT (edg1T e r) l ↔ _
   rw [ih]
   have h1:m ∈ edg1T e r ↔ m ∈ e ∨ isEdge r m:=by
     unfold edg1T isEdge
     by_cases c:rgR r = true
     · rw [if_pos c]
       by_cases o:r.op = true
       · rw [if_pos o,putT_mem]
         simp [c,o,or_comm]
       · rw [if_neg o,putT_mem,putT_mem]
         have o':r.op = false:=by simpa using o
         simp only [c,o',true_and]
         constructor
         · rintro (h|h|h) <;> simp [h]
         · rintro (h|h|h) <;> simp [h]
     · rw [if_neg c]
       simp [c]
   rw [h1]
   simp only [List.mem_cons,exists_eq_or_imp,or_assoc]
theorem edgT_len:∀ (l:List Rg) (e:List ByteArray),(edgT e l).length ≤ e.length + 2 * l.length:=by
 have h1:∀ (l:List ByteArray) (n:ByteArray),(putT l n).length ≤ l.length + 1:=by
   intro l
   induction l with
   | nil=>intro n;simp [putT]
   | cons x l ih=>
     intro n
     rw [putT]
     split
     · have:=ih n;simp;omega
     · split <;> simp
 intro l
 induction l with
 | nil=>intro e;simp [edgT]
 | cons r l ih=>
   intro e
   show (edgT (edg1T e r) l).length ≤ _
   have h2:=ih (edg1T e r)
   have h3:(edg1T e r).length ≤ e.length + 2:=by
     unfold edg1T
     have a:=h1 (putT e r.lo) r.hi
     have b:=h1 e r.lo
     split
     · split <;> omega
     · omega
   rw [List.length_cons];omega
abbrev emB:ByteArray:=⟨#[]⟩
theorem emB_le (s:ByteArray):emB ≤ s:=by
 show cmpB emB s ≤ 0
 unfold cmpB
 cases s.data.toList with
 | nil=>decide
 | cons x l=>simp [cmpL]
/-! ### right knowledge -/
/-- what is known of a text -/
def getK (k:List Pc) (s:ByteArray):List Kn:=match k with
 | []=>[]
 | p :: l=>if rgHas p.rg s then p.set else getK l s
theorem getK_nil (s:ByteArray):getK [] s = []:=rfl
theorem getK_in {p:Pc} {l:List Pc} {s:ByteArray} (h:rgHas p.rg s = true):getK (p :: l) s = p.set:=by rw [getK,if_pos h]
theorem getK_out {p:Pc} {l:List Pc} {s:ByteArray} (h:¬ rgHas p.rg s = true):getK (p :: l) s = getK l s:=by rw [getK,if_neg h]
theorem rgHas_iff {r:Rg} (h:rgR r = true) (s:ByteArray):rgHas r s = true ↔ r.lo ≤ s ∧ (r.op = true ∨ s < r.hi):=by
 rw [rgHas_of h];simp
theorem rgHas_lo {r:Rg} (h:rgR r = true):rgHas r r.lo = true:=by
 rw [rgHas_iff h]
 refine ⟨by grind,?_⟩
 rcases rgR_lo h with q|q
 · exact .inl q
 · exact .inr q
/-- pieces in order, each right; two side by side may know the same -/
def pcW (p:Pc):Prop:=rgR p.rg = true ∧ p.set ≠ [] ∧ knsOk p.set
theorem pcsOk_nil:pcsOk []:=fun i hi=>by simp at hi
theorem pcsOk_cons (p:Pc) (l:List Pc):pcsOk (p :: l) ↔ pcW p ∧ (∀ q,l.head? = some q → p.rg.op = false ∧ p.rg.hi ≤ q.rg.lo ∧ ¬ (p.rg.hi = q.rg.lo ∧ p.set = q.set)) ∧ pcsOk l:=by
 constructor
 · intro h
   have h0:=h 0 (by simp) (by simp)
   refine ⟨⟨h0.1,h0.2.1,h0.2.2.1⟩,fun q hq=>?_,fun i hi hi'=>?_⟩
   · cases l with
     | nil=>cases hq
     | cons z l=>
       cases hq
       exact (h 1 (by simp) (by simp)).2.2.2 (by omega)
   · have h1:=h (i + 1) (by simpa using hi) (by simpa using hi)
     simp only [List.getElem_cons_succ,Nat.add_sub_cancel] at h1
     refine ⟨h1.1,h1.2.1,h1.2.2.1,fun h0=>?_⟩
     have h2:=h1.2.2.2 (by omega)
     obtain ⟨j,rfl⟩:∃ j,i = j + 1:=⟨i - 1,by omega⟩
     exact h2
 · rintro ⟨⟨h1,h2,h2'⟩,h3,h4⟩ i hi hi'
   cases i with
   | zero=>exact ⟨h1,h2,h2',fun q=>absurd q (Nat.lt_irrefl _)⟩
   | succ i=>
     have h5:=h4 i (by simpa using hi) (by simpa using hi)
     simp only [List.getElem_cons_succ,Nat.add_sub_cancel]
     refine ⟨h5.1,h5.2.1,h5.2.2.1,fun _=>?_⟩
     cases i with
     | zero=>
       cases l with
       | nil=>simp at hi
       | cons z l=>exact h3 z rfl
     | succ i=>
       exact h5.2.2.2 (by omega)
theorem pcsOk_low {p:Pc} {l:List Pc} (h:pcsOk (p :: l)) {s:ByteArray} (hs:getK l s ≠ []):p.rg.op = false ∧ p.rg.hi ≤ s:=by
 induction l generalizing p with
 | nil=>exact absurd rfl hs
 | cons q l ih=>
   obtain ⟨_,h2,h3⟩:=(pcsOk_cons _ _).1 h
   obtain ⟨a,b,_⟩:=h2 q rfl
   obtain ⟨⟨hq,_,_⟩,_,_⟩:=(pcsOk_cons _ _).1 h3
   refine ⟨a,?_⟩
   by_cases c:rgHas q.rg s = true
   · have:=((rgHas_iff hq s).1 c).1
     grind
   · rw [getK_out c] at hs
     obtain ⟨_,d⟩:=ih h3 hs
     rcases rgR_lo hq with z|z
     · have:=(ih h3 hs).1;rw [z] at this;cases this
     · grind
theorem getK_lo {p:Pc} {l:List Pc} (h:pcsOk (p :: l)) {s:ByteArray} (hs:getK (p :: l) s ≠ []):p.rg.lo ≤ s:=by
 obtain ⟨⟨hp,_,_⟩,_,_⟩:=(pcsOk_cons _ _).1 h
 by_cases c:rgHas p.rg s = true
 · exact ((rgHas_iff hp s).1 c).1
 · rw [getK_out c] at hs
   obtain ⟨a,b⟩:=pcsOk_low h hs
   rcases rgR_lo hp with z|z
   · rw [z] at a;cases a
   · grind
theorem getK_first {p:Pc} {l:List Pc} (h:pcsOk (p :: l)):getK (p :: l) p.rg.lo = p.set ∧ p.set ≠ []:=by
 obtain ⟨⟨hp,h2,_⟩,_,_⟩:=(pcsOk_cons _ _).1 h
 exact ⟨getK_in (rgHas_lo hp),h2⟩
/-- where a piece ends, another thing is known -/
theorem getK_end {p:Pc} {l:List Pc} (h:pcsOk (p :: l)) (ho:p.rg.op = false):getK (p :: l) p.rg.hi ≠ p.set:=by
 obtain ⟨⟨hp,h2,_⟩,h3,h4⟩:=(pcsOk_cons _ _).1 h
 have c:¬ rgHas p.rg p.rg.hi = true:=fun q=>by
   rcases ((rgHas_iff hp _).1 q).2 with z|z
   · rw [ho] at z;cases z
   · grind
 rw [getK_out c]
 cases l with
 | nil=>exact fun e=>h2 e.symm
 | cons q l=>
   obtain ⟨_,b,d⟩:=h3 q rfl
   intro e
   have hne:getK (q :: l) p.rg.hi ≠ []:=by rw [e];exact h2
   have:=getK_lo h4 hne
   have e2:p.rg.hi = q.rg.lo:=by grind
   rw [e2,(getK_first h4).1] at e
   exact d ⟨e2,e.symm⟩
theorem pcsOk_uniq:∀ {l m:List Pc},pcsOk l → pcsOk m → (∀ s,getK l s = getK m s) → l = m:=by
 intro l
 induction l with
 | nil=>
   intro m _ hm h
   cases m with
   | nil=>rfl
   | cons q m=>
     obtain ⟨a,b⟩:=getK_first hm
     exact absurd ((h _).trans a).symm b
 | cons p l ih=>
   intro m hl hm h
   cases m with
   | nil=>
     obtain ⟨a,b⟩:=getK_first hl
     exact absurd (a.symm.trans (h _)) b
   | cons q m=>
     obtain ⟨a1,a2⟩:=getK_first hl
     obtain ⟨b1,b2⟩:=getK_first hm
     obtain ⟨⟨hp,_,_⟩,_,hl'⟩:=(pcsOk_cons _ _).1 hl
     obtain ⟨⟨hq,_,_⟩,_,hm'⟩:=(pcsOk_cons _ _).1 hm
     have e1:p.rg.lo = q.rg.lo:=by
       have x:=getK_lo hm (s:=p.rg.lo) (by rw [← h,a1];exact a2)
       have y:=getK_lo hl (s:=q.rg.lo) (by rw [h,b1];exact b2)
       grind
     have e2:p.set = q.set:=by rw [← a1,← b1,h,e1]
     have inn:∀ {r r':Pc} {l l':List Pc},pcsOk (r :: l) → pcsOk (r' :: l') → rgR r.rg = true → rgR r'.rg = true → r.rg.lo = r'.rg.lo → r.set = r'.set → (∀ s,getK (r :: l) s = getK (r' :: l') s) → r.rg.op = false → r'.rg.op = false ∧ r'.rg.hi ≤ r.rg.hi:=by
       intro r r' l l' h1 h2 hr hr' z1 z2 hg ho
       have hE:=getK_end h1 ho
       rw [hg,z2] at hE
       have hlt:r.rg.lo < r.rg.hi:=by
         rcases rgR_lo hr with q|q
         · rw [ho] at q;cases q
         · exact q
       have hno:¬ rgHas r'.rg r.rg.hi = true:=fun c=>hE (getK_in c)
       rw [rgHas_iff hr'] at hno
       have:r'.rg.op = false:=by
         rw [← Bool.not_eq_true];intro c;exact hno ⟨by grind,.inl c⟩
       refine ⟨this,?_⟩
       by_cases c:r.rg.hi < r'.rg.hi
       · exact absurd ⟨by grind,.inr c⟩ hno
       · grind
     have e3:p.rg.op = q.rg.op:=by
       cases o:p.rg.op with
       | false=>exact (inn hl hm hp hq e1 e2 h o).1.symm
       | true=>
         cases o':q.rg.op with
         | true=>rfl
         | false=>
           have:=(inn hm hl hq hp e1.symm e2.symm (fun s=>(h s).symm) o').1
           rw [o] at this;cases this
     have e4:p.rg.hi = q.rg.hi:=by
       cases o:p.rg.op with
       | false=>
         have x:=(inn hl hm hp hq e1 e2 h o).2
         have y:=(inn hm hl hq hp e1.symm e2.symm (fun s=>(h s).symm) (e3 ▸ o)).2
         grind
       | true=>
         have x:=(rgR_iff _).1 hp
         have y:=(rgR_iff _).1 hq
         rw [← e3,o] at y
         rw [o] at x
         simp at x y
         rw [x.2.2,y.2.2]
     have e:p = q:=by
       obtain ⟨⟨lo,hi,op⟩,st⟩:=p
       obtain ⟨⟨lo',hi',op'⟩,st'⟩:=q
       simp only at e1 e2 e3 e4
       rw [e1,e2,e3,e4]
     subst e
     rw [ih hl' hm' (fun s=>?_)]
     by_cases c:rgHas p.rg s = true
     · have no:∀ {t:List Pc},pcsOk (p :: t) → getK t s = []:=fun {t} ht=>by
         refine Classical.byContradiction fun z=>?_
         obtain ⟨x,y⟩:=pcsOk_low ht z
         rcases ((rgHas_iff hp s).1 c).2 with w|w
         · rw [x] at w;cases w
         · grind
       rw [no hl,no hm]
     · have:=h s
       rwa [getK_out c,getK_out c] at this
end Go.Proofs.YtembiemaiacdfaaGreat
namespace Go.Proofs.YtembiemaiacdfaaGreat
/-- merged: what touches and knows the same -/
def tchB (p q:Pc):Bool:=!p.rg.op && (decide (p.rg.hi = q.rg.lo) && decide (p.set = q.set))
def mgT:Pc → List Pc → List Pc
 | c,[]=>[c]
 | c,p :: l=>if tchB c p then mgT ⟨⟨c.rg.lo,p.rg.hi,p.rg.op⟩,c.set⟩ l else c :: mgT p l
def mergeKn:List Pc → List Pc
 | []=>[]
 | p :: l=>mgT p l
theorem mgT_head:∀ (l:List Pc) (c:Pc),∃ z t,mgT c l = z :: t ∧ z.rg.lo = c.rg.lo ∧ z.set = c.set:=by
 intro l
 induction l with
 | nil=>intro c;exact ⟨c,[],rfl,rfl,rfl⟩
 | cons p l ih=>
   intro c
   rw [mgT]
   split
   · obtain ⟨z,t,h1,h2,h3⟩:=ih ⟨⟨c.rg.lo,p.rg.hi,p.rg.op⟩,c.set⟩
     exact ⟨z,t,h1,h2,h3⟩
   · exact ⟨c,_,rfl,rfl,rfl⟩
/-- one behind the other -/
def Beh (p q:Pc):Prop:=p.rg.op = false ∧ p.rg.hi ≤ q.rg.lo
theorem mgT_ok:∀ (l:List Pc) (c:Pc),(c :: l).Pairwise Beh → (∀ p ∈ c :: l,pcW p) → pcsOk (mgT c l) ∧ ∀ s,getK (mgT c l) s = getK (c :: l) s:=by
 intro l
 induction l with
 | nil=>
   intro c _ h
   exact ⟨(pcsOk_cons c []).2 ⟨h c (by simp),fun q hq=>by simp at hq,pcsOk_nil⟩,fun _=>rfl⟩
 | cons p l ih=>
   intro c hs h
   have hc:=h c (by simp)
   have hp:=h p (by simp)
   obtain ⟨s1,s2⟩:=List.pairwise_cons.1 hs
   obtain ⟨t1,t2⟩:=s1 p (by simp)
   obtain ⟨s4,s5⟩:=List.pairwise_cons.1 s2
   have clt:c.rg.lo < c.rg.hi:=by
     rcases rgR_lo hc.1 with q|q
     · rw [t1] at q;cases q
     · exact q
   rw [mgT]
   by_cases g:tchB c p = true
   · rw [if_pos g]
     unfold tchB at g
     simp only [Bool.and_eq_true,Bool.not_eq_true',decide_eq_true_eq] at g
     obtain ⟨_,g2,g3⟩:=g
     have r1:=(rgR_iff _).1 hc.1
     have r2:=(rgR_iff _).1 hp.1
     have hm:rgR ⟨c.rg.lo,p.rg.hi,p.rg.op⟩ = true:=(rgR_iff _).2 ⟨r1.1,r2.2.1,by
       cases o:p.rg.op with
       | true=>
         rw [o] at r2
         simpa using r2.2.2
       | false=>
         rcases rgR_lo hp.1 with q|q
         · rw [o] at q;cases q
         · rw [if_neg (by simp),o_lt]
           simp only
           grind⟩
     have:=ih ⟨⟨c.rg.lo,p.rg.hi,p.rg.op⟩,c.set⟩ (List.pairwise_cons.2 ⟨fun z hz=>s4 z hz,s5⟩) (fun z hz=>by
       rcases List.mem_cons.1 hz with rfl|hz
       · exact ⟨hm,hc.2⟩
       · exact h z (by simp [hz]))
     refine ⟨this.1,fun s=>?_⟩
     rw [this.2 s,getK,getK,getK]
     have e:rgHas ⟨c.rg.lo,p.rg.hi,p.rg.op⟩ s = (rgHas c.rg s || rgHas p.rg s):=by
       rw [Bool.eq_iff_iff,Bool.or_eq_true,rgHas_iff hm,rgHas_iff hc.1,rgHas_iff hp.1]
       simp only
       rcases rgR_lo hp.1 with q|q
       · simp only [q,t1]
         constructor
         · rintro ⟨a,_⟩
           by_cases z:s < c.rg.hi
           · exact .inl ⟨a,.inr z⟩
           · exact .inr ⟨by grind,.inl trivial⟩
         · rintro (⟨a,_⟩|⟨a,_⟩)
           · exact ⟨a,.inl trivial⟩
           · exact ⟨by grind,.inl trivial⟩
       · constructor
         · rintro ⟨a,b⟩
           by_cases z:s < c.rg.hi
           · exact .inl ⟨a,.inr z⟩
           · exact .inr ⟨by grind,b⟩
         · rintro (⟨a,b⟩|⟨a,b⟩)
           · refine ⟨a,.inr ?_⟩
             rcases b with b|b
             · rw [t1] at b;cases b
             · grind
           · exact ⟨by grind,b⟩
     rw [e]
     cases rgHas c.rg s with
     | true=>simp
     | false=>
       cases rgHas p.rg s with
       | true=>simp [g3]
       | false=>simp
   · rw [if_neg g]
     have:=ih p s2 (fun z hz=>h z (List.mem_cons_of_mem _ hz))
     obtain ⟨z,t,e1,e2,e3⟩:=mgT_head l p
     refine ⟨(pcsOk_cons _ _).2 ⟨hc,fun q hq=>?_,this.1⟩,fun s=>?_⟩
     · rw [e1] at hq
       cases hq
       refine ⟨t1,by rw [e2];exact t2,fun ⟨q1,q2⟩=>g ?_⟩
       unfold tchB
       rw [e2] at q1
       rw [e3] at q2
       simp [t1,q1,q2]
     · rw [getK,this.2 s,getK.eq_def (c :: p :: l)]
theorem mergeKn_ok {l:List Pc} (hs:l.Pairwise Beh) (h:∀ p ∈ l,pcW p):pcsOk (mergeKn l) ∧ ∀ s,getK (mergeKn l) s = getK l s:=by
 cases l with
 | nil=>exact ⟨pcsOk_nil,fun _=>rfl⟩
 | cons x l=>exact mgT_ok l x hs h
/-- the stretches between edges, each with what is known there -/
def nextR (s:ByteArray):List ByteArray → Rg
 | []=>⟨s,emB,true⟩
 | t :: _=>⟨s,t,false⟩
def segT (f:ByteArray → List Kn):List ByteArray → List Pc
 | []=>[]
 | e :: E=>(if (f e).length = 0 then [] else [⟨nextR e E,f e⟩]) ++ segT f E
def bldK (f:ByteArray → List Kn) (E:List ByteArray):List Pc:=mergeKn (segT f E)
def edgOk (E:List ByteArray):Prop:=∀ m ∈ E,m.size ≤ 17
theorem nextR_ok {e:ByteArray} {E:List ByteArray} (h:upT (e :: E)) (ho:edgOk (e :: E)):rgR (nextR e E) = true:=by
 cases E with
 | nil=>exact (rgR_iff _).2 ⟨ho e (by simp),by show (0:Nat) ≤ 17;decide,by simp [nextR];rfl⟩
 | cons t E=>
   refine (rgR_iff _).2 ⟨ho e (by simp),ho t (by simp),?_⟩
   have:=(List.pairwise_cons.1 h).1 t (by simp)
   simp only [nextR]
   exact this
theorem segT_low (f:ByteArray → List Kn) (hf:∀ s,knsOk (f s)):∀ (E:List ByteArray),upT E → edgOk E → ∀ p ∈ segT f E,pcW p ∧ p.rg.lo ∈ E:=by
 intro E
 induction E with
 | nil=>intro _ _ p hp;simp [segT] at hp
 | cons e E ih=>
   intro h ho p hp
   rw [segT,List.mem_append] at hp
   rcases hp with hp|hp
   · split at hp
     · simp at hp
     · rename_i c
       have hp:p = ⟨nextR e E,f e⟩:=by simpa using hp
       subst hp
       refine ⟨⟨nextR_ok h ho,fun q=>c (by simp only at q;rw [q];rfl),hf e⟩,?_⟩
       have:(nextR e E).lo = e:=by cases E <;> rfl
       simp [this]
   · have:=ih (List.pairwise_cons.1 h).2 (fun m hm=>ho m (List.mem_cons_of_mem _ hm)) p hp
     exact ⟨this.1,List.mem_cons_of_mem _ this.2⟩
theorem segT_beh (f:ByteArray → List Kn) (hf:∀ s,knsOk (f s)):∀ (E:List ByteArray),upT E → edgOk E → (segT f E).Pairwise Beh:=by
 intro E
 induction E with
 | nil=>intro _ _;exact List.Pairwise.nil
 | cons e E ih=>
   intro h ho
   have h2:=(List.pairwise_cons.1 h).2
   have ho2:edgOk E:=fun m hm=>ho m (List.mem_cons_of_mem _ hm)
   have h3:=ih h2 ho2
   rw [segT]
   split
   · exact h3
   · refine List.pairwise_cons.2 ⟨fun z hz=>?_,h3⟩
     have h4:=(segT_low f hf E h2 ho2 z hz).2
     cases E with
     | nil=>simp at h4
     | cons t E=>
       refine ⟨rfl,?_⟩
       show t ≤ z.rg.lo
       rcases List.mem_cons.1 h4 with q|q
       · rw [q];grind
       · have:=(List.pairwise_cons.1 h2).1 _ q;grind
/-- what is said turns at edges alone -/
def CstT (f:ByteArray → List Kn) (E:List ByteArray):Prop:=∀ e n,e ≤ n → (∀ m ∈ E,m ≤ e ∨ n < m) → f e = f n
theorem getK_none {l:List Pc} {s:ByteArray} (h:∀ p ∈ l,pcW p ∧ s < p.rg.lo):getK l s = []:=by
 induction l with
 | nil=>rfl
 | cons p l ih=>
   obtain ⟨a,b⟩:=h p (by simp)
   rw [getK_out (fun c=>by have:=((rgHas_iff a.1 s).1 c).1;grind)]
   exact ih (fun q hq=>h q (List.mem_cons_of_mem _ hq))
theorem segT_get {f:ByteArray → List Kn} {M:List ByteArray} (hf:∀ s,knsOk (f s)) (hc:CstT f M):∀ (E:List ByteArray) (e:ByteArray),upT (e :: E) → edgOk (e :: E) → (∀ m ∈ M,m ≤ e ∨ m ∈ E) → ∀ s,e ≤ s → getK (segT f (e :: E)) s = f s:=by
 intro E
 induction E with
 | nil=>
   intro e h ho hM s hs
   have he : f e = f s := hc e s hs (fun m hm => by rcases hM m hm with q | q; · exact .inl q
                                                    · simp at q)
   rw [segT,segT,List.append_nil,← he]
   split
   · rename_i q
     rw [getK_nil,List.eq_nil_of_length_eq_zero q]
   · exact getK_in ((rgHas_iff (nextR_ok h ho) s).2 ⟨hs,.inl rfl⟩)
 | cons t E ih=>
   intro e h ho hM s hs
   obtain ⟨h1,h2⟩:=List.pairwise_cons.1 h
   have h3:=h1 t (by simp)
   have ho2:edgOk (t :: E):=fun m hm=>ho m (List.mem_cons_of_mem _ hm)
   obtain ⟨h4,_⟩:=List.pairwise_cons.1 h2
   by_cases c:s < t
   · have he:f e = f s:=hc e s hs (fun m hm=>by
       rcases hM m hm with q|q
       · exact .inl q
       · rcases List.mem_cons.1 q with rfl|q
         · exact .inr c
         · have:=h4 m q;exact .inr (by grind))
     have hno:getK (segT f (t :: E)) s = []:=getK_none (fun p hp=>by
       obtain ⟨a,b⟩:=segT_low f hf _ h2 ho2 p hp
       refine ⟨a,?_⟩
       rcases List.mem_cons.1 b with q|q
       · rw [q];exact c
       · have:=h4 _ q;grind)
     rw [segT,← he]
     split
     · rename_i q
       rw [List.nil_append,hno,List.eq_nil_of_length_eq_zero q]
     · exact getK_in ((rgHas_iff (nextR_ok h ho) s).2 ⟨hs,.inr c⟩)
   · have:=ih t h2 ho2 (fun m hm=>by
       rcases hM m hm with q|q
       · exact .inl (by grind)
       · rcases List.mem_cons.1 q with rfl|q
         · exact .inl (by grind)
         · exact .inr q) s (by grind)
     rw [segT]
     split
     · exact this
     · refine (getK_out (fun q=>?_)).trans this
       rcases ((rgHas_iff (nextR_ok h ho) s).1 q).2 with z|z
       · cases z
       · exact c z
/-- built by edges, it is right, and knows what was asked for -/
theorem bldK_ok {f:ByteArray → List Kn} (hf:∀ s,knsOk (f s)) {E:List ByteArray} (hup:upT E) (ho:edgOk E) (h0:emB ∈ E) (hc:CstT f E):pcsOk (bldK f E) ∧ ∀ s,getK (bldK f E) s = f s:=by
 have h1:=mergeKn_ok (segT_beh f hf E hup ho) (fun p hp=>(segT_low f hf E hup ho p hp).1)
 refine ⟨h1.1,fun s=>(h1.2 s).trans ?_⟩
 cases E with
 | nil=>simp at h0
 | cons e E=>
   have he:e = emB:=by
     rcases List.mem_cons.1 h0 with q|q
     · exact q.symm
     · have:=(List.pairwise_cons.1 hup).1 _ q
       have:=emB_le e
       grind
   exact segT_get hf hc E e hup ho (fun m hm=>by
     rcases List.mem_cons.1 hm with rfl|hm
     · exact .inl (by grind)
     · exact .inr hm) s (by rw [he];exact emB_le s)
theorem bldK_eq {f:ByteArray → List Kn} (hf:∀ s,knsOk (f s)) {E:List ByteArray} (hup:upT E) (ho:edgOk E) (h0:emB ∈ E) (hc:CstT f E) {k:List Pc} (hk:pcsOk k) (hg:∀ s,getK k s = f s):bldK f E = k:=
 have h:=bldK_ok hf hup ho h0 hc
 pcsOk_uniq h.1 hk (fun s=>(h.2 s).trans (hg s).symm)
theorem segT_len (f:ByteArray → List Kn):∀ E:List ByteArray,(segT f E).length ≤ E.length:=by
 intro E
 induction E with
 | nil=>simp [segT]
 | cons e E ih=>
   rw [segT,List.length_append,List.length_cons]
   have:(if (f e).length = 0 then [] else [(⟨nextR e E,f e⟩:Pc)]).length ≤ 1:=by split <;> simp
   omega
theorem mgT_len:∀ (l:List Pc) (c:Pc),(mgT c l).length ≤ l.length + 1:=by
 intro l
 induction l with
 | nil=>intro c;simp [mgT]
 | cons r l ih=>
   intro c
   rw [mgT]
   split
   · have:=ih ⟨⟨c.rg.lo,r.rg.hi,r.rg.op⟩,c.set⟩;simp;omega
   · have:=ih r;simp;omega
theorem bldK_len (f:ByteArray → List Kn) (E:List ByteArray):(bldK f E).length ≤ E.length:=by
 have h1:=segT_len f E
 unfold bldK
 cases h:segT f E with
 | nil=>exact Nat.zero_le _
 | cons c l=>
   rw [h] at h1
   exact Nat.le_trans (mgT_len l c) h1
theorem knsOk_init {l:List Kn} {k:Kn} (h:knsOk (l ++ [k])):knsOk l:=fun i hi hi'=>by
 have h1:=h i (by simp;omega) (by simp;omega)
 have e1:(l ++ [k])[i]'(by simp;omega) = l[i]:=List.getElem_append_left hi
 rw [e1] at h1
 refine ⟨h1.1,h1.2.1,h1.2.2.1,h1.2.2.2.1,fun q=>?_⟩
 have:=h1.2.2.2.2 q
 rw [List.getElem_append_left (by omega)] at this
 exact this
theorem knsOk_last {l:List Kn} {k:Kn} (h:knsOk (l ++ [k])):∀ (d i:Nat) (hi:i < l.length) (_:i + d + 1 = l.length),l[i].rep < k.rep:=by
 intro d
 induction d with
 | zero=>
   intro i hi hd
   have:=(h (i + 1) (by simp;omega) (by simp;omega)).2.2.2.2 (by omega)
   simp only [Nat.add_sub_cancel] at this
   rw [List.getElem_append_left hi,List.getElem_append_right (by omega)] at this
   simpa using this
 | succ d ihd=>
   intro i hi hd
   have:=(h (i + 1) (by simp;omega) (by simp;omega)).2.2.2.2 (by omega)
   simp only [Nat.add_sub_cancel] at this
   rw [List.getElem_append_left hi,List.getElem_append_left (by omega)] at this
   have:=ihd (i + 1) (by omega) (by omega)
   omega
theorem tabAt_none {l:List Kn} {r:Nat} (h:∀ x ∈ l,x.rep ≠ (r:Int) + 1):tabAt l r = []:=by
 unfold tabAt
 rw [List.flatMap_eq_nil_iff]
 intro x hx
 rw [if_neg (h x hx)]
theorem setFrom_nils:∀ (T:List (List Rn)) (i:Nat),(∀ l ∈ T,l = []) → setFrom id i T = []:=by
 intro T
 induction T with
 | nil=>intro i _;rfl
 | cons l T ih=>
   intro i h
   have:=h l List.mem_cons_self
   subst this
   rw [setFrom,ih _ (fun l hl=>h l (List.mem_cons_of_mem _ hl))]
   rfl
theorem vsOf_right (s:List Kn) (h:knsOk s):vsOf id s = s:=by
 induction s using snoc_ind with
 | h0=>exact setFrom_nils _ _ (fun l hl=>by
     obtain ⟨r,_,rfl⟩:=List.mem_map.1 hl
     rfl)
 | h1 l k ih=>
   have hl:=knsOk_init h
   have ih:=ih hl
   obtain ⟨a1,a2,a3,a4⟩:=knsOk_get h (i:=l.length) (by simp)
   rw [show (l ++ [k])[l.length]'(by simp) = k by simp] at a1 a2 a3 a4
   obtain ⟨r,hr⟩:∃ r:Nat,k.rep = (r:Int) + 1:=⟨(k.rep - 1).toNat,by omega⟩
   have hlt:∀ x ∈ l,x.rep < k.rep:=fun x hx=>by
     obtain ⟨i,hi,rfl⟩:=List.getElem_of_mem hx
     exact knsOk_last h (l.length - 1 - i) i hi (by omega)
   have hn:∀ j,r ≤ j → tabAt l j = []:=fun j hj=>tabAt_none (fun x hx=>by have:=hlt x hx;omega)
   have hr16:r < 16:=by omega
   unfold vsOf at ih ⊢
   rw [tabOf_in l k hr16 hr,hn r (Nat.le_refl _),List.nil_append]
   have hsp:tabOf l = (tabOf l).take r ++ ([] :: (tabOf l).drop (r + 1)):=by
     have hg:=tabOf_get l hr16
     rw [hn r (Nat.le_refl _)] at hg
     obtain ⟨hlen,hg⟩:=List.getElem?_eq_some_iff.1 hg
     conv=>lhs;rw [← List.take_append_drop r (tabOf l),List.drop_eq_getElem_cons hlen,hg]
   have hlen:((tabOf l).take r).length = r:=by rw [List.length_take,tabOf_len];omega
   have hnil:∀ x ∈ (tabOf l).drop (r + 1),x = []:=fun x hx=>by
     obtain ⟨i,hi,rfl⟩:=List.getElem_of_mem hx
     rw [List.getElem_drop]
     have hi':r + 1 + i < 16:=by rw [List.length_drop,tabOf_len] at hi;omega
     have:=tabOf_get l hi'
     obtain ⟨_,hg⟩:=List.getElem?_eq_some_iff.1 this
     rw [hg];exact hn _ (by omega)
   rw [hsp,setFrom_app,hlen] at ih
   rw [setFrom,setFrom_nils _ _ hnil] at ih
   rw [List.set_eq_take_append_cons_drop,if_pos (by rw [tabOf_len];exact hr16),setFrom_app,hlen,setFrom,setFrom_nils _ _ hnil,Nat.zero_add]
   rw [show (if (id ([]:List Rn)).length = 0 then ([]:List Kn) else [⟨((0 + r:Nat):Int) + 1,id []⟩]) = [] from rfl,List.append_nil,List.append_nil] at ih
   rw [ih,if_neg (by simpa using a3),List.append_nil]
   congr 1
   rw [show id k.runs = k.runs from rfl,← hr]
section
theorem vs_Of_ok (s:List Kn) (hs:knsTot s) (h:knsOk s):Fn Tryz.prog 148 [knsB s] (.own 130 2 (s.map knP)):=by
 have h1:=vs_Of id s hs (fun l hl=>by
   have hok:=tab_rnsOk h l hl
   obtain ⟨r,_,rfl⟩:=List.mem_map.1 hl
   exact cnt_Of_ok _ (by have:=tabAt_len s r;have:=hs.2;omega) hok)
 rw [vsOf_right s h] at h1
 exact h1
theorem vs_Same_ok (a b:List Kn) (ha:knsTot a) (hb:knsTot b) (h:knsOk a) (h':knsOk b):Fn Tryz.prog 124 [knsB a,knsB b] (boR (decide (a = b))):=
 vs_Same a b a b (vs_Of_ok a ha h) (vs_Of_ok b hb h') ha.sz
end
end Go.Proofs.YtembiemaiacdfaaGreat
