/- Texts joined: RgO KnE KnF VsP. -/
import Derived.Test.YtembiemaiacdfaaGreatJ12
import Derived.Test.YtembiemaiacdfaaGreatJ09
import Derived.Test.YtembiemaiacdfaaGreatJ14
import Derived.Test.YtembiemaiacdfaaGreatJ05
import Derived.Test.YtembiemaiacdfaaGreatJ13
set_option maxRecDepth 10000
set_option maxHeartbeats 8000000
namespace Go.Proofs.YtembiemaiacdfaaGreat
def bL (r:Rg) (s:ByteArray):Bool:=eJ r && (decide (r.lo ≤ s) && (r.op || decide (s < r.hi)))
def Ca (a b:Rg):Int:=if a.op && b.op then 0 else if a.op then 1 else if b.op then -1 else bG a.hi b.hi
def xO (out:List Rg) (r:Rg):List Rg:=match out.reverse with
 | []=>[r]
 | x :: z=>if x.op = false ∧ bG x.hi r.lo < 0 then out ++ [r] else if Ca x r < 0 then z.reverse ++ [⟨x.lo,r.hi,r.op⟩] else out
def ltR (x y:Rg):Bool:=decide (bG x.lo y.lo < 0)
theorem f0 {r:Rg} (h:eJ r = true):r.op = true ∨ r.lo < r.hi:=by
 obtain ⟨_,_,h⟩:=(bH r).1 h
 cases ho:r.op with
 | true=>exact .inl rfl
 | false=>rw [ho] at h;exact .inr ((eM _ _).1 (by simpa using h))
inductive Az:List Rg → Prop
 | nil:Az []
 | one {x}:eJ x = true → Az [x]
 | cons {x y z}:eJ x = true → y.op = false → y.hi < x.lo → Az (y :: z) → Az (x :: y :: z)
theorem Az.head {x:Rg} {z:List Rg} (h:Az (x :: z)):eJ x = true:=by
 cases h with
 | one h=>exact h
 | cons h _ _ _=>exact h
theorem Az.ok:∀ {l:List Rg},Az l → cV l.reverse:=by
 intro l h
 induction h with
 | nil=>intro i hi;simp at hi
 | one h=>
   intro i hi
   have:i = 0:=by simp at hi;omega
   subst this
   exact ⟨h,fun h=>absurd h (by omega)⟩
 | @cons x y z hx ho hl hc ih=>
   have e:(x :: y :: z).reverse = (y :: z).reverse ++ [x]:=by simp
   rw [e]
   intro i hi
   rw [List.length_append] at hi
   rcases Nat.lt_or_ge i (y :: z).reverse.length with q|q
   · have:=ih i q
     refine ⟨?_,fun h0=>?_⟩
     · rw [List.getElem_append_left q];exact this.1
     · rw [List.getElem_append_left q,List.getElem_append_left (by omega)];exact this.2 h0
   · have hi':i = (y :: z).reverse.length:=by simp at hi ⊢;simp at q;omega
     subst hi'
     refine ⟨?_,fun h0=>?_⟩
     · rw [List.getElem_append_right (Nat.le_refl _)];simpa using hx
     · rw [List.getElem_append_right (Nat.le_refl _),List.getElem_append_left (by omega)]
       simp only [List.length_reverse,List.length_cons,List.getElem_reverse,Nat.sub_self,List.getElem_cons_zero]
       exact ⟨by simpa using ho,(eM _ _).2 (by simpa using hl)⟩
theorem Az.ahead:∀ {x:Rg} {z:List Rg},Az (x :: z) → ∀ y ∈ z,y.op = false ∧ y.hi < x.lo:=by
 intro x z h
 induction z generalizing x with
 | nil=>intro y hy;cases hy
 | cons w z ih=>
   cases h with
   | cons hx ho hl hc=>
     intro y hy
     rcases List.mem_cons.1 hy with e|e
     · subst e;exact ⟨ho,hl⟩
     · obtain ⟨h1,h2⟩:=ih hc y e
       rcases f0 hc.head with q|q
       · rw [ho] at q;cases q
       · exact ⟨h1,by grind⟩
def bg (l:List Rg) (s:ByteArray):Bool:=l.any fun r=>bL r s
theorem gD {r:Rg} (h:eJ r = true) (s:ByteArray):bL r s = (decide (r.lo ≤ s) && (r.op || decide (s < r.hi))):=by
 unfold bL;rw [h];rfl
theorem Fo (Z:List Rg) (r:Rg) (h:Az Z) (hr:eJ r = true) (hs:∀ x ∈ Z,x.lo ≤ r.lo) :
   Az (xO Z.reverse r).reverse ∧ (∀ x ∈ (xO Z.reverse r).reverse,x.lo ≤ r.lo) ∧ ∀ s,bg (xO Z.reverse r).reverse s = (bg Z s || bL r s):=by
 unfold xO
 rw [List.reverse_reverse]
 cases Z with
 | nil=>
   refine ⟨.one hr,fun x hx=>?_,fun s=>?_⟩
   · simp at hx;subst hx;grind
   · simp [bg]
 | cons x z=>
   have hx:=h.head
   have hxl:=hs x List.mem_cons_self
   simp only
   split
   · rename_i hc
     simp only [List.reverse_append,List.reverse_reverse,List.reverse_cons,List.reverse_nil,List.nil_append,List.singleton_append]
     refine ⟨.cons hr hc.1 hc.2 h,fun y hy=>?_,fun s=>?_⟩
     · rcases List.mem_cons.1 hy with e|e
       · subst e;grind
       · exact hs y e
     · simp only [bg,List.any_cons];rw [Bool.or_comm]
   · rename_i hc
     have hE:Ca x r = (if x.op && r.op then 0 else if x.op then 1 else if r.op then -1 else bG x.hi r.hi):=rfl
     have hc':x.op = true ∨ r.lo ≤ x.hi:=by
       cases ho:x.op with
       | true=>exact .inl rfl
       | false=>
         refine .inr ?_
         rw [ho] at hc
         have:¬ x.hi < r.lo:=fun q=>hc ⟨rfl,q⟩
         grind
     have hxr:=f0 hx
     have hrr:=f0 hr
     split
     · rename_i hd
       have hxo:x.op = false:=by
         cases ho:x.op with
         | false=>rfl
         | true=>rw [hE,ho] at hd;simp at hd;split at hd <;> omega
       have hro:r.op = true ∨ x.hi < r.hi:=by
         cases ho:r.op with
         | true=>exact .inl rfl
         | false=>rw [hE,hxo,ho] at hd;exact .inr ((eM _ _).1 (by simpa using hd))
       have hN:eJ ⟨x.lo,r.hi,r.op⟩ = true:=by
         rw [bH]
         obtain ⟨a1,a2,a3⟩:=(bH x).1 hx
         obtain ⟨b1,b2,b3⟩:=(bH r).1 hr
         refine ⟨a1,b2,?_⟩
         simp only
         cases ho:r.op with
         | true=>rw [ho] at b3;simpa using b3
         | false=>
           rw [ho] at b3
           simp only [Bool.false_eq_true,if_false] at b3 ⊢
           rw [eM] at b3 ⊢
           grind
       simp only [List.reverse_append,List.reverse_reverse,List.reverse_cons,List.reverse_nil,List.nil_append,List.singleton_append]
       refine ⟨?_,fun y hy=>?_,fun s=>?_⟩
       · cases h with
         | one _=>exact .one hN
         | cons _ ho hl hc=>exact .cons hN ho hl hc
       · rcases List.mem_cons.1 hy with e|e
         · subst e;exact hxl
         · exact hs y (List.mem_cons_of_mem _ e)
       · simp only [bg,List.any_cons]
         rw [gD hN,gD hx,gD hr]
         simp only
         rw [Bool.eq_iff_iff]
         simp only [Bool.or_eq_true,Bool.and_eq_true,decide_eq_true_eq,hxo,Bool.false_eq_true,false_or]
         grind
     · rename_i hd
       have hxo:x.op = true ∨ (r.op = false ∧ r.hi ≤ x.hi):=by
         cases ho:x.op with
         | true=>exact .inl rfl
         | false=>
           rw [hE,ho] at hd
           cases hp:r.op with
           | true=>rw [hp] at hd;simp at hd
           | false=>rw [hp] at hd;refine .inr ⟨rfl,?_⟩;simp only [Bool.false_and,Bool.false_eq_true,if_false] at hd;rw [eM] at hd;grind
       rw [List.reverse_reverse]
       refine ⟨h,hs,fun s=>?_⟩
       simp only [bg,List.any_cons]
       rw [gD hx,gD hr,Bool.eq_iff_iff]
       simp only [Bool.or_eq_true,Bool.and_eq_true,decide_eq_true_eq]
       grind
theorem I0:∀ (L Z:List Rg),Az Z → (∀ r ∈ L,eJ r = true) → L.Pairwise (fun x y=>x.lo ≤ y.lo) → (∀ x ∈ Z,∀ r ∈ L,x.lo ≤ r.lo) →
   Az (L.foldl xO Z.reverse).reverse ∧ ∀ s,bg (L.foldl xO Z.reverse).reverse s = (bg Z s || bg L s):=by
 intro L
 induction L with
 | nil=>intro Z h _ _ _;simp [h,bg]
 | cons r L ih=>
   intro Z h hR hS hZ
   obtain ⟨p1,p2⟩:=List.pairwise_cons.1 hS
   obtain ⟨h1,h2,h3⟩:=Fo Z r h (hR r List.mem_cons_self) (fun x hx=>hZ x hx r List.mem_cons_self)
   have h4:=ih (xO Z.reverse r).reverse h1 (fun x hx=>hR x (List.mem_cons_of_mem _ hx)) p2 (fun x hx y hy=>by have:=h2 x hx;have:=p1 y hy;grind)
   rw [List.reverse_reverse] at h4
   refine ⟨h4.1,fun s=>?_⟩
   rw [List.foldl_cons,h4.2 s,h3 s]
   simp only [bg,List.any_cons,Bool.or_assoc]
theorem Fp (l:List Rg) (s:ByteArray):bg l.reverse s = bg l s:=by unfold bg;rw [List.any_reverse]
def fP (l:List Rg):List Rg:=l.foldl xO []
theorem wq {L:List Rg} (hR:∀ r ∈ L,eJ r = true) (hS:L.Pairwise (fun x y=>x.lo ≤ y.lo)):cV (fP L) ∧ ∀ s,bg (fP L) s = bg L s:=by
 have h:=I0 L [] .nil hR hS (fun x hx=>by cases hx)
 refine ⟨?_,fun s=>?_⟩
 · have:=h.1.ok;rw [List.reverse_reverse] at this;exact this
 · have:=h.2 s;rw [Fp] at this;rw [fP];exact this.trans (by simp [bg])
theorem I1 (out:List Rg) (r:Rg):(xO out r).length ≤ out.length + 1:=by
 unfold xO
 split
 · simp
 · rename_i x z h
   have e:out.length = z.length + 1:=by rw [← List.length_reverse,h];rfl
   split
   · simp
   · split
     · simp;omega
     · omega
theorem Fq:∀ (L out:List Rg),(L.foldl xO out).length ≤ out.length + L.length:=by
 intro L
 induction L with
 | nil=>intro out;simp
 | cons r L ih=>intro out;rw [List.foldl_cons,List.length_cons];have:=ih (xO out r);have:=I1 out r;omega
theorem AA {l:List Rg} (h:cV l) (s:ByteArray):∃ p,p ≤ l.length ∧ ∀ j (hj:j < l.length),((l[j].op = true ∨ s < l[j].hi) ↔ p ≤ j):=by
 have up:∀ j (hj:j + 1 < l.length),(l[j].op = true ∨ s < l[j].hi) → (l[j + 1].op = true ∨ s < l[j + 1].hi):=by
   intro j hj hs
   have h1:=(h (j + 1) hj).2 (by omega)
   have h2:=f0 (h (j + 1) hj).1
   simp only [Nat.add_sub_cancel] at h1
   rw [eM] at h1
   grind
 have hB:∀ n,n ≤ l.length → ∃ p,p ≤ n ∧ ∀ j (hj:j < l.length),j < n → ((l[j].op = true ∨ s < l[j].hi) ↔ p ≤ j):=by
   intro n
   induction n with
   | zero=>intro _;exact ⟨0,Nat.le_refl _,fun j _ h=>absurd h (Nat.not_lt_zero _)⟩
   | succ n ih=>
     intro hn
     obtain ⟨p,hp,hq⟩:=ih (by omega)
     by_cases hb:l[n].op = true ∨ s < l[n].hi
     · refine ⟨p,by omega,fun j hj hjn=>?_⟩
       rcases Nat.lt_or_ge j n with q|q
       · exact hq j hj q
       · obtain rfl:j = n:=by omega
         exact ⟨fun _=>by omega,fun _=>hb⟩
     · refine ⟨n + 1,by omega,fun j hj hjn=>?_⟩
       rcases Nat.lt_or_ge j n with q|q
       · refine ⟨fun hx=>?_,fun hx=>by omega⟩
         exfalso
         have:∀ d,j + d ≤ n → ∃ hd:j + d < l.length,(l[j + d].op = true ∨ s < l[j + d].hi):=by
           intro d
           induction d with
           | zero=>intro _;exact ⟨hj,hx⟩
           | succ d ihd=>
             intro hd
             obtain ⟨h1,h2⟩:=ihd (by omega)
             exact ⟨by omega,up (j + d) (by omega) h2⟩
         obtain ⟨h1,h2⟩:=this (n - j) (by omega)
         have e:j + (n - j) = n:=by omega
         simp only [e] at h2
         exact hb h2
       · obtain rfl:j = n:=by omega
         exact ⟨fun hx=>absurd hx hb,fun hx=>by omega⟩
 obtain ⟨p,h1,h2⟩:=hB l.length (Nat.le_refl _)
 exact ⟨p,h1,fun j hj=>h2 j hj hj⟩
theorem Fr {l:List Rg} (h:cV l) {s:ByteArray} {p:Nat} (hp:∀ j (hj:j < l.length),((l[j].op = true ∨ s < l[j].hi) ↔ p ≤ j)) :
   bg l s = (match l[p]? with|some r=>bL r s|none=>false):=by
 have ch:∀ d j (hj:j + d + 1 < l.length),l[j].op = false ∧ l[j].hi < l[j + d + 1].lo:=by
   intro d
   induction d with
   | zero=>intro j hj;have:=(h (j + 1) hj).2 (by omega);simp only [Nat.add_sub_cancel] at this;exact this
   | succ d ih=>
     intro j hj
     obtain ⟨a,b⟩:=ih j (by omega)
     have c:=(h (j + d + 1 + 1) (by omega)).2 (by omega)
     have e:=f0 (h (j + d + 1) (by omega)).1
     simp only [Nat.add_sub_cancel] at c
     rw [eM] at c
     refine ⟨a,?_⟩
     show l[j].hi < l[j + d + 1 + 1].lo
     grind
 rw [Bool.eq_iff_iff]
 unfold bg
 rw [List.any_eq_true]
 constructor
 · rintro ⟨r,hr,hs⟩
   obtain ⟨j,hj,rfl⟩:=List.getElem_of_mem hr
   have hjr:=(h j hj).1
   rw [gD hjr] at hs
   simp only [Bool.and_eq_true,Bool.or_eq_true,decide_eq_true_eq] at hs
   have hpj:=(hp j hj).1 hs.2
   rcases Nat.lt_or_ge p j with q|q
   · exfalso
     have hpl:p < l.length:=by omega
     have:=(hp p hpl).2 (Nat.le_refl _)
     obtain ⟨d,rfl⟩:∃ d,j = p + d + 1:=⟨j - p - 1,by omega⟩
     obtain ⟨a,b⟩:=ch d p hj
     grind
   · obtain rfl:p = j:=by omega
     rw [List.getElem?_eq_getElem hj]
     simp only
     rw [gD hjr]
     simp only [Bool.and_eq_true,Bool.or_eq_true,decide_eq_true_eq]
     exact hs
 · intro hs
   rcases Nat.lt_or_ge p l.length with q|q
   · rw [List.getElem?_eq_getElem q] at hs
     exact ⟨l[p],List.getElem_mem q,hs⟩
   · rw [List.getElem?_eq_none q] at hs;cases hs
theorem oh:pk ltR:=by
 refine ⟨fun x=>?_,fun x y z h1 h2=>?_,fun x y z h1 h2=>?_⟩ <;> simp only [ltR,decide_eq_true_eq,decide_eq_false_iff_not,eM] at * <;> grind
def oi (l:List Rg):List Rg:=fP (dc ltR (l.filter eJ))
theorem oj (l:List Rg):cV (oi l) ∧ ∀ s,bg (oi l) s = bg l s:=by
 have hS:=(cA oh (l.filter eJ)).1
 obtain ⟨h1,h2⟩:=wq (L:=dc ltR (l.filter eJ)) (fun r hr=>(List.mem_filter.1 ((kW oh).1 hr)).2)
   (hS.imp fun {x y} h=>by simp only [ltR,decide_eq_false_iff_not,eM] at h;grind)
 refine ⟨h1,fun s=>(h2 s).trans ?_⟩
 unfold bg
 rw [Bool.eq_iff_iff,List.any_eq_true,List.any_eq_true]
 constructor
 · rintro ⟨r,hr,hs⟩
   exact ⟨r,(List.mem_filter.1 ((kW oh).1 hr)).1,hs⟩
 · rintro ⟨r,hr,hs⟩
   refine ⟨r,(kW oh).2 (List.mem_filter.2 ⟨hr,?_⟩),hs⟩
   unfold bL at hs
   exact (Bool.and_eq_true _ _ ▸ hs).1
theorem qr (l:List Rg):(oi l).length ≤ l.length:=by
 have h1:=Fq (dc ltR (l.filter eJ)) []
 have h2:=List.length_filter_le eJ l
 rw [iA] at h1
 simp only [List.length_nil] at h1
 unfold oi fP
 omega
end Go.Proofs.YtembiemaiacdfaaGreat
namespace Go.Proofs.YtembiemaiacdfaaGreat
def eT:List ByteArray → ByteArray → List ByteArray
 | [],n=>[n]
 | x :: l,n=>if x < n then x :: eT l n else if x = n then x :: l else n :: x :: l
theorem kX:∀ (l:List ByteArray) (n m:ByteArray),m ∈ eT l n ↔ m = n ∨ m ∈ l:=by
 intro l
 induction l with
 | nil=>intro n m;simp [eT]
 | cons x l ih=>
   intro n m
   rw [eT]
   split
   · simp only [List.mem_cons,ih]
     constructor
     · rintro (h|h|h) <;> simp [h]
     · rintro (h|h|h) <;> simp [h]
   · split
     · rename_i e
       subst e
       simp
     · simp
abbrev uL (l:List ByteArray):Prop:=l.Pairwise (· < ·)
theorem tW:∀ (l:List ByteArray) (n:ByteArray),uL l → uL (eT l n):=by
 intro l
 induction l with
 | nil=>intro n _;simp [eT]
 | cons x l ih=>
   intro n h
   obtain ⟨h1,h2⟩:=List.pairwise_cons.1 h
   rw [eT]
   split
   · rename_i c
     refine List.pairwise_cons.2 ⟨fun z hz=>?_,ih n h2⟩
     rcases (kX _ _ _).1 hz with rfl|hz
     · exact c
     · exact h1 z hz
   · split
     · exact h
     · refine List.pairwise_cons.2 ⟨fun z hz=>?_,h⟩
       rcases List.mem_cons.1 hz with rfl|hz
       · grind
       · have:=h1 z hz;grind
theorem Fs:∀ {l m:List ByteArray},uL l → uL m → (∀ s,s ∈ l ↔ s ∈ m) → l = m:=by
 intro l
 induction l with
 | nil=>
   intro m _ _ h
   cases m with
   | nil=>rfl
   | cons y m=>have:=(h y).2 (by simp);simp at this
 | cons x l ih=>
   intro m hl hm h
   cases m with
   | nil=>have:=(h x).1 (by simp);simp at this
   | cons y m=>
     obtain ⟨a1,a2⟩:=List.pairwise_cons.1 hl
     obtain ⟨b1,b2⟩:=List.pairwise_cons.1 hm
     have e:x = y:=by
       rcases List.mem_cons.1 ((h x).1 (by simp)) with q|q
       · exact q
       · rcases List.mem_cons.1 ((h y).2 (by simp)) with z|z
         · exact z.symm
         · have:=b1 x q;have:=a1 y z;grind
     subst e
     rw [ih a2 b2 (fun s=>?_)]
     constructor
     · intro q
       have:=a1 s q
       rcases List.mem_cons.1 ((h s).1 (by simp [q])) with z|z
       · subst z;grind
       · exact z
     · intro q
       have:=b1 s q
       rcases List.mem_cons.1 ((h s).2 (by simp [q])) with z|z
       · subst z;grind
       · exact z
def iB (e:List ByteArray) (r:Rg):List ByteArray:=if eJ r then (if r.op then eT e r.lo else eT (eT e r.lo) r.hi) else e
def gF (e:List ByteArray) (l:List Rg):List ByteArray:=l.foldl iB e
theorem Ft {e:List ByteArray} {r:Rg} (h:uL e):uL (iB e r):=by
 unfold iB;split
 · split
   · exact tW _ _ h
   · exact tW _ _ (tW _ _ h)
 · exact h
theorem AB:∀ (l:List Rg) (e:List ByteArray),uL e → uL (gF e l):=by
 intro l
 induction l with
 | nil=>intro e h;exact h
 | cons r l ih=>intro e h;exact ih _ (Ft h)
def jp (r:Rg) (m:ByteArray):Prop:=eJ r = true ∧ (m = r.lo ∨ r.op = false ∧ m = r.hi)
theorem gG:∀ (l:List Rg) (e:List ByteArray) (m:ByteArray),m ∈ gF e l ↔ m ∈ e ∨ ∃ r ∈ l,jp r m:=by
 intro l
 induction l with
 | nil=>intro e m;simp [gF]
 | cons r l ih=>
   intro e m
   show m ∈ gF (iB e r) l ↔ _
   rw [ih]
   have h1:m ∈ iB e r ↔ m ∈ e ∨ jp r m:=by
     unfold iB jp
     by_cases c:eJ r = true
     · rw [if_pos c]
       by_cases o:r.op = true
       · rw [if_pos o,kX]
         simp [c,o,or_comm]
       · rw [if_neg o,kX,kX]
         have o':r.op = false:=by simpa using o
         simp only [c,o',true_and]
         constructor
         · rintro (h|h|h) <;> simp [h]
         · rintro (h|h|h) <;> simp [h]
     · rw [if_neg c]
       simp [c]
   rw [h1]
   simp only [List.mem_cons,exists_eq_or_imp,or_assoc]
theorem jC:∀ (l:List Rg) (e:List ByteArray),(gF e l).length ≤ e.length + 2 * l.length:=by
 have h1:∀ (l:List ByteArray) (n:ByteArray),(eT l n).length ≤ l.length + 1:=by
   intro l
   induction l with
   | nil=>intro n;simp [eT]
   | cons x l ih=>
     intro n
     rw [eT]
     split
     · have:=ih n;simp;omega
     · split <;> simp
 intro l
 induction l with
 | nil=>intro e;simp [gF]
 | cons r l ih=>
   intro e
   show (gF (iB e r) l).length ≤ _
   have h2:=ih (iB e r)
   have h3:(iB e r).length ≤ e.length + 2:=by
     unfold iB
     have a:=h1 (eT e r.lo) r.hi
     have b:=h1 e r.lo
     split
     · split <;> omega
     · omega
   rw [List.length_cons];omega
abbrev emB:ByteArray:=⟨#[]⟩
theorem Fv (s:ByteArray):emB ≤ s:=by
 show bG emB s ≤ 0
 unfold bG
 cases s.data.toList with
 | nil=>decide
 | cons x l=>simp [cp]
def cH (k:List Pc) (s:ByteArray):List Kn:=match k with
 | []=>[]
 | p :: l=>if bL p.rg s then p.set else cH l s
theorem jD (s:ByteArray):cH [] s = []:=rfl
theorem g9 {p:Pc} {l:List Pc} {s:ByteArray} (h:bL p.rg s = true):cH (p :: l) s = p.set:=by rw [cH,if_pos h]
theorem dN {p:Pc} {l:List Pc} {s:ByteArray} (h:¬ bL p.rg s = true):cH (p :: l) s = cH l s:=by rw [cH,if_neg h]
theorem b9 {r:Rg} (h:eJ r = true) (s:ByteArray):bL r s = true ↔ r.lo ≤ s ∧ (r.op = true ∨ s < r.hi):=by
 rw [gD h];simp
theorem Fw {r:Rg} (h:eJ r = true):bL r r.lo = true:=by
 rw [b9 h]
 refine ⟨by grind,?_⟩
 rcases f0 h with q|q
 · exact .inl q
 · exact .inr q
def LL (p:Pc):Prop:=eJ p.rg = true ∧ p.set ≠ [] ∧ bK p.set
theorem fv:aO []:=fun i hi=>by simp at hi
theorem cn (p:Pc) (l:List Pc):aO (p :: l) ↔ LL p ∧ (∀ q,l.head? = some q → p.rg.op = false ∧ p.rg.hi ≤ q.rg.lo ∧ ¬ (p.rg.hi = q.rg.lo ∧ p.set = q.set)) ∧ aO l:=by
 constructor
 · intro h
   have h0:=h 0 (by simp) (by simp)
   refine ⟨⟨h0.1,h0.2.1,h0.2.2.1⟩,fun q hq=>?_,fun i hi hi'=>?_⟩
   · cases l with
     | nil=>cases hq
     | cons z l=>
       cases hq
       exact (h 1 (by simp) (by simp)).2.2.2 (by omega)
   · have h1:=h (i + 1) (by simpa using hi) (by simpa using hi)
     simp only [List.getElem_cons_succ,Nat.add_sub_cancel] at h1
     refine ⟨h1.1,h1.2.1,h1.2.2.1,fun h0=>?_⟩
     have h2:=h1.2.2.2 (by omega)
     obtain ⟨j,rfl⟩:∃ j,i = j + 1:=⟨i - 1,by omega⟩
     exact h2
 · rintro ⟨⟨h1,h2,h2'⟩,h3,h4⟩ i hi hi'
   cases i with
   | zero=>exact ⟨h1,h2,h2',fun q=>absurd q (Nat.lt_irrefl _)⟩
   | succ i=>
     have h5:=h4 i (by simpa using hi) (by simpa using hi)
     simp only [List.getElem_cons_succ,Nat.add_sub_cancel]
     refine ⟨h5.1,h5.2.1,h5.2.2.1,fun _=>?_⟩
     cases i with
     | zero=>
       cases l with
       | nil=>simp at hi
       | cons z l=>exact h3 z rfl
     | succ i=>
       exact h5.2.2.2 (by omega)
theorem jE {p:Pc} {l:List Pc} (h:aO (p :: l)) {s:ByteArray} (hs:cH l s ≠ []):p.rg.op = false ∧ p.rg.hi ≤ s:=by
 induction l generalizing p with
 | nil=>exact absurd rfl hs
 | cons q l ih=>
   obtain ⟨_,h2,h3⟩:=(cn _ _).1 h
   obtain ⟨a,b,_⟩:=h2 q rfl
   obtain ⟨⟨hq,_,_⟩,_,_⟩:=(cn _ _).1 h3
   refine ⟨a,?_⟩
   by_cases c:bL q.rg s = true
   · have:=((b9 hq s).1 c).1
     grind
   · rw [dN c] at hs
     obtain ⟨_,d⟩:=ih h3 hs
     rcases f0 hq with z|z
     · have:=(ih h3 hs).1;rw [z] at this;cases this
     · grind
theorem tX {p:Pc} {l:List Pc} (h:aO (p :: l)) {s:ByteArray} (hs:cH (p :: l) s ≠ []):p.rg.lo ≤ s:=by
 obtain ⟨⟨hp,_,_⟩,_,_⟩:=(cn _ _).1 h
 by_cases c:bL p.rg s = true
 · exact ((b9 hp s).1 c).1
 · rw [dN c] at hs
   obtain ⟨a,b⟩:=jE h hs
   rcases f0 hp with z|z
   · rw [z] at a;cases a
   · grind
theorem f5 {p:Pc} {l:List Pc} (h:aO (p :: l)):cH (p :: l) p.rg.lo = p.set ∧ p.set ≠ []:=by
 obtain ⟨⟨hp,h2,_⟩,_,_⟩:=(cn _ _).1 h
 exact ⟨g9 (Fw hp),h2⟩
theorem Fx {p:Pc} {l:List Pc} (h:aO (p :: l)) (ho:p.rg.op = false):cH (p :: l) p.rg.hi ≠ p.set:=by
 obtain ⟨⟨hp,h2,_⟩,h3,h4⟩:=(cn _ _).1 h
 have c:¬ bL p.rg p.rg.hi = true:=fun q=>by
   rcases ((b9 hp _).1 q).2 with z|z
   · rw [ho] at z;cases z
   · grind
 rw [dN c]
 cases l with
 | nil=>exact fun e=>h2 e.symm
 | cons q l=>
   obtain ⟨_,b,d⟩:=h3 q rfl
   intro e
   have hne:cH (q :: l) p.rg.hi ≠ []:=by rw [e];exact h2
   have:=tX h4 hne
   have e2:p.rg.hi = q.rg.lo:=by grind
   rw [e2,(f5 h4).1] at e
   exact d ⟨e2,e.symm⟩
theorem iE:∀ {l m:List Pc},aO l → aO m → (∀ s,cH l s = cH m s) → l = m:=by
 intro l
 induction l with
 | nil=>
   intro m _ hm h
   cases m with
   | nil=>rfl
   | cons q m=>
     obtain ⟨a,b⟩:=f5 hm
     exact absurd ((h _).trans a).symm b
 | cons p l ih=>
   intro m hl hm h
   cases m with
   | nil=>
     obtain ⟨a,b⟩:=f5 hl
     exact absurd (a.symm.trans (h _)) b
   | cons q m=>
     obtain ⟨a1,a2⟩:=f5 hl
     obtain ⟨b1,b2⟩:=f5 hm
     obtain ⟨⟨hp,_,_⟩,_,hl'⟩:=(cn _ _).1 hl
     obtain ⟨⟨hq,_,_⟩,_,hm'⟩:=(cn _ _).1 hm
     have e1:p.rg.lo = q.rg.lo:=by
       have x:=tX hm (s:=p.rg.lo) (by rw [← h,a1];exact a2)
       have y:=tX hl (s:=q.rg.lo) (by rw [h,b1];exact b2)
       grind
     have e2:p.set = q.set:=by rw [← a1,← b1,h,e1]
     have inn:∀ {r r':Pc} {l l':List Pc},aO (r :: l) → aO (r' :: l') → eJ r.rg = true → eJ r'.rg = true → r.rg.lo = r'.rg.lo → r.set = r'.set → (∀ s,cH (r :: l) s = cH (r' :: l') s) → r.rg.op = false → r'.rg.op = false ∧ r'.rg.hi ≤ r.rg.hi:=by
       intro r r' l l' h1 h2 hr hr' z1 z2 hg ho
       have hE:=Fx h1 ho
       rw [hg,z2] at hE
       have hlt:r.rg.lo < r.rg.hi:=by
         rcases f0 hr with q|q
         · rw [ho] at q;cases q
         · exact q
       have hno:¬ bL r'.rg r.rg.hi = true:=fun c=>hE (g9 c)
       rw [b9 hr'] at hno
       have:r'.rg.op = false:=by
         rw [← Bool.not_eq_true];intro c;exact hno ⟨by grind,.inl c⟩
       refine ⟨this,?_⟩
       by_cases c:r.rg.hi < r'.rg.hi
       · exact absurd ⟨by grind,.inr c⟩ hno
       · grind
     have e3:p.rg.op = q.rg.op:=by
       cases o:p.rg.op with
       | false=>exact (inn hl hm hp hq e1 e2 h o).1.symm
       | true=>
         cases o':q.rg.op with
         | true=>rfl
         | false=>
           have:=(inn hm hl hq hp e1.symm e2.symm (fun s=>(h s).symm) o').1
           rw [o] at this;cases this
     have e4:p.rg.hi = q.rg.hi:=by
       cases o:p.rg.op with
       | false=>
         have x:=(inn hl hm hp hq e1 e2 h o).2
         have y:=(inn hm hl hq hp e1.symm e2.symm (fun s=>(h s).symm) (e3 ▸ o)).2
         grind
       | true=>
         have x:=(bH _).1 hp
         have y:=(bH _).1 hq
         rw [← e3,o] at y
         rw [o] at x
         simp at x y
         rw [x.2.2,y.2.2]
     have e:p = q:=by
       obtain ⟨⟨lo,hi,op⟩,st⟩:=p
       obtain ⟨⟨lo',hi',op'⟩,st'⟩:=q
       simp only at e1 e2 e3 e4
       rw [e1,e2,e3,e4]
     subst e
     rw [ih hl' hm' (fun s=>?_)]
     by_cases c:bL p.rg s = true
     · have no:∀ {t:List Pc},aO (p :: t) → cH t s = []:=fun {t} ht=>by
         refine Classical.byContradiction fun z=>?_
         obtain ⟨x,y⟩:=jE ht z
         rcases ((b9 hp s).1 c).2 with w|w
         · rw [x] at w;cases w
         · grind
       rw [no hl,no hm]
     · have:=h s
       rwa [dN c,dN c] at this
end Go.Proofs.YtembiemaiacdfaaGreat
namespace Go.Proofs.YtembiemaiacdfaaGreat
def rL (p q:Pc):Bool:=!p.rg.op && (decide (p.rg.hi = q.rg.lo) && decide (p.set = q.set))
def rM:Pc → List Pc → List Pc
 | c,[]=>[c]
 | c,p :: l=>if rL c p then rM ⟨⟨c.rg.lo,p.rg.hi,p.rg.op⟩,c.set⟩ l else c :: rM p l
def hY:List Pc → List Pc
 | []=>[]
 | p :: l=>rM p l
theorem Fy:∀ (l:List Pc) (c:Pc),∃ z t,rM c l = z :: t ∧ z.rg.lo = c.rg.lo ∧ z.set = c.set:=by
 intro l
 induction l with
 | nil=>intro c;exact ⟨c,[],rfl,rfl,rfl⟩
 | cons p l ih=>
   intro c
   rw [rM]
   split
   · obtain ⟨z,t,h1,h2,h3⟩:=ih ⟨⟨c.rg.lo,p.rg.hi,p.rg.op⟩,c.set⟩
     exact ⟨z,t,h1,h2,h3⟩
   · exact ⟨c,_,rfl,rfl,rfl⟩
def Beh (p q:Pc):Prop:=p.rg.op = false ∧ p.rg.hi ≤ q.rg.lo
theorem KN:∀ (l:List Pc) (c:Pc),(c :: l).Pairwise Beh → (∀ p ∈ c :: l,LL p) → aO (rM c l) ∧ ∀ s,cH (rM c l) s = cH (c :: l) s:=by
 intro l
 induction l with
 | nil=>
   intro c _ h
   exact ⟨(cn c []).2 ⟨h c (by simp),fun q hq=>by simp at hq,fv⟩,fun _=>rfl⟩
 | cons p l ih=>
   intro c hs h
   have hc:=h c (by simp)
   have hp:=h p (by simp)
   obtain ⟨s1,s2⟩:=List.pairwise_cons.1 hs
   obtain ⟨t1,t2⟩:=s1 p (by simp)
   obtain ⟨s4,s5⟩:=List.pairwise_cons.1 s2
   have clt:c.rg.lo < c.rg.hi:=by
     rcases f0 hc.1 with q|q
     · rw [t1] at q;cases q
     · exact q
   rw [rM]
   by_cases g:rL c p = true
   · rw [if_pos g]
     unfold rL at g
     simp only [Bool.and_eq_true,Bool.not_eq_true',decide_eq_true_eq] at g
     obtain ⟨_,g2,g3⟩:=g
     have r1:=(bH _).1 hc.1
     have r2:=(bH _).1 hp.1
     have hm:eJ ⟨c.rg.lo,p.rg.hi,p.rg.op⟩ = true:=(bH _).2 ⟨r1.1,r2.2.1,by
       cases o:p.rg.op with
       | true=>
         rw [o] at r2
         simpa using r2.2.2
       | false=>
         rcases f0 hp.1 with q|q
         · rw [o] at q;cases q
         · rw [if_neg (by simp),eM]
           simp only
           grind⟩
     have:=ih ⟨⟨c.rg.lo,p.rg.hi,p.rg.op⟩,c.set⟩ (List.pairwise_cons.2 ⟨fun z hz=>s4 z hz,s5⟩) (fun z hz=>by
       rcases List.mem_cons.1 hz with rfl|hz
       · exact ⟨hm,hc.2⟩
       · exact h z (by simp [hz]))
     refine ⟨this.1,fun s=>?_⟩
     rw [this.2 s,cH,cH,cH]
     have e:bL ⟨c.rg.lo,p.rg.hi,p.rg.op⟩ s = (bL c.rg s || bL p.rg s):=by
       rw [Bool.eq_iff_iff,Bool.or_eq_true,b9 hm,b9 hc.1,b9 hp.1]
       simp only
       rcases f0 hp.1 with q|q
       · simp only [q,t1]
         constructor
         · rintro ⟨a,_⟩
           by_cases z:s < c.rg.hi
           · exact .inl ⟨a,.inr z⟩
           · exact .inr ⟨by grind,.inl trivial⟩
         · rintro (⟨a,_⟩|⟨a,_⟩)
           · exact ⟨a,.inl trivial⟩
           · exact ⟨by grind,.inl trivial⟩
       · constructor
         · rintro ⟨a,b⟩
           by_cases z:s < c.rg.hi
           · exact .inl ⟨a,.inr z⟩
           · exact .inr ⟨by grind,b⟩
         · rintro (⟨a,b⟩|⟨a,b⟩)
           · refine ⟨a,.inr ?_⟩
             rcases b with b|b
             · rw [t1] at b;cases b
             · grind
           · exact ⟨by grind,b⟩
     rw [e]
     cases bL c.rg s with
     | true=>simp
     | false=>
       cases bL p.rg s with
       | true=>simp [g3]
       | false=>simp
   · rw [if_neg g]
     have:=ih p s2 (fun z hz=>h z (List.mem_cons_of_mem _ hz))
     obtain ⟨z,t,e1,e2,e3⟩:=Fy l p
     refine ⟨(cn _ _).2 ⟨hc,fun q hq=>?_,this.1⟩,fun s=>?_⟩
     · rw [e1] at hq
       cases hq
       refine ⟨t1,by rw [e2];exact t2,fun ⟨q1,q2⟩=>g ?_⟩
       unfold rL
       rw [e2] at q1
       rw [e3] at q2
       simp [t1,q1,q2]
     · rw [cH,this.2 s,cH.eq_def (c :: p :: l)]
theorem yX {l:List Pc} (hs:l.Pairwise Beh) (h:∀ p ∈ l,LL p):aO (hY l) ∧ ∀ s,cH (hY l) s = cH l s:=by
 cases l with
 | nil=>exact ⟨fv,fun _=>rfl⟩
 | cons x l=>exact KN l x hs h
def l6 (s:ByteArray):List ByteArray → Rg
 | []=>⟨s,emB,true⟩
 | t :: _=>⟨s,t,false⟩
def dQ (f:ByteArray → List Kn):List ByteArray → List Pc
 | []=>[]
 | e :: E=>(if (f e).length = 0 then [] else [⟨l6 e E,f e⟩]) ++ dQ f E
def kB (f:ByteArray → List Kn) (E:List ByteArray):List Pc:=hY (dQ f E)
def l7 (E:List ByteArray):Prop:=∀ m ∈ E,m.size ≤ 17
theorem nb {e:ByteArray} {E:List ByteArray} (h:uL (e :: E)) (ho:l7 (e :: E)):eJ (l6 e E) = true:=by
 cases E with
 | nil=>exact (bH _).2 ⟨ho e (by simp),by show (0:Nat) ≤ 17;decide,by simp [l6];rfl⟩
 | cons t E=>
   refine (bH _).2 ⟨ho e (by simp),ho t (by simp),?_⟩
   have:=(List.pairwise_cons.1 h).1 t (by simp)
   simp only [l6]
   exact this
theorem qs (f:ByteArray → List Kn) (hf:∀ s,bK (f s)):∀ (E:List ByteArray),uL E → l7 E → ∀ p ∈ dQ f E,LL p ∧ p.rg.lo ∈ E:=by
 intro E
 induction E with
 | nil=>intro _ _ p hp;simp [dQ] at hp
 | cons e E ih=>
   intro h ho p hp
   rw [dQ,List.mem_append] at hp
   rcases hp with hp|hp
   · split at hp
     · simp at hp
     · rename_i c
       have hp:p = ⟨l6 e E,f e⟩:=by simpa using hp
       subst hp
       refine ⟨⟨nb h ho,fun q=>c (by simp only at q;rw [q];rfl),hf e⟩,?_⟩
       have:(l6 e E).lo = e:=by cases E <;> rfl
       simp [this]
   · have:=ih (List.pairwise_cons.1 h).2 (fun m hm=>ho m (List.mem_cons_of_mem _ hm)) p hp
     exact ⟨this.1,List.mem_cons_of_mem _ this.2⟩
theorem Fz (f:ByteArray → List Kn) (hf:∀ s,bK (f s)):∀ (E:List ByteArray),uL E → l7 E → (dQ f E).Pairwise Beh:=by
 intro E
 induction E with
 | nil=>intro _ _;exact List.Pairwise.nil
 | cons e E ih=>
   intro h ho
   have h2:=(List.pairwise_cons.1 h).2
   have ho2:l7 E:=fun m hm=>ho m (List.mem_cons_of_mem _ hm)
   have h3:=ih h2 ho2
   rw [dQ]
   split
   · exact h3
   · refine List.pairwise_cons.2 ⟨fun z hz=>?_,h3⟩
     have h4:=(qs f hf E h2 ho2 z hz).2
     cases E with
     | nil=>simp at h4
     | cons t E=>
       refine ⟨rfl,?_⟩
       show t ≤ z.rg.lo
       rcases List.mem_cons.1 h4 with q|q
       · rw [q];grind
       · have:=(List.pairwise_cons.1 h2).1 _ q;grind
def Cb (f:ByteArray → List Kn) (E:List ByteArray):Prop:=∀ e n,e ≤ n → (∀ m ∈ E,m ≤ e ∨ n < m) → f e = f n
theorem Cc {l:List Pc} {s:ByteArray} (h:∀ p ∈ l,LL p ∧ s < p.rg.lo):cH l s = []:=by
 induction l with
 | nil=>rfl
 | cons p l ih=>
   obtain ⟨a,b⟩:=h p (by simp)
   rw [dN (fun c=>by have:=((b9 a.1 s).1 c).1;grind)]
   exact ih (fun q hq=>h q (List.mem_cons_of_mem _ hq))
theorem FA {f:ByteArray → List Kn} {M:List ByteArray} (hf:∀ s,bK (f s)) (hc:Cb f M):∀ (E:List ByteArray) (e:ByteArray),uL (e :: E) → l7 (e :: E) → (∀ m ∈ M,m ≤ e ∨ m ∈ E) → ∀ s,e ≤ s → cH (dQ f (e :: E)) s = f s:=by
 intro E
 induction E with
 | nil=>
   intro e h ho hM s hs
   have he : f e = f s := hc e s hs (fun m hm => by rcases hM m hm with q | q; · exact .inl q
                                                    · simp at q)
   rw [dQ,dQ,List.append_nil,← he]
   split
   · rename_i q
     rw [jD,List.eq_nil_of_length_eq_zero q]
   · exact g9 ((b9 (nb h ho) s).2 ⟨hs,.inl rfl⟩)
 | cons t E ih=>
   intro e h ho hM s hs
   obtain ⟨h1,h2⟩:=List.pairwise_cons.1 h
   have h3:=h1 t (by simp)
   have ho2:l7 (t :: E):=fun m hm=>ho m (List.mem_cons_of_mem _ hm)
   obtain ⟨h4,_⟩:=List.pairwise_cons.1 h2
   by_cases c:s < t
   · have he:f e = f s:=hc e s hs (fun m hm=>by
       rcases hM m hm with q|q
       · exact .inl q
       · rcases List.mem_cons.1 q with rfl|q
         · exact .inr c
         · have:=h4 m q;exact .inr (by grind))
     have hno:cH (dQ f (t :: E)) s = []:=Cc (fun p hp=>by
       obtain ⟨a,b⟩:=qs f hf _ h2 ho2 p hp
       refine ⟨a,?_⟩
       rcases List.mem_cons.1 b with q|q
       · rw [q];exact c
       · have:=h4 _ q;grind)
     rw [dQ,← he]
     split
     · rename_i q
       rw [List.nil_append,hno,List.eq_nil_of_length_eq_zero q]
     · exact g9 ((b9 (nb h ho) s).2 ⟨hs,.inr c⟩)
   · have:=ih t h2 ho2 (fun m hm=>by
       rcases hM m hm with q|q
       · exact .inl (by grind)
       · rcases List.mem_cons.1 q with rfl|q
         · exact .inl (by grind)
         · exact .inr q) s (by grind)
     rw [dQ]
     split
     · exact this
     · refine (dN (fun q=>?_)).trans this
       rcases ((b9 (nb h ho) s).1 q).2 with z|z
       · cases z
       · exact c z
theorem pl {f:ByteArray → List Kn} (hf:∀ s,bK (f s)) {E:List ByteArray} (hup:uL E) (ho:l7 E) (h0:emB ∈ E) (hc:Cb f E):aO (kB f E) ∧ ∀ s,cH (kB f E) s = f s:=by
 have h1:=yX (Fz f hf E hup ho) (fun p hp=>(qs f hf E hup ho p hp).1)
 refine ⟨h1.1,fun s=>(h1.2 s).trans ?_⟩
 cases E with
 | nil=>simp at h0
 | cons e E=>
   have he:e = emB:=by
     rcases List.mem_cons.1 h0 with q|q
     · exact q.symm
     · have:=(List.pairwise_cons.1 hup).1 _ q
       have:=Fv e
       grind
   exact FA hf hc E e hup ho (fun m hm=>by
     rcases List.mem_cons.1 hm with rfl|hm
     · exact .inl (by grind)
     · exact .inr hm) s (by rw [he];exact Fv s)
theorem I2 {f:ByteArray → List Kn} (hf:∀ s,bK (f s)) {E:List ByteArray} (hup:uL E) (ho:l7 E) (h0:emB ∈ E) (hc:Cb f E) {k:List Pc} (hk:aO k) (hg:∀ s,cH k s = f s):kB f E = k:=
 have h:=pl hf hup ho h0 hc
 iE h.1 hk (fun s=>(h.2 s).trans (hg s).symm)
theorem FB (f:ByteArray → List Kn):∀ E:List ByteArray,(dQ f E).length ≤ E.length:=by
 intro E
 induction E with
 | nil=>simp [dQ]
 | cons e E ih=>
   rw [dQ,List.length_append,List.length_cons]
   have:(if (f e).length = 0 then [] else [(⟨l6 e E,f e⟩:Pc)]).length ≤ 1:=by split <;> simp
   omega
theorem I3:∀ (l:List Pc) (c:Pc),(rM c l).length ≤ l.length + 1:=by
 intro l
 induction l with
 | nil=>intro c;simp [rM]
 | cons r l ih=>
   intro c
   rw [rM]
   split
   · have:=ih ⟨⟨c.rg.lo,r.rg.hi,r.rg.op⟩,c.set⟩;simp;omega
   · have:=ih r;simp;omega
theorem nc (f:ByteArray → List Kn) (E:List ByteArray):(kB f E).length ≤ E.length:=by
 have h1:=FB f E
 unfold kB
 cases h:dQ f E with
 | nil=>exact Nat.zero_le _
 | cons c l=>
   rw [h] at h1
   exact Nat.le_trans (I3 l c) h1
theorem yY {l:List Kn} {k:Kn} (h:bK (l ++ [k])):bK l:=fun i hi hi'=>by
 have h1:=h i (by simp;omega) (by simp;omega)
 have e1:(l ++ [k])[i]'(by simp;omega) = l[i]:=List.getElem_append_left hi
 rw [e1] at h1
 refine ⟨h1.1,h1.2.1,h1.2.2.1,h1.2.2.2.1,fun q=>?_⟩
 have:=h1.2.2.2.2 q
 rw [List.getElem_append_left (by omega)] at this
 exact this
theorem yZ {l:List Kn} {k:Kn} (h:bK (l ++ [k])):∀ (d i:Nat) (hi:i < l.length) (_:i + d + 1 = l.length),l[i].rep < k.rep:=by
 intro d
 induction d with
 | zero=>
   intro i hi hd
   have:=(h (i + 1) (by simp;omega) (by simp;omega)).2.2.2.2 (by omega)
   simp only [Nat.add_sub_cancel] at this
   rw [List.getElem_append_left hi,List.getElem_append_right (by omega)] at this
   simpa using this
 | succ d ihd=>
   intro i hi hd
   have:=(h (i + 1) (by simp;omega) (by simp;omega)).2.2.2.2 (by omega)
   simp only [Nat.add_sub_cancel] at this
   rw [List.getElem_append_left hi,List.getElem_append_left (by omega)] at this
   have:=ihd (i + 1) (by omega) (by omega)
   omega
theorem y0 {l:List Kn} {r:Nat} (h:∀ x ∈ l,x.rep ≠ (r:Int) + 1):aC l r = []:=by
 unfold aC
 rw [List.flatMap_eq_nil_iff]
 intro x hx
 rw [if_neg (h x hx)]
theorem kg:∀ (T:List (List Rn)) (i:Nat),(∀ l ∈ T,l = []) → aX id i T = []:=by
 intro T
 induction T with
 | nil=>intro i _;rfl
 | cons l T ih=>
   intro i h
   have:=h l List.mem_cons_self
   subst this
   rw [aX,ih _ (fun l hl=>h l (List.mem_cons_of_mem _ hl))]
   rfl
theorem qt (s:List Kn) (h:bK s):em id s = s:=by
 induction s using vV with
 | h0=>exact kg _ _ (fun l hl=>by
     obtain ⟨r,_,rfl⟩:=List.mem_map.1 hl
     rfl)
 | h1 l k ih=>
   have hl:=yY h
   have ih:=ih hl
   obtain ⟨a1,a2,a3,a4⟩:=sh h (i:=l.length) (by simp)
   rw [show (l ++ [k])[l.length]'(by simp) = k by simp] at a1 a2 a3 a4
   obtain ⟨r,hr⟩:∃ r:Nat,k.rep = (r:Int) + 1:=⟨(k.rep - 1).toNat,by omega⟩
   have hlt:∀ x ∈ l,x.rep < k.rep:=fun x hx=>by
     obtain ⟨i,hi,rfl⟩:=List.getElem_of_mem hx
     exact yZ h (l.length - 1 - i) i hi (by omega)
   have hn:∀ j,r ≤ j → aC l j = []:=fun j hj=>y0 (fun x hx=>by have:=hlt x hx;omega)
   have hr16:r < 16:=by omega
   unfold em at ih ⊢
   rw [qk l k hr16 hr,hn r (Nat.le_refl _),List.nil_append]
   have hsp:bj l = (bj l).take r ++ ([] :: (bj l).drop (r + 1)):=by
     have hg:=bn l hr16
     rw [hn r (Nat.le_refl _)] at hg
     obtain ⟨hlen,hg⟩:=List.getElem?_eq_some_iff.1 hg
     conv=>lhs;rw [← List.take_append_drop r (bj l),List.drop_eq_getElem_cons hlen,hg]
   have hlen:((bj l).take r).length = r:=by rw [List.length_take,aY];omega
   have hnil:∀ x ∈ (bj l).drop (r + 1),x = []:=fun x hx=>by
     obtain ⟨i,hi,rfl⟩:=List.getElem_of_mem hx
     rw [List.getElem_drop]
     have hi':r + 1 + i < 16:=by rw [List.length_drop,aY] at hi;omega
     have:=bn l hi'
     obtain ⟨_,hg⟩:=List.getElem?_eq_some_iff.1 this
     rw [hg];exact hn _ (by omega)
   rw [hsp,oT,hlen] at ih
   rw [aX,kg _ _ hnil] at ih
   rw [List.set_eq_take_append_cons_drop,if_pos (by rw [aY];exact hr16),oT,hlen,aX,kg _ _ hnil,Nat.zero_add]
   rw [show (if (id ([]:List Rn)).length = 0 then ([]:List Kn) else [⟨((0 + r:Nat):Int) + 1,id []⟩]) = [] from rfl,List.append_nil,List.append_nil] at ih
   rw [ih,if_neg (by simpa using a3),List.append_nil]
   congr 1
   rw [show id k.runs = k.runs from rfl,← hr]
section
theorem kY (s:List Kn) (hs:cD s) (h:bK s):Fn Tryz.prog 148 [eh s] (.own 130 2 (s.map Ap)):=by
 have h1:=J5 id s hs (fun l hl=>by
   have hok:=sn h l hl
   obtain ⟨r,_,rfl⟩:=List.mem_map.1 hl
   exact sr _ (by have:=dM s r;have:=hs.2;omega) hok)
 rw [qt s h] at h1
 exact h1
theorem mn (a b:List Kn) (ha:cD a) (hb:cD b) (h:bK a) (h':bK b):Fn Tryz.prog 124 [eh a,eh b] (bO (decide (a = b))):=
 Av a b a b (kY a ha h) (kY b hb h') ha.sz
end
end Go.Proofs.YtembiemaiacdfaaGreat
