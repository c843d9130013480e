/- Texts joined: KnE KnF VsP KnP SoP. -/
import Derived.Test.YtliiahjpiagdkaaGreatJ13
import Derived.Test.YtliiahjpiagdkaaGreatJ12
import Derived.Test.YtliiahjpiagdkaaGreatJ05
import Derived.Test.YtliiahjpiagdkaaGreatJ11
import Derived.Shelf.Slices.CompactS
set_option maxRecDepth 10000
set_option maxHeartbeats 8000000
namespace Go.Proofs.YtliiahjpiagdkaaGreat
def fF:List ByteArray → ByteArray → List ByteArray
 | [],n=>[n]
 | x :: l,n=>if x < n then x :: fF l n else if x = n then x :: l else n :: x :: l
theorem lW:∀ (l:List ByteArray) (n m:ByteArray),m ∈ fF l n ↔ m = n ∨ m ∈ l:=by
 intro l
 induction l with
 | nil=>intro n m;simp [fF]
 | cons x l ih=>
  intro n m
  rw [fF]
  split
  ·simp only [List.mem_cons,ih]
   constructor
   ·rintro (h|h|h) <;> simp [h]
   ·rintro (h|h|h) <;> simp [h]
  ·split
   ·rename_i e
    subst e
    simp
   ·simp
abbrev wW (l:List ByteArray):Prop:=l.Pairwise (· < ·)
theorem vV:∀ (l:List ByteArray) (n:ByteArray),wW l → wW (fF l n):=by
 intro l
 induction l with
 | nil=>intro n _;simp [fF]
 | cons x l ih=>
  intro n h
  obtain ⟨h1,h2⟩:=List.pairwise_cons.1 h
  rw [fF]
  split
  ·rename_i c
   refine List.pairwise_cons.2 ⟨fun z hz=>?_,ih n h2⟩
   rcases (lW _ _ _).1 hz with rfl|hz
   ·exact c
   ·exact h1 z hz
  ·split
   ·exact h
   ·refine List.pairwise_cons.2 ⟨fun z hz=>?_,h⟩
    rcases List.mem_cons.1 hz with rfl|hz
    ·grind
    ·have:=h1 z hz;grind
theorem Ie:∀ {l m:List ByteArray},wW l → wW m → (∀ s,s ∈ l ↔ s ∈ m) → l = m:=by
 intro l
 induction l with
 | nil=>
  intro m _ _ h
  cases m with
  | nil=>rfl
  | cons y m=>have:=(h y).2 (by simp);simp at this
 | cons x l ih=>
  intro m hl hm h
  cases m with
  | nil=>have:=(h x).1 (by simp);simp at this
  | cons y m=>
   obtain ⟨a1,a2⟩:=List.pairwise_cons.1 hl
   obtain ⟨b1,b2⟩:=List.pairwise_cons.1 hm
   have e:x = y:=by
    rcases List.mem_cons.1 ((h x).1 (by simp)) with q|q
    ·exact q
    ·rcases List.mem_cons.1 ((h y).2 (by simp)) with z|z
     ·exact z.symm
     ·have:=b1 x q;have:=a1 y z;grind
   subst e
   rw [ih a2 b2 (fun s=>?_)]
   constructor
   ·intro q
    have:=a1 s q
    rcases List.mem_cons.1 ((h s).1 (by simp [q])) with z|z
    ·subst z;grind
    ·exact z
   ·intro q
    have:=b1 s q
    rcases List.mem_cons.1 ((h s).2 (by simp [q])) with z|z
    ·subst z;grind
    ·exact z
def ji (e:List ByteArray) (r:Rg):List ByteArray:=if eO r then (if r.op then fF e r.lo else fF (fF e r.lo) r.hi) else e
def iw (e:List ByteArray) (l:List Rg):List ByteArray:=l.foldl ji e
theorem Ig {e:List ByteArray} {r:Rg} (h:wW e):wW (ji e r):=by
 unfold ji;split
 ·split
  ·exact vV _ _ h
  ·exact vV _ _ (vV _ _ h)
 ·exact h
theorem CK:∀ (l:List Rg) (e:List ByteArray),wW e → wW (iw e l):=by
 intro l
 induction l with
 | nil=>intro e h;exact h
 | cons r l ih=>intro e h;exact ih _ (Ig h)
def jJ (r:Rg) (m:ByteArray):Prop:=eO r = true ∧ (m = r.lo ∨ r.op = false ∧ m = r.hi)
theorem e8:∀ (l:List Rg) (e:List ByteArray) (m:ByteArray),m ∈ iw e l ↔ m ∈ e ∨ ∃ r ∈ l,jJ r m:=by
 intro l
 induction l with
 | nil=>intro e m;simp [iw]
 | cons r l ih=>
  intro e m
  show m ∈ iw (ji e r) l ↔ _
  rw [ih]
  have h1:m ∈ ji e r ↔ m ∈ e ∨ jJ r m:=by
   unfold ji jJ
   by_cases c:eO r = true
   ·rw [if_pos c]
    by_cases o:r.op = true
    ·rw [if_pos o,lW]
     simp [c,o,or_comm]
    ·rw [if_neg o,lW,lW]
     have o':r.op = false:=by simpa using o
     simp only [c,o',true_and]
     constructor
     ·rintro (h|h|h) <;> simp [h]
     ·rintro (h|h|h) <;> simp [h]
   ·rw [if_neg c]
    simp [c]
  rw [h1]
  simp only [List.mem_cons,exists_eq_or_imp,or_assoc]
theorem jY:∀ (l:List Rg) (e:List ByteArray),(iw e l).length ≤ e.length + 2 * l.length:=by
 have h1:∀ (l:List ByteArray) (n:ByteArray),(fF l n).length ≤ l.length + 1:=by
  intro l
  induction l with
  | nil=>intro n;simp [fF]
  | cons x l ih=>
   intro n
   rw [fF]
   split
   ·have:=ih n;simp;omega
   ·split <;> simp
 intro l
 induction l with
 | nil=>intro e;simp [iw]
 | cons r l ih=>
  intro e
  show (iw (ji e r) l).length ≤ _
  have h2:=ih (ji e r)
  have h3:(ji e r).length ≤ e.length + 2:=by
   unfold ji
   have a:=h1 (fF e r.lo) r.hi
   have b:=h1 e r.lo
   split
   ·split <;> omega
   ·omega
  rw [List.length_cons];omega
abbrev emB:ByteArray:=⟨#[]⟩
theorem Ih (s:ByteArray):emB ≤ s:=by
 show bu emB s ≤ 0
 unfold bu
 cases s.data.toList with
 | nil=>decide
 | cons x l=>simp [cz]
def db (k:List Pc) (s:ByteArray):List Kn:=match k with
 | []=>[]
 | p :: l=>if aZ p.rg s then p.set else db l s
theorem lX (s:ByteArray):db [] s = []:=rfl
theorem iV {p:Pc} {l:List Pc} {s:ByteArray} (h:aZ p.rg s = true):db (p :: l) s = p.set:=by rw [db,if_pos h]
theorem d7 {p:Pc} {l:List Pc} {s:ByteArray} (h:¬ aZ p.rg s = true):db (p :: l) s = db l s:=by rw [db,if_neg h]
theorem bO {r:Rg} (h:eO r = true) (s:ByteArray):aZ r s = true ↔ r.lo ≤ s ∧ (r.op = true ∨ s < r.hi):=by
 rw [iv h];simp
theorem Ii {r:Rg} (h:eO r = true):aZ r r.lo = true:=by
 rw [bO h]
 refine ⟨by grind,?_⟩
 rcases fZ h with q|q
 ·exact .inl q
 ·exact .inr q
def Pa (p:Pc):Prop:=eO p.rg = true ∧ p.set ≠ [] ∧ cg p.set
theorem jZ:aY []:=fun i hi=>by simp at hi
theorem ci (p:Pc) (l:List Pc):aY (p :: l) ↔ Pa p ∧ (∀ q,l.head? = some q → p.rg.op = false ∧ p.rg.hi ≤ q.rg.lo ∧ ¬ (p.rg.hi = q.rg.lo ∧ p.set = q.set)) ∧ aY l:=by
 constructor
 ·intro h
  have h0:=h 0 (by simp) (by simp)
  refine ⟨⟨h0.1,h0.2.1,h0.2.2.1⟩,fun q hq=>?_,fun i hi hi'=>?_⟩
  ·cases l with
   | nil=>cases hq
   | cons z l=>
    cases hq
    exact (h 1 (by simp) (by simp)).2.2.2 (by omega)
  ·have h1:=h (i + 1) (by simpa using hi) (by simpa using hi)
   simp only [List.getElem_cons_succ,Nat.add_sub_cancel] at h1
   refine ⟨h1.1,h1.2.1,h1.2.2.1,fun h0=>?_⟩
   have h2:=h1.2.2.2 (by omega)
   obtain ⟨j,rfl⟩:∃ j,i = j + 1:=⟨i - 1,by omega⟩
   exact h2
 ·rintro ⟨⟨h1,h2,h2'⟩,h3,h4⟩ i hi hi'
  cases i with
  | zero=>exact ⟨h1,h2,h2',fun q=>absurd q (Nat.lt_irrefl _)⟩
  | succ i=>
   have h5:=h4 i (by simpa using hi) (by simpa using hi)
   simp only [List.getElem_cons_succ,Nat.add_sub_cancel]
   refine ⟨h5.1,h5.2.1,h5.2.2.1,fun _=>?_⟩
   cases i with
   | zero=>
    cases l with
    | nil=>simp at hi
    | cons z l=>exact h3 z rfl
   | succ i=>
    exact h5.2.2.2 (by omega)
theorem j0 {p:Pc} {l:List Pc} (h:aY (p :: l)) {s:ByteArray} (hs:db l s ≠ []):p.rg.op = false ∧ p.rg.hi ≤ s:=by
 induction l generalizing p with
 | nil=>exact absurd rfl hs
 | cons q l ih=>
  obtain ⟨_,h2,h3⟩:=(ci _ _).1 h
  obtain ⟨a,b,_⟩:=h2 q rfl
  obtain ⟨⟨hq,_,_⟩,_,_⟩:=(ci _ _).1 h3
  refine ⟨a,?_⟩
  by_cases c:aZ q.rg s = true
  ·have:=((bO hq s).1 c).1
   grind
  ·rw [d7 c] at hs
   obtain ⟨_,d⟩:=ih h3 hs
   rcases fZ hq with z|z
   ·have:=(ih h3 hs).1;rw [z] at this;cases this
   ·grind
theorem vW {p:Pc} {l:List Pc} (h:aY (p :: l)) {s:ByteArray} (hs:db (p :: l) s ≠ []):p.rg.lo ≤ s:=by
 obtain ⟨⟨hp,_,_⟩,_,_⟩:=(ci _ _).1 h
 by_cases c:aZ p.rg s = true
 ·exact ((bO hp s).1 c).1
 ·rw [d7 c] at hs
  obtain ⟨a,b⟩:=j0 h hs
  rcases fZ hp with z|z
  ·rw [z] at a;cases a
  ·grind
theorem gN {p:Pc} {l:List Pc} (h:aY (p :: l)):db (p :: l) p.rg.lo = p.set ∧ p.set ≠ []:=by
 obtain ⟨⟨hp,h2,_⟩,_,_⟩:=(ci _ _).1 h
 exact ⟨iV (Ii hp),h2⟩
theorem Ij {p:Pc} {l:List Pc} (h:aY (p :: l)) (ho:p.rg.op = false):db (p :: l) p.rg.hi ≠ p.set:=by
 obtain ⟨⟨hp,h2,_⟩,h3,h4⟩:=(ci _ _).1 h
 have c:¬ aZ p.rg p.rg.hi = true:=fun q=>by
  rcases ((bO hp _).1 q).2 with z|z
  ·rw [ho] at z;cases z
  ·grind
 rw [d7 c]
 cases l with
 | nil=>exact fun e=>h2 e.symm
 | cons q l=>
  obtain ⟨_,b,d⟩:=h3 q rfl
  intro e
  have hne:db (q :: l) p.rg.hi ≠ []:=by rw [e];exact h2
  have:=vW h4 hne
  have e2:p.rg.hi = q.rg.lo:=by grind
  rw [e2,(gN h4).1] at e
  exact d ⟨e2,e.symm⟩
theorem nH:∀ {l m:List Pc},aY l → aY m → (∀ s,db l s = db m s) → l = m:=by
 intro l
 induction l with
 | nil=>
  intro m _ hm h
  cases m with
  | nil=>rfl
  | cons q m=>
   obtain ⟨a,b⟩:=gN hm
   exact absurd ((h _).trans a).symm b
 | cons p l ih=>
  intro m hl hm h
  cases m with
  | nil=>
   obtain ⟨a,b⟩:=gN hl
   exact absurd (a.symm.trans (h _)) b
  | cons q m=>
   obtain ⟨a1,a2⟩:=gN hl
   obtain ⟨b1,b2⟩:=gN hm
   obtain ⟨⟨hp,_,_⟩,_,hl'⟩:=(ci _ _).1 hl
   obtain ⟨⟨hq,_,_⟩,_,hm'⟩:=(ci _ _).1 hm
   have e1:p.rg.lo = q.rg.lo:=by
    have x:=vW hm (s:=p.rg.lo) (by rw [← h,a1];exact a2)
    have y:=vW hl (s:=q.rg.lo) (by rw [h,b1];exact b2)
    grind
   have e2:p.set = q.set:=by rw [← a1,← b1,h,e1]
   have inn:∀ {r r':Pc} {l l':List Pc},aY (r :: l) → aY (r' :: l') → eO r.rg = true → eO r'.rg = true → r.rg.lo = r'.rg.lo → r.set = r'.set → (∀ s,db (r :: l) s = db (r' :: l') s) → r.rg.op = false → r'.rg.op = false ∧ r'.rg.hi ≤ r.rg.hi:=by
    intro r r' l l' h1 h2 hr hr' z1 z2 hg ho
    have hE:=Ij h1 ho
    rw [hg,z2] at hE
    have hlt:r.rg.lo < r.rg.hi:=by
     rcases fZ hr with q|q
     ·rw [ho] at q;cases q
     ·exact q
    have hno:¬ aZ r'.rg r.rg.hi = true:=fun c=>hE (iV c)
    rw [bO hr'] at hno
    have:r'.rg.op = false:=by
     rw [← Bool.not_eq_true];intro c;exact hno ⟨by grind,.inl c⟩
    refine ⟨this,?_⟩
    by_cases c:r.rg.hi < r'.rg.hi
    ·exact absurd ⟨by grind,.inr c⟩ hno
    ·grind
   have e3:p.rg.op = q.rg.op:=by
    cases o:p.rg.op with
    | false=>exact (inn hl hm hp hq e1 e2 h o).1.symm
    | true=>
     cases o':q.rg.op with
     | true=>rfl
     | false=>
      have:=(inn hm hl hq hp e1.symm e2.symm (fun s=>(h s).symm) o').1
      rw [o] at this;cases this
   have e4:p.rg.hi = q.rg.hi:=by
    cases o:p.rg.op with
    | false=>
     have x:=(inn hl hm hp hq e1 e2 h o).2
     have y:=(inn hm hl hq hp e1.symm e2.symm (fun s=>(h s).symm) (e3 ▸ o)).2
     grind
    | true=>
     have x:=(bT _).1 hp
     have y:=(bT _).1 hq
     rw [← e3,o] at y
     rw [o] at x
     simp at x y
     rw [x.2.2,y.2.2]
   have e:p = q:=by
    obtain ⟨⟨lo,hi,op⟩,st⟩:=p
    obtain ⟨⟨lo',hi',op'⟩,st'⟩:=q
    simp only at e1 e2 e3 e4
    rw [e1,e2,e3,e4]
   subst e
   rw [ih hl' hm' (fun s=>?_)]
   by_cases c:aZ p.rg s = true
   ·have no:∀ {t:List Pc},aY (p :: t) → db t s = []:=fun {t} ht=>by
     refine Classical.byContradiction fun z=>?_
     obtain ⟨x,y⟩:=j0 ht z
     rcases ((bO hp s).1 c).2 with w|w
     ·rw [x] at w;cases w
     ·grind
    rw [no hl,no hm]
   ·have:=h s
    rwa [d7 c,d7 c] at this
end Go.Proofs.YtliiahjpiagdkaaGreat
namespace Go.Proofs.YtliiahjpiagdkaaGreat
def tT (p q:Pc):Bool:=!p.rg.op && (decide (p.rg.hi = q.rg.lo) && decide (p.set = q.set))
def sr:Pc → List Pc → List Pc
 | c,[]=>[c]
 | c,p :: l=>if tT c p then sr ⟨⟨c.rg.lo,p.rg.hi,p.rg.op⟩,c.set⟩ l else c :: sr p l
def gZ:List Pc → List Pc
 | []=>[]
 | p :: l=>sr p l
theorem Ik:∀ (l:List Pc) (c:Pc),∃ z t,sr c l = z :: t ∧ z.rg.lo = c.rg.lo ∧ z.set = c.set:=by
 intro l
 induction l with
 | nil=>intro c;exact ⟨c,[],rfl,rfl,rfl⟩
 | cons p l ih=>
  intro c
  rw [sr]
  split
  ·obtain ⟨z,t,h1,h2,h3⟩:=ih ⟨⟨c.rg.lo,p.rg.hi,p.rg.op⟩,c.set⟩
   exact ⟨z,t,h1,h2,h3⟩
  ·exact ⟨c,_,rfl,rfl,rfl⟩
def Beh (p q:Pc):Prop:=p.rg.op = false ∧ p.rg.hi ≤ q.rg.lo
theorem NP:∀ (l:List Pc) (c:Pc),(c :: l).Pairwise Beh → (∀ p ∈ c :: l,Pa p) → aY (sr c l) ∧ ∀ s,db (sr c l) s = db (c :: l) s:=by
 intro l
 induction l with
 | nil=>
  intro c _ h
  exact ⟨(ci c []).2 ⟨h c (by simp),fun q hq=>by simp at hq,jZ⟩,fun _=>rfl⟩
 | cons p l ih=>
  intro c hs h
  have hc:=h c (by simp)
  have hp:=h p (by simp)
  obtain ⟨s1,s2⟩:=List.pairwise_cons.1 hs
  obtain ⟨t1,t2⟩:=s1 p (by simp)
  obtain ⟨s4,s5⟩:=List.pairwise_cons.1 s2
  have clt:c.rg.lo < c.rg.hi:=by
   rcases fZ hc.1 with q|q
   ·rw [t1] at q;cases q
   ·exact q
  rw [sr]
  by_cases g:tT c p = true
  ·rw [if_pos g]
   unfold tT at g
   simp only [Bool.and_eq_true,Bool.not_eq_true',decide_eq_true_eq] at g
   obtain ⟨_,g2,g3⟩:=g
   have r1:=(bT _).1 hc.1
   have r2:=(bT _).1 hp.1
   have hm:eO ⟨c.rg.lo,p.rg.hi,p.rg.op⟩ = true:=(bT _).2 ⟨r1.1,r2.2.1,by
    cases o:p.rg.op with
    | true=>
     rw [o] at r2
     simpa using r2.2.2
    | false=>
     rcases fZ hp.1 with q|q
     ·rw [o] at q;cases q
     ·rw [if_neg (by simp),dz]
      simp only
      grind⟩
   have:=ih ⟨⟨c.rg.lo,p.rg.hi,p.rg.op⟩,c.set⟩ (List.pairwise_cons.2 ⟨fun z hz=>s4 z hz,s5⟩) (fun z hz=>by
    rcases List.mem_cons.1 hz with rfl|hz
    ·exact ⟨hm,hc.2⟩
    ·exact h z (by simp [hz]))
   refine ⟨this.1,fun s=>?_⟩
   rw [this.2 s,db,db,db]
   have e:aZ ⟨c.rg.lo,p.rg.hi,p.rg.op⟩ s = (aZ c.rg s || aZ p.rg s):=by
    rw [Bool.eq_iff_iff,Bool.or_eq_true,bO hm,bO hc.1,bO hp.1]
    simp only
    rcases fZ hp.1 with q|q
    ·simp only [q,t1]
     constructor
     ·rintro ⟨a,_⟩
      by_cases z:s < c.rg.hi
      ·exact .inl ⟨a,.inr z⟩
      ·exact .inr ⟨by grind,.inl trivial⟩
     ·rintro (⟨a,_⟩|⟨a,_⟩)
      ·exact ⟨a,.inl trivial⟩
      ·exact ⟨by grind,.inl trivial⟩
    ·constructor
     ·rintro ⟨a,b⟩
      by_cases z:s < c.rg.hi
      ·exact .inl ⟨a,.inr z⟩
      ·exact .inr ⟨by grind,b⟩
     ·rintro (⟨a,b⟩|⟨a,b⟩)
      ·refine ⟨a,.inr ?_⟩
       rcases b with b|b
       ·rw [t1] at b;cases b
       ·grind
      ·exact ⟨by grind,b⟩
   rw [e]
   cases aZ c.rg s with
   | true=>simp
   | false=>
    cases aZ p.rg s with
    | true=>simp [g3]
    | false=>simp
  ·rw [if_neg g]
   have:=ih p s2 (fun z hz=>h z (List.mem_cons_of_mem _ hz))
   obtain ⟨z,t,e1,e2,e3⟩:=Ik l p
   refine ⟨(ci _ _).2 ⟨hc,fun q hq=>?_,this.1⟩,fun s=>?_⟩
   ·rw [e1] at hq
    cases hq
    refine ⟨t1,by rw [e2];exact t2,fun ⟨q1,q2⟩=>g ?_⟩
    unfold tT
    rw [e2] at q1
    rw [e3] at q2
    simp [t1,q1,q2]
   ·rw [db,this.2 s,db.eq_def (c :: p :: l)]
theorem A9 {l:List Pc} (hs:l.Pairwise Beh) (h:∀ p ∈ l,Pa p):aY (gZ l) ∧ ∀ s,db (gZ l) s = db l s:=by
 cases l with
 | nil=>exact ⟨jZ,fun _=>rfl⟩
 | cons x l=>exact NP l x hs h
def lY (s:ByteArray):List ByteArray → Rg
 | []=>⟨s,emB,true⟩
 | t :: _=>⟨s,t,false⟩
def dZ (f:ByteArray → List Kn):List ByteArray → List Pc
 | []=>[]
 | e :: E=>(if (f e).length = 0 then [] else [⟨lY e E,f e⟩]) ++ dZ f E
def kL (f:ByteArray → List Kn) (E:List ByteArray):List Pc:=gZ (dZ f E)
def nj (E:List ByteArray):Prop:=∀ m ∈ E,m.size ≤ 17
theorem oU {e:ByteArray} {E:List ByteArray} (h:wW (e :: E)) (ho:nj (e :: E)):eO (lY e E) = true:=by
 cases E with
 | nil=>exact (bT _).2 ⟨ho e (by simp),by show (0:Nat) ≤ 17;decide,by simp [lY];rfl⟩
 | cons t E=>
  refine (bT _).2 ⟨ho e (by simp),ho t (by simp),?_⟩
  have:=(List.pairwise_cons.1 h).1 t (by simp)
  simp only [lY]
  exact this
theorem su (f:ByteArray → List Kn) (hf:∀ s,cg (f s)):∀ (E:List ByteArray),wW E → nj E → ∀ p ∈ dZ f E,Pa p ∧ p.rg.lo ∈ E:=by
 intro E
 induction E with
 | nil=>intro _ _ p hp;simp [dZ] at hp
 | cons e E ih=>
  intro h ho p hp
  rw [dZ,List.mem_append] at hp
  rcases hp with hp|hp
  ·split at hp
   ·simp at hp
   ·rename_i c
    have hp:p = ⟨lY e E,f e⟩:=by simpa using hp
    subst hp
    refine ⟨⟨oU h ho,fun q=>c (by simp only at q;rw [q];rfl),hf e⟩,?_⟩
    have:(lY e E).lo = e:=by cases E <;> rfl
    simp [this]
  ·have:=ih (List.pairwise_cons.1 h).2 (fun m hm=>ho m (List.mem_cons_of_mem _ hm)) p hp
   exact ⟨this.1,List.mem_cons_of_mem _ this.2⟩
theorem Il (f:ByteArray → List Kn) (hf:∀ s,cg (f s)):∀ (E:List ByteArray),wW E → nj E → (dZ f E).Pairwise Beh:=by
 intro E
 induction E with
 | nil=>intro _ _;exact List.Pairwise.nil
 | cons e E ih=>
  intro h ho
  have h2:=(List.pairwise_cons.1 h).2
  have ho2:nj E:=fun m hm=>ho m (List.mem_cons_of_mem _ hm)
  have h3:=ih h2 ho2
  rw [dZ]
  split
  ·exact h3
  ·refine List.pairwise_cons.2 ⟨fun z hz=>?_,h3⟩
   have h4:=(su f hf E h2 ho2 z hz).2
   cases E with
   | nil=>simp at h4
   | cons t E=>
    refine ⟨rfl,?_⟩
    show t ≤ z.rg.lo
    rcases List.mem_cons.1 h4 with q|q
    ·rw [q];grind
    ·have:=(List.pairwise_cons.1 h2).1 _ q;grind
def Im (f:ByteArray → List Kn) (E:List ByteArray):Prop:=∀ e n,e ≤ n → (∀ m ∈ E,m ≤ e ∨ n < m) → f e = f n
theorem El {l:List Pc} {s:ByteArray} (h:∀ p ∈ l,Pa p ∧ s < p.rg.lo):db l s = []:=by
 induction l with
 | nil=>rfl
 | cons p l ih=>
  obtain ⟨a,b⟩:=h p (by simp)
  rw [d7 (fun c=>by have:=((bO a.1 s).1 c).1;grind)]
  exact ih (fun q hq=>h q (List.mem_cons_of_mem _ hq))
theorem Io {f:ByteArray → List Kn} {M:List ByteArray} (hf:∀ s,cg (f s)) (hc:Im f M):∀ (E:List ByteArray) (e:ByteArray),wW (e :: E) → nj (e :: E) → (∀ m ∈ M,m ≤ e ∨ m ∈ E) → ∀ s,e ≤ s → db (dZ f (e :: E)) s = f s:=by
 intro E
 induction E with
 | nil=>
  intro e h ho hM s hs
  have he : f e = f s := hc e s hs (fun m hm => by rcases hM m hm with q | q; · exact .inl q
                                                   ·simp at q)
  rw [dZ,dZ,List.append_nil,← he]
  split
  ·rename_i q
   rw [lX,List.eq_nil_of_length_eq_zero q]
  ·exact iV ((bO (oU h ho) s).2 ⟨hs,.inl rfl⟩)
 | cons t E ih=>
  intro e h ho hM s hs
  obtain ⟨h1,h2⟩:=List.pairwise_cons.1 h
  have h3:=h1 t (by simp)
  have ho2:nj (t :: E):=fun m hm=>ho m (List.mem_cons_of_mem _ hm)
  obtain ⟨h4,_⟩:=List.pairwise_cons.1 h2
  by_cases c:s < t
  ·have he:f e = f s:=hc e s hs (fun m hm=>by
    rcases hM m hm with q|q
    ·exact .inl q
    ·rcases List.mem_cons.1 q with rfl|q
     ·exact .inr c
     ·have:=h4 m q;exact .inr (by grind))
   have hno:db (dZ f (t :: E)) s = []:=El (fun p hp=>by
    obtain ⟨a,b⟩:=su f hf _ h2 ho2 p hp
    refine ⟨a,?_⟩
    rcases List.mem_cons.1 b with q|q
    ·rw [q];exact c
    ·have:=h4 _ q;grind)
   rw [dZ,← he]
   split
   ·rename_i q
    rw [List.nil_append,hno,List.eq_nil_of_length_eq_zero q]
   ·exact iV ((bO (oU h ho) s).2 ⟨hs,.inr c⟩)
  ·have:=ih t h2 ho2 (fun m hm=>by
    rcases hM m hm with q|q
    ·exact .inl (by grind)
    ·rcases List.mem_cons.1 q with rfl|q
     ·exact .inl (by grind)
     ·exact .inr q) s (by grind)
   rw [dZ]
   split
   ·exact this
   ·refine (d7 (fun q=>?_)).trans this
    rcases ((bO (oU h ho) s).1 q).2 with z|z
    ·cases z
    ·exact c z
theorem vX {f:ByteArray → List Kn} (hf:∀ s,cg (f s)) {E:List ByteArray} (hup:wW E) (ho:nj E) (h0:emB ∈ E) (hc:Im f E):aY (kL f E) ∧ ∀ s,db (kL f E) s = f s:=by
 have h1:=A9 (Il f hf E hup ho) (fun p hp=>(su f hf E hup ho p hp).1)
 refine ⟨h1.1,fun s=>(h1.2 s).trans ?_⟩
 cases E with
 | nil=>simp at h0
 | cons e E=>
  have he:e = emB:=by
   rcases List.mem_cons.1 h0 with q|q
   ·exact q.symm
   ·have:=(List.pairwise_cons.1 hup).1 _ q
    have:=Ih e
    grind
  exact Io hf hc E e hup ho (fun m hm=>by
   rcases List.mem_cons.1 hm with rfl|hm
   ·exact .inl (by grind)
   ·exact .inr hm) s (by rw [he];exact Ih s)
theorem LG {f:ByteArray → List Kn} (hf:∀ s,cg (f s)) {E:List ByteArray} (hup:wW E) (ho:nj E) (h0:emB ∈ E) (hc:Im f E) {k:List Pc} (hk:aY k) (hg:∀ s,db k s = f s):kL f E = k:=
 have h:=vX hf hup ho h0 hc
 nH h.1 hk (fun s=>(h.2 s).trans (hg s).symm)
theorem Ip (f:ByteArray → List Kn):∀ E:List ByteArray,(dZ f E).length ≤ E.length:=by
 intro E
 induction E with
 | nil=>simp [dZ]
 | cons e E ih=>
  rw [dZ,List.length_append,List.length_cons]
  have:(if (f e).length = 0 then [] else [(⟨lY e E,f e⟩:Pc)]).length ≤ 1:=by split <;> simp
  omega
theorem LH:∀ (l:List Pc) (c:Pc),(sr c l).length ≤ l.length + 1:=by
 intro l
 induction l with
 | nil=>intro c;simp [sr]
 | cons r l ih=>
  intro c
  rw [sr]
  split
  ·have:=ih ⟨⟨c.rg.lo,r.rg.hi,r.rg.op⟩,c.set⟩;simp;omega
  ·have:=ih r;simp;omega
theorem sv (f:ByteArray → List Kn) (E:List ByteArray):(kL f E).length ≤ E.length:=by
 have h1:=Ip f E
 unfold kL
 cases h:dZ f E with
 | nil=>exact Nat.zero_le _
 | cons c l=>
  rw [h] at h1
  exact Nat.le_trans (LH l c) h1
theorem Ba {l:List Kn} {k:Kn} (h:cg (l ++ [k])):cg l:=fun i hi hi'=>by
 have h1:=h i (by simp;omega) (by simp;omega)
 have e1:(l ++ [k])[i]'(by simp;omega) = l[i]:=List.getElem_append_left hi
 rw [e1] at h1
 refine ⟨h1.1,h1.2.1,h1.2.2.1,h1.2.2.2.1,fun q=>?_⟩
 have:=h1.2.2.2.2 q
 rw [List.getElem_append_left (by omega)] at this
 exact this
theorem Bb {l:List Kn} {k:Kn} (h:cg (l ++ [k])):∀ (d i:Nat) (hi:i < l.length) (_:i + d + 1 = l.length),l[i].rep < k.rep:=by
 intro d
 induction d with
 | zero=>
  intro i hi hd
  have:=(h (i + 1) (by simp;omega) (by simp;omega)).2.2.2.2 (by omega)
  simp only [Nat.add_sub_cancel] at this
  rw [List.getElem_append_left hi,List.getElem_append_right (by omega)] at this
  simpa using this
 | succ d ihd=>
  intro i hi hd
  have:=(h (i + 1) (by simp;omega) (by simp;omega)).2.2.2.2 (by omega)
  simp only [Nat.add_sub_cancel] at this
  rw [List.getElem_append_left hi,List.getElem_append_left (by omega)] at this
  have:=ihd (i + 1) (by omega) (by omega)
  omega
theorem Bc {l:List Kn} {r:Nat} (h:∀ x ∈ l,x.rep ≠ (r:Int) + 1):aK l r = []:=by
 unfold aK
 rw [List.flatMap_eq_nil_iff]
 intro x hx
 rw [if_neg (h x hx)]
theorem kM:∀ (T:List (List Rn)) (i:Nat),(∀ l ∈ T,l = []) → bj id i T = []:=by
 intro T
 induction T with
 | nil=>intro i _;rfl
 | cons l T ih=>
  intro i h
  have:=h l List.mem_cons_self
  subst this
  rw [bj,ih _ (fun l hl=>h l (List.mem_cons_of_mem _ hl))]
  rfl
theorem sw (s:List Kn) (h:cg s):ff id s = s:=by
 induction s using yg with
 | h0=>exact kM _ _ (fun l hl=>by
  obtain ⟨r,_,rfl⟩:=List.mem_map.1 hl
  rfl)
 | h1 l k ih=>
  have hl:=Ba h
  have ih:=ih hl
  obtain ⟨a1,a2,a3,a4⟩:=uz h (i:=l.length) (by simp)
  rw [show (l ++ [k])[l.length]'(by simp) = k by simp] at a1 a2 a3 a4
  obtain ⟨r,hr⟩:∃ r:Nat,k.rep = (r:Int) + 1:=⟨(k.rep - 1).toNat,by omega⟩
  have hlt:∀ x ∈ l,x.rep < k.rep:=fun x hx=>by
   obtain ⟨i,hi,rfl⟩:=List.getElem_of_mem hx
   exact Bb h (l.length - 1 - i) i hi (by omega)
  have hn:∀ j,r ≤ j → aK l j = []:=fun j hj=>Bc (fun x hx=>by have:=hlt x hx;omega)
  have hr16:r < 16:=by omega
  unfold ff at ih ⊢
  rw [sa l k hr16 hr,hn r (Nat.le_refl _),List.nil_append]
  have hsp:b6 l = (b6 l).take r ++ ([] :: (b6 l).drop (r + 1)):=by
   have hg:=b9 l hr16
   rw [hn r (Nat.le_refl _)] at hg
   obtain ⟨hlen,hg⟩:=List.getElem?_eq_some_iff.1 hg
   conv=>lhs;rw [← List.take_append_drop r (b6 l),List.drop_eq_getElem_cons hlen,hg]
  have hlen:((b6 l).take r).length = r:=by rw [List.length_take,bG];omega
  have hnil:∀ x ∈ (b6 l).drop (r + 1),x = []:=fun x hx=>by
   obtain ⟨i,hi,rfl⟩:=List.getElem_of_mem hx
   rw [List.getElem_drop]
   have hi':r + 1 + i < 16:=by rw [List.length_drop,bG] at hi;omega
   have:=b9 l hi'
   obtain ⟨_,hg⟩:=List.getElem?_eq_some_iff.1 this
   rw [hg];exact hn _ (by omega)
  rw [hsp,qr,hlen] at ih
  rw [bj,kM _ _ hnil] at ih
  rw [List.set_eq_take_append_cons_drop,if_pos (by rw [bG];exact hr16),qr,hlen,bj,kM _ _ hnil,Nat.zero_add]
  rw [show (if (id ([]:List Rn)).length = 0 then ([]:List Kn) else [⟨((0 + r:Nat):Int) + 1,id []⟩]) = [] from rfl,List.append_nil,List.append_nil] at ih
  rw [ih,if_neg (by simpa using a3),List.append_nil]
  congr 1
  rw [show id k.runs = k.runs from rfl,← hr]
section
theorem lZ (s:List Kn) (hs:cR s) (h:cg s):Fn Tryz.prog 169 [eM s] (.own 95 2 (s.map CA)):=by
 have h1:=M3 id s hs (fun l hl=>by
  have hok:=uD h l hl
  obtain ⟨r,_,rfl⟩:=List.mem_map.1 hl
  exact uF _ (by have:=d6 s r;have:=hs.2;omega) hok)
 rw [sw s h] at h1
 exact h1
theorem nI (a b:List Kn) (ha:cR a) (hb:cR b) (h:cg a) (h':cg b):Fn Tryz.prog 123 [eM a,eM b] (cw (decide (a = b))):=
 CD a b a b (lZ a ha h) (lZ b hb h') ha.sz
end
end Go.Proofs.YtliiahjpiagdkaaGreat
namespace Go.Proofs.YtliiahjpiagdkaaGreat
theorem gd:cg []:=fun i hi=>by simp at hi
theorem kN (k:Kn) (l:List Kn):cg (k :: l) ↔ (1 ≤ k.rep ∧ k.rep ≤ 16 ∧ k.runs ≠ [] ∧ cu k.runs) ∧ (∀ q,l.head? = some q → k.rep < q.rep) ∧ cg l:=by
 constructor
 ·intro h
  have h0:=h 0 (by simp) (by simp)
  refine ⟨⟨h0.1,h0.2.1,h0.2.2.1,h0.2.2.2.1⟩,fun q hq=>?_,fun i hi hi'=>?_⟩
  ·cases l with
   | nil=>cases hq
   | cons z l=>
    cases hq
    exact (h 1 (by simp) (by simp)).2.2.2.2 (by omega)
  ·have h1:=h (i + 1) (by simpa using hi) (by simpa using hi)
   simp only [List.getElem_cons_succ,Nat.add_sub_cancel] at h1
   refine ⟨h1.1,h1.2.1,h1.2.2.1,h1.2.2.2.1,fun h0=>?_⟩
   have h2:=h1.2.2.2.2 (by omega)
   obtain ⟨j,rfl⟩:∃ j,i = j + 1:=⟨i - 1,by omega⟩
   exact h2
 ·rintro ⟨⟨h1,h2,h2',h2''⟩,h3,h4⟩ i hi hi'
  cases i with
  | zero=>exact ⟨h1,h2,h2',h2'',fun q=>absurd q (Nat.lt_irrefl _)⟩
  | succ i=>
   have h5:=h4 i (by simpa using hi) (by simpa using hi)
   simp only [List.getElem_cons_succ,Nat.add_sub_cancel]
   refine ⟨h5.1,h5.2.1,h5.2.2.1,h5.2.2.2.1,fun _=>?_⟩
   cases i with
   | zero=>
    cases l with
    | nil=>simp at hi
    | cons z l=>exact h3 z rfl
   | succ i=>exact h5.2.2.2.2 (by omega)
theorem Bd:∀ (T:List (List Rn)) (i:Nat),i + T.length ≤ 16 → cg (bj ofR i T) ∧ ∀ q,(bj ofR i T).head? = some q → (i:Int) < q.rep:=by
 intro T
 induction T with
 | nil=>intro i _;exact ⟨gd,fun q hq=>by cases hq⟩
 | cons l T ih=>
  intro i hi
  rw [List.length_cons] at hi
  obtain ⟨h1,h2⟩:=ih (i + 1) (by omega)
  rw [bj]
  by_cases c:(ofR l).length = 0
  ·rw [if_pos c,List.nil_append]
   exact ⟨h1,fun q hq=>by have:=h2 q hq;omega⟩
  ·rw [if_neg c]
   refine ⟨(kN _ _).2 ⟨⟨by simp only;omega,by simp only;omega,fun e=>c (by simp only at e;rw [e];rfl),nz l⟩,fun q hq=>?_,h1⟩,fun q hq=>?_⟩
   ·have:=h2 q hq;simp only;omega
   ·cases hq;simp only;omega
theorem CL (s:List Kn):cg (ff ofR s):=(Bd _ 0 (by rw [bG];omega)).1
theorem Bf:∀ (T:List (List Rn)) (i:Nat),(∀ l ∈ T,cu l) → bj ofR i T = bj id i T:=by
 intro T
 induction T with
 | nil=>intro i _;rfl
 | cons l T ih=>
  intro i h
  rw [bj,bj,AQ (h l (by simp)),ih _ (fun l hl=>h l (List.mem_cons_of_mem _ hl))]
  rfl
theorem kO {s:List Kn} (h:cg s):ff ofR s = s:=by
 have:=sw s h
 unfold ff at this ⊢
 rw [Bf _ _ (uD h)]
 exact this
theorem Bg:∀ (T:List (List Rn)) (i r:Nat),aK (bj ofR i T) r = if h:i ≤ r ∧ r - i < T.length then ofR (T[r - i]'h.2) else []:=by
 intro T
 induction T with
 | nil=>intro i r;rw [dif_neg (by simp)];rfl
 | cons l T ih=>
  intro i r
  rw [bj]
  have happ:∀ a b:List Kn,aK (a ++ b) r = aK a r ++ aK b r:=fun a b=>by unfold aK;rw [List.flatMap_append]
  rw [happ,ih]
  have hhead:aK (if (ofR l).length = 0 then [] else [⟨(i:Int) + 1,ofR l⟩]) r = if i = r then ofR l else []:=by
   by_cases c:(ofR l).length = 0
   ·rw [if_pos c]
    split
    ·exact (List.eq_nil_of_length_eq_zero c).symm
    ·rfl
   ·rw [if_neg c]
    unfold aK
    simp only [List.flatMap_cons,List.flatMap_nil,List.append_nil]
    by_cases e:i = r
    ·rw [if_pos (by omega),if_pos e]
    ·rw [if_neg (by omega),if_neg e]
  rw [hhead]
  by_cases e:i = r
  ·subst e
   rw [if_pos rfl,dif_neg (by omega),List.append_nil,dif_pos ⟨Nat.le_refl _,by simp⟩]
   simp
  ·rw [if_neg e,List.nil_append]
   by_cases c:i + 1 ≤ r ∧ r - (i + 1) < T.length
   ·rw [dif_pos c,dif_pos ⟨by omega,by rw [List.length_cons];omega⟩]
    obtain ⟨d,hd⟩:∃ d,r - i = d + 1:=⟨r - i - 1,by omega⟩
    have hd':r - (i + 1) = d:=by omega
    simp only [hd,hd',List.getElem_cons_succ]
   ·rw [dif_neg c,dif_neg (by rw [List.length_cons];omega)]
theorem nJ (s:List Kn):b6 (ff ofR s) = (b6 s).map ofR:=by
 apply List.ext_getElem?
 intro i
 by_cases hi:i < 16
 ·have hT:=bG s
  rw [b9 _ hi,List.getElem?_map,b9 _ hi]
  unfold ff
  rw [Bg,dif_pos ⟨Nat.zero_le _,by omega⟩]
  have:=b9 s hi
  obtain ⟨h1,h2⟩:=List.getElem?_eq_some_iff.1 this
  simp only [Nat.sub_zero,h2,Option.map_some]
 ·rw [List.getElem?_eq_none (by rw [bG];omega),List.getElem?_eq_none (by rw [List.length_map,bG];omega)]
def qs (g:List Rn → List Rn → List Rn) (a b:List Kn):List Kn:=bj id 0 (List.zipWith g (b6 a) (b6 b))
def NQ (a b:List Rn):List Rn:=Ly (tS (fun x y=>x || y) a b) a b
theorem Iq (a b:List Rn):NQ a b = ofR (a ++ b):=NL a b
theorem qt:∀ (T:List (List Rn)) (i:Nat),bj id i (T.map ofR) = bj ofR i T:=by
 intro T
 induction T with
 | nil=>intro i;rfl
 | cons l T ih=>intro i;rw [List.map_cons,bj,bj,ih];rfl
theorem uH (a b:List Kn):b6 (a ++ b) = List.zipWith (· ++ ·) (b6 a) (b6 b):=by
 apply List.ext_getElem?
 intro i
 by_cases hi:i < 16
 ·rw [b9 _ hi,List.getElem?_zipWith,b9 _ hi,b9 _ hi]
  simp only
  unfold aK
  rw [List.flatMap_append]
 ·rw [List.getElem?_eq_none (by rw [bG];omega),List.getElem?_eq_none (by rw [List.length_zipWith,bG,bG];omega)]
theorem uI {g h:List Rn → List Rn → List Rn}:∀ (T U:List (List Rn)),(∀ t u,t ∈ T → u ∈ U → g t u = h t u) → List.zipWith g T U = List.zipWith h T U:=by
 intro T
 induction T with
 | nil=>intro U _;rfl
 | cons t T ih=>
  intro U hh
  cases U with
  | nil=>rfl
  | cons u U=>
   rw [List.zipWith_cons_cons,List.zipWith_cons_cons,hh t u (by simp) (by simp),ih U (fun t u a b=>hh t u (List.mem_cons_of_mem _ a) (List.mem_cons_of_mem _ b))]
theorem yB (X Y:List Kn):qs NQ (ff ofR X) (ff ofR Y) = ff ofR (X ++ Y):=by
 unfold qs
 rw [nJ,nJ,List.zipWith_map]
 unfold ff
 rw [uH,← qt,List.map_zipWith]
 congr 1
 refine uI _ _ (fun t u _ _=>?_)
 rw [Iq]
 exact Hr (fun n=>by rw [ir,ir,gn,gn])
def iW (k:List Pc) (s:ByteArray):List Kn:=ff ofR (k.flatMap fun p=>if aZ p.rg s then p.set else [])
theorem pN (k:List Pc) (s:ByteArray):cg (iW k s):=CL _
theorem CM (a b:List Pc) (s:ByteArray):qs NQ (iW a s) (iW b s) = iW (a ++ b) s:=by
 unfold iW
 rw [yB,List.flatMap_append]
theorem Em {k:List Pc} (h:aY k) (s:ByteArray):(k.flatMap fun p=>if aZ p.rg s then p.set else []) = db k s:=by
 induction k with
 | nil=>rfl
 | cons p k ih=>
  obtain ⟨⟨hp,_,_⟩,_,hk⟩:=(ci _ _).1 h
  rw [List.flatMap_cons,ih hk]
  by_cases c:aZ p.rg s = true
  ·rw [if_pos c,iV c]
   have:db k s = []:=by
    refine Classical.byContradiction fun z=>?_
    obtain ⟨x,y⟩:=j0 h z
    rcases ((bO hp s).1 c).2 with w|w
    ·rw [x] at w;cases w
    ·grind
   rw [this,List.append_nil]
  ·rw [if_neg c,List.nil_append,d7 c]
theorem LI {k:List Pc} (h:aY k) (s:ByteArray):cg (db k s):=by
 induction k with
 | nil=>exact gd
 | cons p k ih=>
  obtain ⟨⟨_,_,h3⟩,_,hk⟩:=(ci _ _).1 h
  rw [db]
  split
  ·exact h3
  ·exact ih hk
theorem eP {k:List Pc} (h:aY k) (s:ByteArray):iW k s = db k s:=by
 unfold iW
 rw [Em h,kO (LI h s)]
def bB (k:List Pc):List Rg:=k.map Pc.rg
def gP (k:List Pc):List ByteArray:=iw [emB] (bB k)
theorem vY (k:List Pc):wW (gP k):=CK _ _ (by simp)
theorem CN (k:List Pc):emB ∈ gP k:=(e8 _ _ _).2 (.inl (by simp))
theorem vZ (k:List Pc):nj (gP k):=fun m hm=>by
 rcases (e8 _ _ _).1 hm with h|⟨r,_,h1,h2⟩
 ·have h:m = emB:=by simpa using h
  rw [h];decide
 ·have:=(bT r).1 h1
  rcases h2 with h2|⟨_,h2⟩ <;> rw [h2]
  ·exact this.1
  ·exact this.2.1
theorem pO {r:Rg} {e n:ByteArray} (hen:e ≤ n) (h:∀ m,jJ r m → m ≤ e ∨ n < m):aZ r e = aZ r n:=by
 cases c:eO r with
 | false=>unfold aZ;rw [c];rfl
 | true=>
  rw [Bool.eq_iff_iff,bO c,bO c]
  have h1:=h r.lo ⟨c,.inl rfl⟩
  cases o:r.op with
  | true=>
   constructor
   ·rintro ⟨a,_⟩;exact ⟨by grind,.inl rfl⟩
   ·rintro ⟨a,_⟩;exact ⟨by grind,.inl rfl⟩
  | false=>
   have h2:=h r.hi ⟨c,.inr ⟨o,rfl⟩⟩
   constructor
   ·rintro ⟨a,b|b⟩
    ·cases b
    ·exact ⟨by grind,.inr (by grind)⟩
   ·rintro ⟨a,b|b⟩
    ·cases b
    ·exact ⟨by grind,.inr (by grind)⟩
theorem CO {k:List Pc} {e n:ByteArray} (hen:e ≤ n) (h:∀ p ∈ k,∀ m,jJ p.rg m → m ≤ e ∨ n < m):iW k e = iW k n:=by
 unfold iW
 congr 1
 rw [List.flatMap_def,List.flatMap_def]
 congr 1
 exact List.map_congr_left fun p hp=>by rw [pO hen (h p hp)]
theorem yC {k:List Pc} {p:Pc} (hp:p ∈ k) {m:ByteArray} (h:jJ p.rg m):m ∈ gP k:=(e8 _ _ _).2 (.inr ⟨p.rg,List.mem_map_of_mem hp,h⟩)
def qu (k:List Pc):List Pc:=kL (iW k) (gP k)
theorem CP (k:List Pc):Im (iW k) (gP k):=fun _ _ hen h=>CO hen (fun _ hp m hm=>h m (yC hp hm))
theorem nK (k:List Pc):aY (qu k) ∧ ∀ s,db (qu k) s = iW k s:=vX (pN k) (vY k) (vZ k) (CN k) (CP k)
theorem Bh {k:List Pc} (h:aY k):qu k = k:=LG (pN k) (vY k) (vZ k) (CN k) (CP k) h (fun s=>(eP h s).symm)
end Go.Proofs.YtliiahjpiagdkaaGreat
namespace Go.Proofs.YtliiahjpiagdkaaGreat
open Go.RowKit Go.Shelf
abbrev yD (l:List UInt8):ByteArray:=⟨l.toArray⟩
abbrev l6 (s:ByteArray):List UInt8:=s.data.toList
theorem q8 (s:ByteArray):yD (l6 s) = s:=by cases s;rfl
def gB (l:List ByteArray):List ByteArray:=(Lib.compact (l.map l6)).map yD
section
variable {d:Array (List UInt8)}
theorem v6:∀ (m:Nat) (x:List UInt8),x ∈ Lib.compactUpTo d m ↔ ∃ j,j < m ∧ d[j]! = x:=by
 intro m
 induction m with
 | zero=>intro x;simp [Lib.compactUpTo]
 | succ m ih=>
  intro x
  rw [Lib.compactUpTo_succ,List.mem_append,ih]
  by_cases k:Lib.keeps d m = true
  ·rw [if_pos k]
   constructor
   ·rintro (⟨j,h1,h2⟩|h)
    ·exact ⟨j,by omega,h2⟩
    ·exact ⟨m,by omega,by simpa using Eq.symm (List.mem_singleton.1 h)⟩
   ·rintro ⟨j,h1,h2⟩
    rcases Nat.lt_or_ge j m with q|q
    ·exact .inl ⟨j,q,h2⟩
    ·obtain rfl:j = m:=by omega
     exact .inr (by rw [h2];exact List.mem_singleton.2 rfl)
  ·rw [if_neg k]
   constructor
   ·rintro (⟨j,h1,h2⟩|h)
    ·exact ⟨j,by omega,h2⟩
    ·cases h
   ·rintro ⟨j,h1,h2⟩
    rcases Nat.lt_or_ge j m with q|q
    ·exact .inl ⟨j,q,h2⟩
    ·obtain rfl:j = m:=by omega
     have:¬ (j = 0 ∨ d[j]! ≠ d[j - 1]!):=by
      intro z;exact k (by unfold Lib.keeps;exact decide_eq_true z)
     have h3:d[j]! = d[j - 1]!:=Classical.byContradiction fun z=>this (.inr z)
     exact .inl ⟨j - 1,by omega,by rw [← h3];exact h2⟩
theorem NR (h:∀ i j,i < j → j < d.size → ¬ yD d[j]! < yD d[i]!):∀ m,m ≤ d.size → ((Lib.compactUpTo d m).map yD).Pairwise (· < ·):=by
 intro m
 induction m with
 | zero=>intro _;simp [Lib.compactUpTo]
 | succ m ih=>
  intro hm
  have h1:=ih (by omega)
  rw [Lib.compactUpTo_succ]
  by_cases k:Lib.keeps d m = true
  ·rw [if_pos k,List.map_append,List.pairwise_append]
   refine ⟨h1,by simp,fun x hx y hy=>?_⟩
   have hy:y = yD d[m]!:=by simpa using hy
   subst hy
   obtain ⟨z,hz,rfl⟩:=List.mem_map.1 hx
   obtain ⟨j,hj,rfl⟩:=(v6 m z).1 hz
   have k':m = 0 ∨ d[m]! ≠ d[m - 1]!:=by unfold Lib.keeps at k;exact of_decide_eq_true k
   have a:=h (m - 1) m (by omega) (by omega)
   have ne:yD d[m]! ≠ yD d[m - 1]!:=fun e=>by
    rcases k' with q|q
    ·omega
    ·exact q (by have:=congrArg l6 e;exact this)
   rcases Nat.lt_or_ge j (m - 1) with q|q
   ·have b:=h j (m - 1) q (by omega)
    grind
   ·obtain rfl:j = m - 1:=by omega
    grind
  ·rw [if_neg k,List.append_nil]
   exact h1
end
theorem Bi {l:List ByteArray} (h:l.Pairwise (fun x y=>¬ y < x)):wW (gB l) ∧ ∀ s,s ∈ gB l ↔ s ∈ l:=by
 have get:∀ i (hi:i < l.length),(l.map l6).toArray[i]! = l6 l[i]:=fun i hi=>by
  rw [getElem!_pos _ i (by simpa using hi)];simp
 unfold gB Lib.compact
 refine ⟨NR (fun i j hij hj=>?_) _ (by simp),fun s=>?_⟩
 ·have hj:j < l.length:=by simpa using hj
  rw [get i (by omega),get j hj,q8,q8]
  exact List.pairwise_iff_getElem.1 h i j (by omega) hj hij
 ·rw [List.mem_map]
  constructor
  ·rintro ⟨x,hx,rfl⟩
   obtain ⟨j,hj,rfl⟩:=(v6 _ _).1 hx
   have hj:j < l.length:=by simpa using hj
   rw [get j hj,q8]
   exact List.getElem_mem hj
  ·intro hs
   obtain ⟨i,hi,rfl⟩:=List.getElem_of_mem hs
   exact ⟨l6 l[i],(v6 _ _).2 ⟨i,by simpa using hi,get i hi⟩,q8 _⟩
theorem En (l:List ByteArray):(gB l).length ≤ l.length:=by
 unfold gB Lib.compact Lib.compactUpTo
 simp only [List.length_map]
 have:=List.length_filter_le (Lib.keeps (List.map l6 l).toArray) (List.range l.length)
 simpa using this
theorem Ir {l E:List ByteArray} (h:∀ s ∈ l,s.size ≤ 1000000000000) (hu:wW E) (hm:∀ s,s ∈ E ↔ s ∈ l):gB (ni l) = E:=by
 obtain ⟨h1,h2⟩:=r8 h
 obtain ⟨h3,h4⟩:=Bi h2
 exact Ie h3 hu (fun s=>by rw [h4,h1.mem_iff,hm])
def coCompS_ren:Go.Shelf.Ren:=⟨fun|194=>175|n=>n,fun|0=>0|3=>3|4=>4|9=>9|31=>166|n=>n,fun n=>n⟩
theorem LJ (h:Tryz.f175 = Body.n194 coCompS_ren):Lays.n194 Tryz.prog coCompS_ren:={ mixed:=by kernel_rfl,f194:=Tryz.func175.trans (congrArg some h),t0:=Tryz.underlying0,a0:=Tryz.isAgg0,z0:=Tryz.sizeOf0,v0:=Tryz.zeroValue0,t3:=Tryz.underlying3,a3:=Tryz.isAgg3,z3:=Tryz.sizeOf3,v3:=Tryz.zeroValue3,t4:=Tryz.underlying4,a4:=Tryz.isAgg4,z4:=Tryz.sizeOf4,v4:=Tryz.zeroValue4,t9:=Tryz.underlying9,a9:=Tryz.isAgg9,z9:=Tryz.sizeOf9,v9:=Tryz.zeroValue9,t31:=Tryz.underlying166,a31:=Tryz.isAgg166,z31:=Tryz.sizeOf166,v31:=Tryz.zeroValue166 }
theorem Iu (l:List ByteArray) (hl:l.length ≤ 1000000000) :
 de Tryz.prog 175 [.row 2000 0] [(2000,.row 9 1 (l.map strP))] (.row 3000 0) [(3000,.row 9 1 ((gB l).map strP))]:=by
 refine ⟨nA Tryz.func175 (by kernel_rfl) (by kernel_rfl),?_⟩
 intro C w vs hW hN hO hvl hvs hb
 obtain ⟨v0,rfl⟩:∃ v0,vs = [v0]:=by match vs,hvl with|[a],_=>exact ⟨a,rfl⟩
 have h0:=hvs 0 v0 _ rfl rfl
 have e0:v0 = C.G0.rh 2000:=h0.2 rfl
 subst e0
 have hrow:=hb 2000
 have L:=LJ (by kernel_rfl)
 rcases hrow with ⟨q1,q2⟩|⟨cap,cs,q1,q2,q3,q4,q5,q6,q7⟩
 ·have hl0:l = []:=by simpa using q2
  rw [q1]
  refine (Any.slices_Compact_string_empty L none 0 w).mono ?_
  rintro e' w' ⟨rfl,rfl⟩
  refine ⟨_,⟨C.G0.ow,C.G0.ph,fun i=>if i = 3000 then .slice none 0 0 else C.G0.rh i⟩,rfl,⟨rfl,rfl,rfl,Nat.le_refl _,fun _ _ _=>rfl,fun b id h=>⟨(hO b id h).1,.inr (hO b id h).2⟩,fun id hf=>⟨rfl,?_⟩⟩,⟨Nat.le_refl _,fun _=>rfl⟩,fun id=>?_⟩
  ·by_cases q:id = 3000
   ·subst q;cases hf
   ·exact if_neg q
  ·by_cases hid:id = 3000
   ·subst hid
    exact .inl ⟨rfl,by rw [hl0];rfl⟩
   ·rw [show cW id [(3000,Blk.row 9 1 ((gB l).map strP))] = .none by simp [cW,dm hid]];trivial
 ·rw [List.length_map] at q1 q4
  obtain ⟨b,hb0⟩:∃ b,b = C.G0.ph 2000:=⟨_,rfl⟩
  rw [← hb0] at q1 q2 q3
  have hbl:=hO b 2000 q3
  have hH:Sort.Holds encStr w b 0 (l.map l6).toArray:=by
   intro t ht
   have ht':t < l.length:=by simpa using ht
   obtain ⟨_,g⟩:=q7 t (strP l[t]) (by rw [List.getElem?_map,List.getElem?_eq_getElem ht'];rfl)
   obtain ⟨y,y1,_,y3⟩:=g 0 _ rfl
   have y3:y = .string l[t]:=y3
   subst y3
   rw [Nat.mul_one,Nat.add_zero] at y1
   rw [getElem!_pos _ t (by simpa using ht'),Nat.zero_add]
   refine ⟨?_,by simp [World.frozen?,q2]⟩
   have e:encStr ((l.map l6).toArray[t]'(by simpa using ht')) = .string l[t]:=by simp [encStr]
   rw [e]
   simp [World.cell?,q2,y1]
  have:=Any.slices_Compact_string (P:=Tryz.prog) (ρ:=coCompS_ren) L b 0 cap (l.map l6) w hH (by simp;omega) (by simpa using q4)
  rw [List.length_map] at this
  rw [q1]
  refine this.mono ?_
  have hcl:=En l
  have hcE:(gB l).map l6 = Lib.compact (l.map l6):=by
   unfold gB;rw [List.map_map];exact List.map_id' _
  have hcL:(Lib.compact (l.map l6)).length = (gB l).length:=by rw [← hcE,List.length_map]
  rw [hcL]
  generalize Lib.compact (l.map l6) = Z at *
  rintro e' w' ⟨rfl,n,rfl⟩
  have hblock:∀ (f:Array Value → Array Value) b',b' ≠ b → (Sort.mapBlock (Sort.ahead w n) b f).heap[b']? = w.heap[b']?:=fun f b' h'=>by
   show ((w.heap.modify b (Sort.onCells f)))[b']? = _
   rw [Array.getElem?_modify,if_neg (Ne.symm h')]
  have hthis:∀ (f:Array Value → Array Value),(Sort.mapBlock (Sort.ahead w n) b f).heap[b]? = some (.cells (f cs) 9 (0,0)):=fun f=>by
   show ((w.heap.modify b (Sort.onCells f)))[b]? = _
   rw [Array.getElem?_modify,if_pos rfl,q2]
   rfl
  have hsz:∀ (f:Array Value → Array Value),w.heap.size = (Sort.mapBlock (Sort.ahead w n) b f).heap.size:=fun f=>by
   show _ = (w.heap.modify b (Sort.onCells f)).size
   simp
  unfold Sort.putRow
  generalize hF:Sort.putCells encStr 0 (Z ++ List.replicate (l.length - (gB l).length) []).toArray = f
  refine ⟨_,⟨fun i=>if C.G0.ow i = some 2000 then some 3000 else C.G0.ow i,fun i=>if i = 3000 then b else C.G0.ph i,fun i=>if i = 3000 then .slice (some ⟨b,0,none⟩) (gB l).length cap else C.G0.rh i⟩,rfl,
   ⟨rfl,rfl,rfl,Nat.le_of_eq (hsz f),fun b' _ h'=>hblock f b' (fun e=>h' (e ▸ hbl.2)),fun b' id h=>?_,fun id hf=>?_⟩,⟨Nat.le_refl _,fun _=>rfl⟩,fun id=>?_⟩
  ·simp only at h
   have:C.G0.ow b' ≠ none:=by
    intro e;rw [if_neg (by rw [e];simp),e] at h;cases h
   obtain ⟨id',he⟩:=Option.ne_none_iff_exists'.1 this
   have:=hO b' id' he
   exact ⟨by rw [← hsz f];exact this.1,.inr this.2⟩
  ·by_cases q:id = 3000
   ·subst q;cases hf
   ·exact ⟨if_neg q,if_neg q⟩
  ·by_cases hid:id = 3000
   ·subst hid
    refine .inr ⟨cap,f cs,?_,?_,?_,?_,q5,?_,?_⟩
    ·simp only [if_true,List.length_map]
    ·simp only [if_true];exact hthis f
    ·simp only [if_true];rw [q3];rfl
    ·rw [List.length_map];omega
    ·rw [← hF,pD];exact q6
    ·intro i ps hi
     rw [List.getElem?_map] at hi
     obtain ⟨x,hx,rfl⟩:=Option.map_eq_some_iff.1 hi
     refine ⟨rfl,fun j A hj=>?_⟩
     obtain rfl:j = 0:=by
      have h1:j < 1:=(List.getElem?_eq_some_iff.1 hj).1
      omega
     cases hj
     obtain ⟨hi',hx'⟩:=List.getElem?_eq_some_iff.1 hx
     have hzl:Z.length = (gB l).length:=by rw [← hcE,List.length_map]
     rw [Nat.mul_one,Nat.add_zero,← hF,put_get _ _ _ _ (by rw [q6];omega) (by simp;omega)]
     refine ⟨_,rfl,rfl,?_⟩
     show Value.string _ = Value.string x
     rw [getElem!_pos _ i (by simp;omega)]
     have e3:(Z ++ List.replicate (l.length - (gB l).length) []).toArray[i]'(by simp;omega) = l6 x:=by
      have hiz:i < Z.length:=by omega
      have e4:Z[i]'hiz = l6 x:=by
       have:(gB l).map l6 = Z:=hcE
       subst this
       rw [List.getElem_map,hx']
      rw [List.getElem_toArray,List.getElem_append_left hiz,e4]
     rw [e3]
   ·rw [show cW id [(3000,Blk.row 9 1 ((gB l).map strP))] = .none by simp [cW,dm hid]];trivial
end Go.Proofs.YtliiahjpiagdkaaGreat
